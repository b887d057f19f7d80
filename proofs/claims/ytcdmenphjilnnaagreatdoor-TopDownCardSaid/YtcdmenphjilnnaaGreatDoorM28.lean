/-
  Parts of the proofs of the laws of the whole (what the functions compute, and plain laws of it); no conditions.
-/
import Derived.Test.YtcdmenphjilnnaaGreatDoorM26
import Derived.Test.YtcdmenphjilnnaaGreatDoorM27
set_option linter.unusedVariables false
set_option linter.unusedSimpArgs false
set_option maxRecDepth 100000
set_option maxHeartbeats 1000000
open Go.Proofs.Tryz
open Go renaming World->ax,Value->bd,Calls->bl
open Go.RowKit renaming Below->dd
open Option renaming some->de,none->dl
open Bool renaming true->dE,false->dT
open Go.Proofs.Tryz renaming prog->ed
namespace Go.Proofs.YtcdmenphjilnnaaGreatDoor
open Go.RowKit Go.Con
theorem EL{hH:bI}{W:ax}{a i:Nat}{G:Gh}{M:aT}(h:dB hH W a G M)(hi:i<5)(t c:Int)(u:Option Addr)(w v:Nat)(hu:(M.nd i).up=dT):
  bl ed 21 #[ptr a,.agg #[(8:Int),(i:Int),t,c,.slice u w v]] W λe I=>e= .returned (.tuple #[])/\ir hH W a (M.jT i c.toNat) I:=by
 obtain⟨K,k⟩:=aK ((G.n i).b);obtain⟨P,ro,Q,n,x,y,m⟩:=h.nodeAt;have f:=m i hi;rw[<-k]at f;unfold ptr at f;have o:=h.dM;have i0:(0:Int)<=(i:Int):=by omega
 have i5:(i:Int)<5:=by omega
 have z:W.cell? (a,0)=de (.slice (P,ro) 5 Q):=by rw[<-n];exact(aR o 0).t rfl
 have C:=ae h;have B:=ae k;have E:=ae f;have D:=ae x;have T:=ae y;have U:=ae n;have S:=ae m;have J:=ae z;have H:=ae (hF o);have r:=ae hu;clear hu;clear h k f x y n m o z;show bl ed 21 #[.pointer (de ⟨a,0,dl⟩),.agg #[.int .i64 8,.int .i64 (i:Int),.int .i64 t,.int .i64 c,.slice u w v]] W _;go_enter func21,ntmps21
 go_upto_region 1 with fail
 generalize j:World.alloc _ _=Y;obtain⟨R,g⟩:=aK W.heap.size;have b:=ae (eZ j g);have d:=ae (gv j);have V:=ae g;rw[<-g];clear j g;have d0:=ej b.o 0 rfl;have L:=EW d.o H.o J.o;have N:=EW d.o D.o E.o;have O:=od (hF b.o) (ej b.o 1 rfl);go_upto_region 26 with fail
 refine ct (by kernel_rfl) (by kernel_rfl) ?_;repeat (go_big_quiet_step (fail))
 refine IR λA p=>?_;clear L N O d0;have q:=ae (d.o.t (p.o.m d.o.size));have X:=ae ((p.o.block R (hF b.o)).t b.o);have s:=ae (C.o.below q.o);have l:=(s.o.nd i hi).dM;rw[<-B.o]at l;have e1:A.cell? (K,1)=de (.bool dT):=(aR l 1).t (by show de (Value.bool (M.nd i).up)=_;rw[r.o]);have F:=ae (show ir hH W a (M.jT i c.toNat) A by
  have e:(M.jT i c.toNat)=M:=by
   unfold aT.jT;dsimp only;rw[ak (by rw[r.o];decide)]
  rw[e];exact⟨hH,G,s.o,cG.below q.o⟩)
 clear l;go_wp2_with fail
 first|refine mh rfl rfl ⟨rfl,?_⟩|refine jH rfl rfl ⟨rfl,?_⟩
 exact F.o
theorem EI{hH:bI}{W:ax}{a i:Nat}{G:Gh}{M:aT}(h:dB hH W a G M)(hi:i<5)(s y:Int)(t:Option Addr)(v u:Nat)(hu:(M.nd i).up=dE):
  bl ed 21 #[ptr a,.agg #[(9:Int),(i:Int),s,y,.slice t v u]] W λe I=>e= .returned (.tuple #[])/\ir hH W a (M.start i) I:=by
 obtain⟨K,j⟩:=aK ((G.n i).b);obtain⟨P,ro,Q,m,w,x,l⟩:=h.nodeAt;have d:=l i hi;rw[<-j]at d;unfold ptr at d;have n:=h.dM;have i0:(0:Int)<=(i:Int):=by omega
 have i5:(i:Int)<5:=by omega
 have z:W.cell? (a,0)=de (.slice (P,ro) 5 Q):=by rw[<-m];exact(aR n 0).t rfl
 have C:=ae h;have B:=ae j;have E:=ae d;have D:=ae w;have T:=ae x;have U:=ae m;have S:=ae l;have J:=ae z;have H:=ae (hF n);have q:=ae hu;clear hu;clear h j d w x m l n z;show bl ed 21 #[.pointer (de ⟨a,0,dl⟩),.agg #[.int .i64 9,.int .i64 (i:Int),.int .i64 s,.int .i64 y,.slice t v u]] W _;go_enter func21,ntmps21
 go_upto_region 1 with fail
 generalize g:World.alloc _ _=Y;obtain⟨R,f⟩:=aK W.heap.size;have b:=ae (eZ g f);have c:=ae (gv g);have V:=ae f;rw[<-f];clear g f;have d0:=ej b.o 0 rfl;have L:=EW c.o H.o J.o;have N:=EW c.o D.o E.o;have O:=od (hF b.o) (ej b.o 1 rfl);go_upto_region 2 with fail
 refine ct (by kernel_rfl) (by kernel_rfl) ?_;repeat (go_big_quiet_step (fail))
 refine IR λA o=>?_;clear L N O d0;have p:=ae (c.o.t (o.o.m c.o.size));have X:=ae ((o.o.block R (hF b.o)).t b.o);have r:=ae (C.o.below p.o);have k:=(r.o.nd i hi).dM;rw[<-B.o]at k;have e1:A.cell? (K,1)=de (.bool dE):=(aR k 1).t (by show de (Value.bool (M.nd i).up)=_;rw[q.o]);have F:=ae (show ir hH W a (M.start i) A by
  have e:(M.start i)=M:=by
   unfold aT.start;dsimp only;rw[ar q.o]
  rw[e];exact⟨hH,G,r.o,cG.below p.o⟩)
 clear k;go_wp2_with fail
 first|refine mh rfl rfl ⟨rfl,?_⟩|refine jH rfl rfl ⟨rfl,?_⟩
 exact F.o
theorem EH{hH:bI}{W:ax}{g i:Nat}{G:Gh}{M:aT}(h:dB hH W g G M)(hi:i<5)(aa kp:Int)(da:Option Addr)(dn dc:Nat)(hu:(M.nd i).up=dT)(d7:0<=(M.nd i).iZ)(d8:(M.nd i).iZ<=(M.nd i).D.length)(hD:(M.nd i).D.length<=100000):
  bl ed 21 #[ptr g,.agg #[(9:Int),(i:Int),aa,kp,.slice da dn dc]] W λe W'=>e= .returned (.tuple #[])/\ir hH W g (M.start i) W':=by
 obtain⟨S,a6⟩:=aK ((G.n i).b);obtain⟨f,ro,rc,X,d3,d6,a9⟩:=h.nodeAt;have V:=a9 i hi;rw[<-a6]at V;unfold ptr at V;have b3:=h.dM;have i0:(0:Int)<=(i:Int):=by omega
 have i5:(i:Int)<5:=by omega
 have w0:W.cell? (g,0)=de (.slice (f,ro) 5 rc):=by rw[<-X];exact(aR b3 0).t rfl
 have HR:=ae h;have e5:=ae a6;have b8:=ae V;have P:=ae d3;have f1:=ae d6;have f2:=ae X;have g5:=ae a9;have W0:=ae w0;have a1:=ae (hF b3);have e9:=ae (show∃c,W.heap[f]?=de (.cells c 69 (0,0)) by
  have h1:=h.nodes;rw[X]at h1;rcases h1.2 with⟨-,h3⟩|⟨b2,h0,g8,c,h2,-,-,-,h6,-⟩
  ·omega
  ·injection h2 with e1;injection e1 with e1;injection e1 with e1;subst e1;exact⟨c,h6⟩)
 have b9:=ae d7;have f3:=ae d8;have HD:=ae hD;clear d7 d8 hD;have HU:=ae hu;have b7:=ae h.hi;clear hu;clear h a6 V d3 d6 X a9 b3 w0;show bl ed 21 #[.pointer (de ⟨g,0,dl⟩),.agg #[.int .i64 9,.int .i64 (i:Int),.int .i64 aa,.int .i64 kp,.slice da dn dc]] W _;go_enter func21,ntmps21
 go_upto_region 1 with fail
 generalize d:World.alloc _ _=w1;obtain⟨x3,Y⟩:=aK W.heap.size;have I:=ae (eZ d Y);have N:=ae (gv d);have g6:=ae Y;rw[<-Y];clear d Y;have d0:=ej I.o 0 rfl;have m0:=EW N.o a1.o W0.o;have m1:=EW N.o P.o b8.o;have m2:=od (hF I.o) (ej I.o 1 rfl);go_upto_region 2 with fail
 refine ct (by kernel_rfl) (by kernel_rfl) ?_;repeat (go_big_quiet_step (fail))
 refine IR λu b4=>?_;clear m0 m1 m2 d0;have H:=ae (N.o.t (b4.o.m N.o.size));have c0:=ae ((b4.o.block x3 (hF I.o)).t I.o);have Q:=ae (HR.o.below H.o);have K:=(Q.o.nd i hi).dM;rw[<-e5.o]at K;have U:=(Q.o.nd i hi).pt.mg;obtain⟨ea,ec,T,-,-⟩:=id U.1.slice;obtain⟨en,c5⟩:=aK ((M.nd i).D.length);rw[<-c5]at T;rw[T]at U;obtain⟨sy,z⟩:=aK ((M.nd i).iZ);have e1:u.cell? (S,1)=de (.bool dT):=(aR K 1).t (by show de (Value.bool (M.nd i).up)=_;rw[HU.o]);have e2:u.cell? (S,2)=de (.slice ea en ec):=(aR K 2).t (by show de (G.n i).mg=_;rw[T]);have e3:u.cell? (S,3)=sy:=(aR K 3).t (by rw[z];rfl);obtain⟨k,hk⟩:=aK ((cE eL.zero (M.nd i).D).2);have hkl:k<=(M.nd i).D.length:=by rw[hk];exact nw (M.nd i).D.length eL.zero (M.nd i).D (ag _)
 obtain⟨B,L⟩:∃s:Int,s=min sy (k:Int):=⟨_,rfl⟩
 have b0:=Be (.slice ea en ec) (M.nd i).D sy B u U.1 (by rw[z];exact b9.o) (by rw[z];exact f3.o) HD.o Q.o.kn.1 (by rw[L,hk]);rw[<-hk]at b0;have c8:((M.nd i).D.take k).length=k:=by rw[aM];omega
 obtain⟨⟨⟨Z,p2⟩,al⟩,hA⟩:∃A,A=(cE eL.zero ((M.nd i).D.take k)).1:=⟨_,rfl⟩
 obtain⟨rk,d5⟩:=aK ((cE eL.zero ((M.nd i).D.take k)).2);have a0:=ae (λw v (hv:Rd w v ((M.nd i).D.take k)) (hkn:Kn w)=>by
  have h1:=rU v ((M.nd i).D.take k) B w hv (by have:=b9.o;rw[L,z];omega) (by rw[c8,L];omega) (by have:=HD.o;omega) hkn;unfold yx at h1;rw[<-hA,<-d5]at h1;exact h1)
 have e8:=ae b0;have e6:=ae (show M.start i=M.aX i (dZ.blank dE ((M.nd i).D.take k) B ⟨(Z,p2),al⟩) by
  unfold aT.start;dsimp only;rw[ak (by rw[HU.o];decide),<-hk,<-hA,L,z])
 clear K U T c5 z hk hkl L b0 c8 hA d5;dsimp only at a0;go_upto_region 5 with(go_at_call 36;refine e8.o.m ?_;rintro e w3 ⟨tv,rfl,a7,c2⟩;obtain⟨C,D,e0,-,-⟩:=id a7.rd.slice;obtain⟨E,d9⟩:∃n,n=((M.nd i).D.take k).length:=⟨_,rfl⟩;rw[<-d9]at e0;subst e0;have b5:=ae c2;have OT:=ae a7;clear a7 c2 d9)
 generalize d:World.alloc _ _=F;have x:=ae (show dd u.heap.size u F by rw[<-d];exact b5.o.alloc b5.o.size _);obtain⟨g0,a4⟩:=aK w3.heap.size;have R:=ae (eZ d a4);have a3:=ae (show Own F u.heap.size (.slice C E D) ((M.nd i).D.take k) by rw[<-d];exact OT.o.alloc _);rw[<-a4];clear d a4 e1 e2 e3;have t0:=ej R.o 0 rfl;have t1:=ej R.o 1 rfl;have c7:Kn F:=(Q.o.below x.o).kn.1;have d4:=a0.o F (.slice C E D) a3.o.rd c7;have e7:=ae d4;clear d4 c7 a0;go_upto_region 6 with(go_at_call 37;refine e7.o.m ?_;rintro e w5 ⟨hb5,va,vn,vc,rfl,d2⟩;have b6:=ae hb5;have OV:=ae d2;clear hb5 d2)
 clear t0 t1;generalize d:World.alloc _ _=l;have O:=ae (show dd F.heap.size F l by rw[<-d];exact b6.o.alloc b6.o.size _);obtain⟨g7,a5⟩:=aK w5.heap.size;have f9:=ae (eZ d a5);have f5:=ae (show dG hH l (.slice va vn vc) al from⟨OV.o.aV.stay (by rw[<-d];exact(aj _ _).alloc (ag _) _),λg2 q hq=>b7.o q (by
  have h1:=(lV OV.o q hq).1;have h2:=H.o.size;have h3:=x.o.size;omega)⟩)
 rw[<-a5];clear d a5;have f8:=ae ((O.o.block g0 (hF R.o)).t R.o);have o:=ae (H.o.t ((x.o.t (O.o.m x.o.size)).m H.o.size));have R4:=ae (HR.o.below o.o);have f6:=ae (show AL hH l (.slice C E D) ((M.nd i).D.take k)from⟨a3.o.rd.stay O.o,λg2 q hq=>b7.o q (aE H.o.size (a3.o.lt q hq).1)⟩);have f7:=f5;have c1:=ae (((x.o.t (O.o.m x.o.size)).block x3 (hF c0.o)).t c0.o);have Q0:=ae (show l.cell? (g,0)=de (.slice (f,ro) 5 rc)from(o.o.cell (p:=(g,0)) a1.o).t W0.o);have QI:=ae (show l.cell? (f,ro+i)=(S,0)from(o.o.cell (p:=(f,ro+i)) P.o).t b8.o);have a2:=ae (ai P.o o.o.size);have f4:=ae (ai a1.o o.o.size);have f0:=ae (show∃c,l.heap[f]?=de (.cells c 69 (0,0)) by
  obtain⟨c,hc⟩:=e9.o;exact⟨c,(o.o.block f P.o).t hc⟩)
 go_upto_region 6 with fail
 refine bh (by kernel_rfl) (λw6 c3=>?_);have e4:=ae c3;clear c3;refine jC (λy=>[RK.val (g,0),.val (g,0),.val (g,0),.val (.slice (f,ro) 5 rc),.val (x3,1),.val (i:Int),.val (x3,1),.val (i:Int),.val (.agg #[.slice C E D,B]),.val (.agg #[Z,p2,.slice va vn vc]),.val (y 10),.val (f,ro+i)]) [45,46,47,48,49,50,51,52,53,54,55,56] [10] (λj9 y m=>dd l.heap.size l m/\(j9=1->∃j k9,(y 10)= (j,0)/\l.heap.size<=j/\l.heap.size<=k9/\j≠k9/\m.heap[j]?=de (.cells (aN i (mG j k9 (.slice C E D) (.slice va vn vc)) (dZ.blank dE ((M.nd i).D.take k) B ⟨(Z,p2),al⟩)).toArray 87 (0,0))/\dO m k9 [])) (λ_=>by kernel_rfl) (λ_ _=>by repeat first|exact .nil|refine .same ?_|refine .AK (by kernel_rfl) ?_) (λ_=>rfl) (λj9 y m g9 r=>?_) ?_ ?_ ?_
 ·have b:=r.1;iterate 3 refine .run (by kernel_rfl) ?_
  refine jh (cZ b f4.o Q0.o) (by kernel_rfl) ?_;refine .run (by kernel_rfl) ?_;refine jh (cA b c1 1 rfl) (by kernel_rfl) ?_;refine .run (by kernel_rfl) ?_;refine jh (cA b c1 1 rfl) (by kernel_rfl) ?_;refine mf (nR b f8 0 rfl) (by kernel_rfl) ?_;refine mf (nR b f9 0 rfl) (by kernel_rfl) ?_;refine .skip ?_;refine LS ro 5 rc i 1 (by kernel_rfl) (by omega) (by omega) ?_;exact .nil
 ·intro t y m a ht r J;replace ht:t<1:=ht;obtain rfl:t=0:=by omega
  have b:=r.1;subst J;refine mK rfl rfl (by kernel_rfl) ((rF i C va E D vn vc B Z p2 ((M.nd i).D.take k) al m).m λe w8 hh=>?_);obtain⟨j,k9,rfl,q1,q2,q3,q4,q5,q6⟩:=hh;exact⟨_,rfl,_,rfl,b.t (q1.m b.size),λ_=>⟨j,k9,ar rfl,aE b.size q2,aE b.size q3,q4,q5,q6⟩⟩
 ·intro y m a r J;have b:=r.1;obtain⟨j,k9,b1,q2,q3,q4,q5,q6⟩:=r.2 rfl;have e1:a.eval (.tmp 56)= (f,ro+i):=tE J (by kernel_rfl);have e2:a.eval (.tmp 55)= (j,0):=(tE J (by kernel_rfl)).t b1;have c4:=cZ b a2.o QI.o;have c6:m.frozen? (f,ro+i)=dT:=by
   obtain⟨c9,g1⟩:=f0.o;exact aO ((b.block f a2.o).t g1) _
  refine fh (λa8 w8 hh=>?_) (kq rfl rfl rfl 69 (.tmp 56) (.tmp 55) rfl e1 e2 (pD c4 c6 (by kernel_rfl)));obtain⟨rfl,rfl⟩:=hh;have d1:=R4.o.CW hi b f2.o a2.o f1.o q2 q3 q4 q5 q6 f6.o f7.o;have HT:=ae (show ir hH W g (M.start i) (m.setCell (f,ro+i) (j,0)) by
   obtain⟨g3,G9,r9,-,n9⟩:=d1;exact⟨g3,G9,by rw[e6.o];exact r9,(cG.below o.o).t n9⟩)
  clear d1 q2 q3 q4 q5 q6 e1 e2 c4 c6 b r;have g4:=ae b1;subst J;simp only[eS,Act.put,aq,aF,aG];rw[b1];go_wp2_with fail
  first|refine mh rfl rfl ⟨rfl,?_⟩|refine jH rfl rfl ⟨rfl,?_⟩
  exact HT.o
 ·exact⟨e4.o,λe=>by cases e⟩
end Go.Proofs.YtcdmenphjilnnaaGreatDoor
