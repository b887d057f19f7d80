/-
  Parts of the proofs of the laws of the whole (what the functions compute, and plain laws of it); no conditions.
-/
import Derived.Test.YtcdmenphjilnnaaGreatDoorM26
import Derived.Test.YtcdmenphjilnnaaGreatDoorM27
set_option linter.unusedVariables false
set_option linter.unusedSimpArgs false
set_option maxRecDepth 100000
set_option maxHeartbeats 1000000
open Go.Proofs.Tryz
open Go renaming World->ax,Value->bd,Calls->bl
open Go.RowKit renaming Below->dd
open Option renaming some->de,none->dl
open Bool renaming true->dE,false->dT
open Go.Proofs.Tryz renaming prog->ed
namespace Go.Proofs.YtcdmenphjilnnaaGreatDoor
open Go.RowKit Go.Con
theorem dB.MI{hH:bI}{W:ax}{a i:Nat}{G:Gh}{M:aT}(h:dB hH W a G M)(hi:i<5)(u:Bool):aW hH W a G i (M.aX i {M.nd i with up:=u}) (W.setCell ((G.n i).b,1) (.bool u)):=by
 have hq:=(h.nd i hi).pt;exact h.jc hi (cG.refl hH W (λ_=>False)) (λt b=>b.elim) (λ_ _=>rfl) (G.n i) {M.nd i with up:=u} rfl
  ⟨hq.kl,hq.kn,hq.tk,hq.mg,hq.gO,hq.log,hq.ja,hq.mO,hq.jq,hq.rg,hq.lO⟩ 1 [.bool u] rfl
theorem EK{hH:bI}{W:ax}{k i:Nat}{G:Gh}{M:aT}(h:dB hH W k G M)(hi:i<5)(aa r:Int)(da:Option Addr)(dn dc:Nat)(hu:(M.nd i).up=dE)(f4:0<=(M.nd i).iZ)(f5:(M.nd i).iZ<=(M.nd i).D.length)(hD:(M.nd i).D.length<=100000)(e5:0<=r)(e6:r<=1000000000):
  bl ed 21 #[ptr k,.agg #[(8:Int),(i:Int),aa,r,.slice da dn dc]] W λe W'=>e= .returned (.tuple #[])/\ir hH W k (M.jT i r.toNat) W':=by
 obtain⟨v,b3⟩:=aK ((G.n i).b);obtain⟨j,ro,rc,Z,e9,f3,b5⟩:=h.nodeAt;have V:=b5 i hi;rw[<-b3]at V;unfold ptr at V;have b9:=h.dM;have i0:(0:Int)<=(i:Int):=by omega
 have i5:(i:Int)<5:=by omega
 have w0:W.cell? (k,0)=de (.slice (j,ro) 5 rc):=by rw[<-Z];exact(aR b9 0).t rfl
 have HR:=ae h;have g1:=ae b3;have d3:=ae V;have Q:=ae e9;have g8:=ae f3;have g9:=ae Z;have j2:=ae b5;have W0:=ae w0;have a4:=ae (hF b9);have g5:=ae (show∃c,W.heap[j]?=de (.cells c 69 (0,0)) by
  have h1:=h.nodes;rw[Z]at h1;rcases h1.2 with⟨-,h3⟩|⟨b2,j6,j4,c,h2,-,-,-,h6,-⟩
  ·omega
  ·injection h2 with e1;injection e1 with e1;injection e1 with e1;subst e1;exact⟨c,h6⟩)
 have d4:=ae f4;have d5:=ae f5;have HD:=ae hD;clear f4 f5 hD;have c7:=ae e5;have g3:=ae e6;have HU:=ae hu;have d2:=ae h.hi;clear e5 e6 hu;clear h b3 V e9 f3 Z b5 b9 w0;show bl ed 21 #[.pointer (de ⟨k,0,dl⟩),.agg #[.int .i64 8,.int .i64 (i:Int),.int .i64 aa,.int .i64 r,.slice da dn dc]] W _;go_enter func21,ntmps21
 go_upto_region 1 with fail
 generalize D:World.alloc _ _=w1;obtain⟨B,a0⟩:=aK W.heap.size;have C:=ae (eZ D a0);have O:=ae (gv D);have h0:=ae a0;rw[<-a0];clear D a0;have d0:=ej C.o 0 rfl;have m0:=EW O.o a4.o W0.o;have m1:=EW O.o Q.o d3.o;have m2:=od (hF C.o) (ej C.o 1 rfl);go_upto_region 26 with fail
 refine ct (by kernel_rfl) (by kernel_rfl) ?_;repeat (go_big_quiet_step (fail))
 refine IR λN c2=>?_;clear m0 m1 m2 d0;have P:=ae (O.o.t (c2.o.m O.o.size));have a6:=ae ((c2.o.block B (hF C.o)).t C.o);have R2:=ae (HR.o.below P.o);have z:=(R2.o.nd i hi).dM;rw[<-g1.o]at z;have U:=(R2.o.nd i hi).pt.mg;obtain⟨ea,ec,S,-,-⟩:=id U.1.slice;obtain⟨en,e0⟩:=aK ((M.nd i).D.length);rw[<-e0]at S;rw[S]at U;obtain⟨sy,H⟩:=aK ((M.nd i).iZ);have e1:N.cell? (v,1)=de (.bool dE):=(aR z 1).t (by show de (Value.bool (M.nd i).up)=_;rw[HU.o]);have V2:=ae (show N.cell? (v,2)=de (.slice ea en ec)from(aR z 2).t (by show de (G.n i).mg=_;rw[S]));have V3:=ae (show N.cell? (v,3)=sy from(aR z 3).t (by rw[H];rfl));obtain⟨m,hm⟩:=aK ((M.nd i).iZ.toNat+min r.toNat ((M.nd i).D.length-(M.nd i).iZ.toNat));have c6:=ae (λg (hb:dd N.heap.size N g)=>Bd (.slice ea en ec) (M.nd i).D sy r m g (U.1.stay hb) (by rw[H];exact d4.o) (by rw[H];exact d5.o) HD.o c7.o g3.o (by
  have h1:=d4.o;have h2:=d5.o;have h3:=c7.o;rw[hm,H];omega))
 have HM:=ae hm;have d1:=ae z;clear U S e0 H hm z;go_upto_region 28 with fail
 clear e1;refine bh (by kernel_rfl) (λw3 d7=>?_);have s:=ae d7;clear d7;refine ig (X:=Option Addr×Nat×Nat) (dl,0,0) (λd=>[RK.val (v,0),.val (v,0),.val (v,2),.val (.agg #[.slice ea en ec,sy]),.val (B,3),.val r,.val (.tuple #[.agg #[.slice d.1 d.2.1 d.2.2,(m:Int)],(0:Int)]),.val (.tuple #[.agg #[.slice d.1 d.2.1 d.2.2,(m:Int)],(0:Int)]),.val (.agg #[.slice d.1 d.2.1 d.2.2,(m:Int)]),.val (0:Int),.new 71 #[.slice dl 0 0,(0:Int)],.put 10 71 8 #[.slice d.1 d.2.1 d.2.2,(m:Int)],.val (0:Int)]) 6 (λd w=>Rd w (.slice d.1 d.2.1 d.2.2) ((M.nd i).D.take m)) (λd q=>(Value.slice d.1 d.2.1 d.2.2).ownBlock=de q/\(M.nd i).D.take m≠[]) [143,144,145,146,147,148,149,142,150,151,8,0,9] (λ_=>by kernel_rfl) (λ_ _=>by repeat first|exact .nil|refine .same ?_|refine .AK (by kernel_rfl) ?_) (λd g hb=>?_) (λd g hb=>?_) ?_ ?_ (λd o bs I a9 b7 i6=>?_)
 ·have f:=s.o.t (hb.m s.o.size);iterate 3 refine .run (by kernel_rfl) ?_
  refine mf ⟨cZ f (hF d1.o) V2.o,cZ f (hF d1.o) V3.o,⟨⟩⟩ (by kernel_rfl) ?_;refine .run (by kernel_rfl) ?_;refine jh (cA f a6 3 rfl) (by kernel_rfl) ?_;refine .skip ?_;iterate 3 refine .run (by kernel_rfl) ?_
  refine .new (λ_ _=>rfl) ?_;refine tW rfl rfl rfl (by kernel_rfl) ?_;refine .run (by kernel_rfl) ?_;exact .nil
 ·have f:=s.o.t (hb.m s.o.size);refine⟨_,_,by kernel_rfl,(c6.o g f).m λe w8 F=>?_⟩;obtain⟨a8,n8,c8,rfl,f2,i3,i1⟩:=F;exact⟨(a8,n8,c8),_,rfl,rfl,i1,f2,λq hq=>⟨i3 q hq.1 hq.2,Lz f2 hq.2 q hq.1⟩⟩
 ·exact λd w w1 hP hb=>hP.stay hb
 ·exact λd w b cs hP hu=>Rd.nT hP (λq hq b4=>eg (λe=>hu ⟨by rw[<-e];exact hq,b4⟩) _ _ _)
 simp only[eS,Act.put,aq,aF,aG];have c4:=ae (s.o.t (I.below.m s.o.size));have e8:=(I.put 11 _ _ _ _ (show 11<13 by decide) rfl rfl).2;have e4:=aE s.o.size (I.new 10 _ _ (show 10<13 by decide) rfl rfl).1;clear I;generalize bs 10=f7 at*;have a3:=ae e8;have g0:=ae e4;clear e8 e4;obtain⟨ta,tn,tc⟩:=d;dsimp only at a9 b7 a3|-;have X8:=ae (show o.heap[f7]?=_ from a3.o);have u:=ae (P.o.t (c4.o.m P.o.size));have R4:=ae (HR.o.below u.o);have h5:=ae (show AL hH o (.slice ta tn tc) ((M.nd i).D.take m)from⟨a9,λb4 q hq=>d2.o q (aE P.o.size (aE s.o.size (b7 q ⟨hq,b4⟩).1))⟩);have h7:=ae (show dG hH o (.slice dl 0 0) []from jm _ _);have a7:=ae ((c4.o.block B (hF a6.o)).t a6.o);have Q0:=ae (show o.cell? (k,0)=de (.slice (j,ro) 5 rc)from(u.o.cell (p:=(k,0)) a4.o).t W0.o);have QI:=ae (show o.cell? (j,ro+i)=(v,0)from(u.o.cell (p:=(j,ro+i)) Q.o).t d3.o);have a5:=ae (ai Q.o u.o.size);have h4:=ae (ai a4.o u.o.size);have g6:=ae (show∃c,o.heap[j]?=de (.cells c 69 (0,0)) by
  obtain⟨c,hc⟩:=g5.o;exact⟨c,(u.o.block j Q.o).t hc⟩)
 obtain⟨b8,b1⟩:=aK f7;rw[<-b1]at X8;rw[<-b1];clear a9 b7 i6 g0 c6 b1 a3;go_upto_region 29 with fail
 refine bh (by kernel_rfl) (λw5 hb5=>?_);have f8:=ae hb5;clear hb5;refine jC (λy=>[RK.val (k,0),.val (k,0),.val (k,0),.val (.slice (j,ro) 5 rc),.val (B,1),.val (i:Int),.val (B,1),.val (i:Int),.val (.agg #[.slice ta tn tc,(m:Int)]),.val (.agg #[(0:Int),(0:Int),.slice dl 0 0]),.val (y 10),.val (j,ro+i)]) [152,153,154,155,156,157,158,159,160,161,162,163] [10] (λj9 y g=>dd o.heap.size o g/\(j9=1->∃l k9,(y 10)= (l,0)/\o.heap.size<=l/\o.heap.size<=k9/\l≠k9/\g.heap[l]?=de (.cells (aN i (mG l k9 (.slice ta tn tc) (.slice dl 0 0)) (dZ.blank dE ((M.nd i).D.take m) (m:Int) ⟨(0,0),[]⟩)).toArray 87 (0,0))/\dO g k9 [])) (λ_=>by kernel_rfl) (λ_ _=>by repeat first|exact .nil|refine .same ?_|refine .AK (by kernel_rfl) ?_) (λ_=>rfl) (λj9 y g j5 x=>?_) ?_ ?_ ?_
 ·have f:=x.1;iterate 3 refine .run (by kernel_rfl) ?_
  refine jh (cZ f h4.o Q0.o) (by kernel_rfl) ?_;refine .run (by kernel_rfl) ?_;refine jh (cA f a7 1 rfl) (by kernel_rfl) ?_;refine .run (by kernel_rfl) ?_;refine jh (cA f a7 1 rfl) (by kernel_rfl) ?_;refine mf (nR f X8 0 rfl) (by kernel_rfl) ?_;refine .run (by kernel_rfl) ?_;refine .skip ?_;refine LS ro 5 rc i 1 (by kernel_rfl) (by omega) (by omega) ?_;exact .nil
 ·intro t y g a ht x E;replace ht:t<1:=ht;obtain rfl:t=0:=by omega
  have f:=x.1;subst E;refine mK rfl rfl (by kernel_rfl) ((rF i ta dl tn tc 0 0 (m:Int) 0 0 ((M.nd i).D.take m) [] g).m λe w8 F=>?_);obtain⟨l,k9,rfl,q1,J,K,q4,L,q6⟩:=F;exact⟨_,rfl,_,rfl,f.t (q1.m f.size),λ_=>⟨l,k9,ar rfl,aE f.size J,aE f.size K,q4,L,q6⟩⟩
 ·intro y g a x E;have f:=x.1;obtain⟨l,k9,f6,J,K,q4,L,q6⟩:=x.2 rfl;have e1:a.eval (.tmp 163)= (j,ro+i):=tE E (by kernel_rfl);have e2:a.eval (.tmp 162)= (l,0):=(tE E (by kernel_rfl)).t f6;have d9:=cZ f a5.o QI.o;have e3:g.frozen? (j,ro+i)=dT:=by
   obtain⟨c9,i2⟩:=g6.o;exact aO ((f.block j a5.o).t i2) _
  refine fh (λa8 w8 F=>?_) (kq rfl rfl rfl 69 (.tmp 163) (.tmp 162) rfl e1 e2 (pD d9 e3 (by kernel_rfl)));obtain⟨rfl,rfl⟩:=F;have e7:=R4.o.CW hi f g9.o a5.o g8.o J K q4 L q6 h5.o h7.o;have i4:=L;have j0:=ae f;have g4:=ae e7;have c5:=ae f6;clear e7 J K q4 L q6 e1 e2 d9 e3 f x i4;subst E;simp only[eS,Act.put,aq,aF,aG];obtain⟨j7,G9,A,R,n9⟩:=g4.o;generalize D:World.setCell _ _ _=n at A n9|-;clear D;have b0:=(A.nd i hi).dM;rw[R]at b0;obtain⟨a1,a2,c1,b6,f0,i7,f1⟩:=A.nodeAt;have c0:=A.dM;have i8:G9.nodes= .slice (a1,a2) 5 c1:=b6;have R9:=ae A;have g2:=ae R;have N9:=ae n9;have h9:=ae (n9.at a7.o (by rw[d2.o B (by rw[h0.o];exact ag _)];decide));have j1:=ae (hF c0);have h8:=ae (show n.cell? (k,0)=de (.slice (a1,a2) 5 c1) by rw[<-b6];exact(aR c0 0).t rfl);have Y:=f1 i hi;rw[R]at Y;unfold ptr at Y;have g7:=ae Y;have j3:=ae f0;have c3:=ae b0;clear A R n9 b0 b6 f0 i7 f1 c0 i8 Y;have q0:n.cell? (k,0)=de (.slice (a1,a2) 5 c1):=h8.o;have q1:n.cell? (a1,a2+i)=(l,0):=g7.o;have J:=ej h9.o 1 rfl;have K:n.cell? (l,1)=de (.bool dE):=(aR c3.o 1).t (by rw[bf];rfl);have qf:=aO c3.o;have d8:M.jT i r.toNat=(M.aX i (dZ.blank dE ((M.nd i).D.take m) (m:Int) ⟨(0,0),[]⟩)).aX i {(M.aX i (dZ.blank dE ((M.nd i).D.take m) (m:Int) ⟨(0,0),[]⟩)).nd i with up:=dT}:=by
   unfold aT.jT;dsimp only;rw[ar HU.o,<-HM.o,eU,bf];rfl
  have f9:=ae d8;have d6:=ae (λw (hb:dd n.heap.size n w)=>(R9.o.below hb).MI hi dT);rw[g2.o]at d6;rw[c5.o];clear d8 c5;go_upto_region 30 with fail
  go_region
  all_goals (
   go_wp2_with fail
   first|refine mh rfl rfl ⟨rfl,?_⟩|refine jH rfl rfl ⟨rfl,?_⟩
   rw[f9.o];obtain⟨i9,GE,rE,-,nE⟩:=d6.o n.drew (aj n.heap.size n).drew;exact⟨i9,GE,rE,(cG.below u.o).t (N9.o.t ((cG.below (T:=λt=>t.1<6) (aj n.heap.size n).drew).t nE))⟩)
 ·exact⟨f8.o,λe=>by cases e⟩
end Go.Proofs.YtcdmenphjilnnaaGreatDoor
