/-
  Parts of the proofs of the laws of the whole (what the functions compute, and plain laws of it); no conditions.
-/
import Derived.Test.YtcdmenphjilnnaaGreatDoorM20
import Derived.Test.YtcdmenphjilnnaaGreatDoorM21
set_option linter.unusedVariables false
set_option linter.unusedSimpArgs false
set_option maxRecDepth 100000
set_option maxHeartbeats 1000000
open Go.Proofs.Tryz
open Go renaming World->ax,Value->bd,Calls->bl
open Go.RowKit renaming Below->dd
open Option renaming some->de,none->dl
open Bool renaming true->dE,false->dT
open Go.Proofs.Tryz renaming prog->ed
namespace Go.Proofs.YtcdmenphjilnnaaGreatDoor
open Go.RowKit Go.Con
theorem JF{p:Int×Int}{l:List cF}(h:kf p l=dE):yH p:=by
 unfold kf at h;simp only[aP,dS,ap]at h;exact h.1
theorem dB.Jl{hH:bI}{W:ax}{d i:Nat}{G:Gh}{M:aT}(h:dB hH W d G M)(hi:i<5)(hp:(M.nd i).cI=dl)(D:List UInt8)(a:Int)(dv:bd)(hv:AL hH W dv D):∃b,dB hH (W.setCells (G.n i).b 2 [dv,a]) d b (M.aX i {M.nd i with D:=D,iZ:=a})/\(∀j,(b.n j).b=(G.n j).b)/\(b.n i).rg=(G.n i).rg/\cG hH W hH (W.setCells (G.n i).b 2 [dv,a]) (λt=>t.1<6):=by
 have hq:=(h.nd i hi).pt;obtain⟨h1,h2⟩:=h.fN hi (cG.refl hH W (λ_=>False)) (λt c=>c.elim) (λq hq=>h.hi q hq) {G.n i with mg:=dv} {M.nd i with D:=D,iZ:=a} rfl
  ⟨hq.kl,hq.kn,hq.tk,hv,hq.gO,hq.log,hq.ja,hq.mO,hq.jq,hq.rg,hq.lO⟩ 2 [dv,a] rfl
 refine⟨_,h1,λj=>?_,?_,h2.m (λt c=>by rw[c];omega)⟩
 ·by_cases e:j=i
  ·show(if j=i then{G.n i with mg:=dv}else G.n j).b=_;rw[ar e,e]
  ·show(if j=i then{G.n i with mg:=dv}else G.n j).b=_;rw[ak e]
 ·show(if i=i then{G.n i with mg:=dv}else G.n i).rg=_;rw[ar rfl]
theorem FW{hH:bI}{W:ax}{wb i:Nat}{G:Gh}{M:aT}{z:GR}{r:eW}(h:dB hH W wb G M)(hi:i<5)(hp:(M.nd i).cI=dl)(a9:kf (M.nd i).p (M.nd i).l=dE)(a7:okB r.bG=dE)(e7:0<=(M.nd i).iZ)(e8:(M.nd i).iZ<=(M.nd i).D.length)(hD:(M.nd i).D.length<=100000)(hg:(G.n i).rg=de z)(hr:(M.nd i).rg=de r)(c1:later r.bG (M.nd i).p=dE):
  bl ed 83 #[ptr wb,ptr (G.n i).b,ptr z.b] W λe W'=>e= .returned (.tuple #[])/\aW hH W wb G i (M.ke i r) W':=by
 obtain⟨f,c0⟩:=aK ((G.n i).b);obtain⟨l,c3⟩:=aK z.b;have b5:=(h.nd i hi).dM;obtain⟨m8,b9,hR⟩:=h.wo hi hr;rw[hg]at b9;injection b9 with b9;subst b9;have b6:=hR.dM;rw[<-c0]at b5;rw[<-c3]at b6;rw[<-c0,<-c3];obtain⟨u,v,N⟩:∃u v,(M.nd i).p=(u,v):=⟨_,_,rfl⟩
 obtain⟨r1,c,a0⟩:∃r1 c,r.bG=(r1,c):=⟨_,_,rfl⟩
 rw[N,a0]at c1;obtain⟨pm,e6⟩:=aK z.prom;have q4:(aN i (G.n i) (M.nd i))[4]?=u:=by show de (Value.int .i64 (M.nd i).p.1)=_;rw[N]
 have q5:(aN i (G.n i) (M.nd i))[5]?=v:=by show de (Value.int .i64 (M.nd i).p.2)=_;rw[N]
 have u0:(gP z r)[0]?=r1:=by show de (Value.int .i64 r.bG.1)=_;rw[a0]
 have u1:(gP z r)[1]?=c:=by show de (Value.int .i64 r.bG.2)=_;rw[a0]
 have u2:(gP z r)[2]?=de (.map (de pm)):=by rw[e6];rfl
 have c6:=(h.nd i hi).pt.gO;obtain⟨va,vc,c5,-,-⟩:=id c6.1.1;obtain⟨g,e9⟩:=aK ((M.nd i).l.length);rw[<-e9]at c5;rw[c5]at c6;rw[N]at a9;rw[a0]at a7;have q6:(aN i (G.n i) (M.nd i))[6]?=de (.slice va g vc):=by show de (G.n i).gO=_;rw[c5]
 have b8:=(h.nd i hi).pt.mg;obtain⟨da,dc,b7,-,-⟩:=id b8.1.slice;obtain⟨dn,e4⟩:=aK ((M.nd i).D.length);rw[<-e4]at b7;rw[b7]at b8;obtain⟨L,c4⟩:=aK ((M.nd i).iZ);have q2:(aN i (G.n i) (M.nd i))[2]?=de (.slice da dn dc):=by show de (G.n i).mg=_;rw[b7]
 have q3:(aN i (G.n i) (M.nd i))[3]?=L:=by rw[c4];rfl
 have m0:=h.lf hi hp;have h9:0<=dX (r1,c) (u,v):=by
  rcases Int.lt_or_le (dX (r1,c) (u,v)) 0 with h1|h1
  ·exfalso;have h2:=(JF a9)
   have h3:=(uK (.inr a7) h2).1 h1;have h4:=(rz (.inr a7) h2).1 c1;omega
  ·exact h1
 rw[<-c4]at e7 e8;have j4:=ae (show(M.nd i).l.length<=1000 by have h1:=a9;rw[<-N]at h1;exact qA h1);obtain⟨CL,g6⟩:=aK (aN i (G.n i) (M.nd i));obtain⟨RL,g7⟩:=aK (gP z r);rw[<-g6]at b5 q4 q5 q2 q3 q6;have V2:=ae q2;have V3:=ae q3;have V6:=ae q6;have i8:=ae b8;have k4:=ae c4;have m5:=ae e4;have k8:=ae c6;have k7:=ae e9;have j7:=ae a9;have f2:=ae a7;have j3:=ae h9;have k0:=ae e7;have k3:=ae e8;have HD:=ae hD;have HP:=ae hp;have f9:=ae N;clear q2 q3 q6 b8 c4 e4 b7 c6 e9 c5 a9 a7 h9 e7 e8 hD hp m0;rw[<-g7]at b6 u0 u1 u2;have f3:=ae b5;have f4:=ae b6;have V4:=ae q4;have V5:=ae q5;have U0:=ae u0;have U1:=ae u1;have U2:=ae u2;have HR:=ae h;have f7:=ae c0;have j9:=ae c3;have HG:=ae hg;have j8:=ae hr;have d0:=ae c1;have m6:=ae e6;have d4:=ae a0;have m7:=ae hR;clear h c0 c3 hg hr c1 e6 a0 hR q4 q5 u0 u1 u2 b5 b6 g6 g7 N;show bl ed 83 #[.pointer (de ⟨wb,0,dl⟩),.pointer (de ⟨f,0,dl⟩),.pointer (de ⟨l,0,dl⟩)] W _;go_enter func83,ntmps83
 go_upto_region 1 with fail
 generalize hW:World.alloc _ _=w4;obtain⟨y4,y5,b3,-⟩:=yp hW;obtain⟨p,f0⟩:=aK W.heap.size;obtain⟨C,f1⟩:=aK (W.heap.size+1);rw[<-f0]at y4;rw[<-f1]at y5;rw[<-f1,<-f0];have X4:=ae y4;have X5:=ae y5;have B4:=ae b3;have U:=ae ((b3.block f (hF f3.o)).t f3.o);have Y:=ae ((b3.block l (hF f4.o)).t f4.o);have O6:=ae (show(hH p).1=6/\(hH C).1=6 from⟨HR.o.hi p (by omega),HR.o.hi C (by omega)⟩);clear hW y4 y5 b3 f0 f1;refine bh (by kernel_rfl) (λw5 hb5=>?_);have b0:=ae hb5;clear hb5;refine iH [RK.val (l,0),.val (l,0),.val (l,0),.val (.agg #[r1,c]),.val (f,0),.val (f,0),.val (f,4),.val (f,4),.val (.agg #[u,v]),.val (.bool (later (r1,c) (u,v)))] [26,27,28,29,30,31,32,33,34,35] (by kernel_rfl) (λn hb=>?_) (λw6 bs I=>?_)
 ·have d:=b0.o.t (hb.m b0.o.size);refine jh (cA d X5 0 rfl) (by kernel_rfl) ?_;iterate 2 refine .run (by kernel_rfl) ?_
  refine mf ⟨cZ d (hF Y.o) ((aR Y.o 0).t U0.o),cZ d (hF Y.o) ((aR Y.o 1).t U1.o),⟨⟩⟩ (by kernel_rfl) ?_;refine jh (cA d X4 0 rfl) (by kernel_rfl) ?_;iterate 3 refine .run (by kernel_rfl) ?_
  refine mf ⟨cZ d (hF U.o) ((aR U.o 4).t V4.o),cZ d (hF U.o) ((aR U.o 5).t V5.o),⟨⟩⟩ (by kernel_rfl) ?_;refine .call (by kernel_rfl) (lQ (r1,c) (u,v) n) ?_;exact .nil
 simp only[eS,Act.put,aq,aF,aG];have a5:=ae (b0.o.t (I.below.m b0.o.size));clear I;rw[d0.o];have E:=ae (B4.o.t (a5.o.m B4.o.size));have d5:=ae ((a5.o.block p (hF X4.o)).t X4.o);have d7:=ae ((a5.o.block C (hF X5.o)).t X5.o);have Z:=ae ((a5.o.block l (hF Y.o)).t Y.o);have H:=ae ((a5.o.block f (hF U.o)).t U.o);have R6:=ae (HR.o.below E.o);have k9:=ae (k8.o.cB (cG.below (T:=λ_=>False) E.o) (λ_ h=>h.elim));have f8:=ae (λn (hb:dd w6.heap.size w6 n)=>by
  have h1:=og u v r1 c (.slice va g vc) (M.nd i).l n (k9.o.1.stay hb) j7.o f2.o j4.o (ae j3.o);rw[<-k7.o]at h1;exact h1)
 obtain⟨l2,l8⟩:∃P:Prop,P=∀q,W.heap.size<=q->(hH q).1=6:=⟨_,rfl⟩
 have OH:=ae HR.o.hi;clear l8 l2;go_upto_region 2 with fail
 refine bh (by kernel_rfl) (λw7 g8=>?_);have s:=ae g8;clear g8;refine ig (X:=Option Addr×Nat×Option Addr×Nat) (dl,0,dl,0) (λa=>[RK.val (f,0),.val (f,0),.val (f,4),.val (.agg #[u,v,.slice va g vc]),.val (l,0),.val (l,0),.val (l,0),.val (.agg #[r1,c]),.val (.tuple #[.agg #[r1,c,.slice a.1 g a.2.1],.slice a.2.2.1 g a.2.2.2,(0:Int)]),.val (.tuple #[.agg #[r1,c,.slice a.1 g a.2.1],.slice a.2.2.1 g a.2.2.2,(0:Int)]),.val (.agg #[r1,c,.slice a.1 g a.2.1]),.val (.slice a.2.2.1 g a.2.2.2),.val (0:Int),.new 76 #[(0:Int),(0:Int),.slice dl 0 0],.new 74 #[.slice dl 0 0],.put 13 76 10 #[r1,c,.slice a.1 g a.2.1],.put 14 74 11 #[.slice a.2.2.1 g a.2.2.2],.val (0:Int)]) 8 (λa w=>fz w (.slice a.1 g a.2.1) (M.nd i).l/\fz w (.slice a.2.2.1 g a.2.2.2) (M.nd i).l) (λa q=>(Value.slice a.1 g a.2.1).ownBlock=de q\/(Value.slice a.2.2.1 g a.2.2.2).ownBlock=de q) [37,38,39,40,41,42,43,44,45,36,46,47,48,6,7,0,0,8] (λ_=>by kernel_rfl) (λ_ _=>by repeat first|exact .nil|refine .same ?_|refine .AK (by kernel_rfl) ?_) (λa n hb=>?_) (λa n hb=>?_) ?_ ?_ (λa wB bs I J K e5=>?_)
 ·have d:=s.o.t (hb.m s.o.size);refine jh (cA d d5 0 rfl) (by kernel_rfl) ?_;iterate 2 refine .run (by kernel_rfl) ?_
  refine mf ⟨cZ d (hF H.o) ((aR H.o 4).t V4.o),cZ d (hF H.o) ((aR H.o 5).t V5.o),cZ d (hF H.o) ((aR H.o 6).t V6.o),⟨⟩⟩ (by kernel_rfl) ?_;refine jh (cA d d7 0 rfl) (by kernel_rfl) ?_;iterate 2 refine .run (by kernel_rfl) ?_
  refine mf ⟨cZ d (hF Z.o) ((aR Z.o 0).t U0.o),cZ d (hF Z.o) ((aR Z.o 1).t U1.o),⟨⟩⟩ (by kernel_rfl) ?_;refine .skip ?_;iterate 4 refine .run (by kernel_rfl) ?_
  refine .new (λ_ _=>rfl) ?_;refine .new (λ_ _=>rfl) ?_;refine tW rfl rfl rfl (by kernel_rfl) ?_;refine LC rfl rfl rfl (by kernel_rfl) ?_;refine .run (by kernel_rfl) ?_;exact .nil
 ·have d:=s.o.t (hb.m s.o.size);refine⟨_,_,by kernel_rfl,(f8.o n d).m λe w8 hh=>?_⟩;obtain⟨a1,k1,a2,k2,rfl,i1,i2,e3⟩:=hh;exact⟨(a1,k1,a2,k2),_,rfl,rfl,e3,⟨i1.aV,i2.aV⟩,λq hq=>hq.elim (λhq=>lV i1 q hq) (λhq=>lV i2 q hq)⟩
 ·exact λa w w1 A hb=>⟨A.1.stay hb,A.2.stay hb⟩
 ·exact λa w b cs A hu=>⟨jB A.1 (λ_ q hq _=>eg (λe=>hu (.inl (by rw[<-e];exact hq))) _ _ _),jB A.2 (λ_ q hq _=>eg (λe=>hu (.inr (by rw[<-e];exact hq))) _ _ _)⟩
 simp only[eS,Act.put,aq,aF,aG];have S:=ae (s.o.t (I.below.m s.o.size));have i4:=(I.put 15 _ _ _ _ (show 15<18 by decide) rfl rfl).2;have h6:=aE s.o.size (I.new 13 _ _ (show 13<18 by decide) rfl rfl).1;have i5:=(I.put 16 _ _ _ _ (show 16<18 by decide) rfl rfl).2;have h7:=aE s.o.size (I.new 14 _ _ (show 14<18 by decide) rfl rfl).1;have i0:=I.ne 13 14 _ _ _ _ (show 13<18 by decide) (show 14<18 by decide) rfl rfl rfl rfl (by decide);clear I;generalize bs 13=a3 at*;generalize bs 14=a4 at*;have d2:=ae i4;have f5:=ae h6;clear i4 h6;have d3:=ae i5;have f6:=ae h7;clear i5 h7;have j6:=ae i0;clear i0;obtain⟨a1,k1,a2,k2⟩:=a;dsimp only at J K d2 d3|-;have RB:=ae (R6.o.below S.o);have R:=ae (E.o.t (S.o.m E.o.size));have k5:=ae (show dG hH wB (.slice a1 g k1) (M.nd i).l from⟨J.1,λ_ q hq=>OH.o q (aE (E.o.size) (aE s.o.size (K q (.inl hq)).1))⟩);have l0:=ae (show dG hH wB (.slice a2 g k2) (M.nd i).l from⟨J.2,λ_ q hq=>OH.o q (aE (E.o.size) (aE s.o.size (K q (.inr hq)).1))⟩);have OA:=ae (OH.o a3 (aE E.o.size f5.o));have OV:=ae (OH.o a4 (aE E.o.size f6.o));have d6:=ae ((S.o.block p (hF d5.o)).t d5.o);have d8:=ae ((S.o.block C (hF d7.o)).t d7.o);have b1:=ae ((S.o.block l (hF Z.o)).t Z.o);have V:=ae ((S.o.block f (hF H.o)).t H.o);have i9:=ae (i8.o.cB (cG.below (T:=λ_=>False) R.o) (λ_ h=>h.elim));clear J K e5 f5 f6 j6 f8;obtain⟨L9,e1⟩:=aK (IV (M.nd i).D (Tp.iJ r1 c));obtain⟨S9,e2⟩:=aK (IU (M.nd i).D (Tp.iJ r1 c) L);obtain⟨C9,d9⟩:=aK (IW (M.nd i).D (Tp.iJ r1 c));have b2:=ae (And.intro e1 (And.intro e2 d9));go_upto_region 3 with fail
 refine bh (by kernel_rfl) (λw8 g9=>?_);have F:=ae g9;clear g9;have g3:=ae (λn (hb:dd wB.heap.size wB n)=>by
  have h:=qx (.slice da dn dc) (M.nd i).D L r1 c n (i9.o.1.stay hb) k0.o k3.o HD.o f2.o ((RB.o.below hb).kn.1);rw[<-e1,<-e2,<-d9]at h;exact h)
 clear e1 e2 d9;refine ig (X:=Option Addr×Nat×Nat) (dl,0,0) (λa=>[RK.val (f,0),.val (f,0),.val (f,2),.val (.agg #[.slice da dn dc,L]),.val (l,0),.val (l,0),.val (l,0),.val (.agg #[r1,c]),.val (.tuple #[.agg #[.slice a.1 a.2.1 a.2.2,S9],C9]),.val (.tuple #[.agg #[.slice a.1 a.2.1 a.2.2,S9],C9]),.val (.agg #[.slice a.1 a.2.1 a.2.2,S9]),.val C9,.new 71 #[.slice dl 0 0,(0:Int)],.put 12 71 10 #[.slice a.1 a.2.1 a.2.2,S9],.val C9]) 8 (λa w=>Rd w (.slice a.1 a.2.1 a.2.2) L9) (λa q=>(Value.slice a.1 a.2.1 a.2.2).ownBlock=de q) [50,51,52,53,54,55,56,57,58,49,59,60,9,0,10] (λ_=>by kernel_rfl) (λ_ _=>by repeat first|exact .nil|refine .same ?_|refine .AK (by kernel_rfl) ?_) (λa n hb=>?_) (λa n hb=>?_) ?_ ?_ (λa wC bs I J K e5=>?_)
 ·have d:=F.o.t (hb.m F.o.size);refine jh (cA d d6 0 rfl) (by kernel_rfl) ?_;iterate 2 refine .run (by kernel_rfl) ?_
  refine mf ⟨cZ d (hF V.o) ((aR V.o 2).t V2.o),cZ d (hF V.o) ((aR V.o 3).t V3.o),⟨⟩⟩ (by kernel_rfl) ?_;refine jh (cA d d8 0 rfl) (by kernel_rfl) ?_;iterate 2 refine .run (by kernel_rfl) ?_
  refine mf ⟨cZ d (hF b1.o) ((aR b1.o 0).t U0.o),cZ d (hF b1.o) ((aR b1.o 1).t U1.o),⟨⟩⟩ (by kernel_rfl) ?_;refine .skip ?_;iterate 3 refine .run (by kernel_rfl) ?_
  refine .new (λ_ _=>rfl) ?_;refine tW rfl rfl rfl (by kernel_rfl) ?_;refine .run (by kernel_rfl) ?_;exact .nil
 ·have d:=F.o.t (hb.m F.o.size);refine⟨_,_,by kernel_rfl,(g3.o n d).m λe w8 hh=>?_⟩;obtain⟨v8,rfl,ho,e3⟩:=hh;obtain⟨a8,c8,m2,-,-⟩:=id ho.rd.slice;rw[m2]at ho|-;exact⟨(a8,_,c8),_,rfl,rfl,e3,ho.rd,λq hq=>ho.lt q hq⟩
 ·exact λa w w1 A hb=>A.stay hb
 ·exact λa w b cs A hu=>Rd.nT A (λq hq _=>eg (λe=>hu (by rw[<-e];exact hq)) _ _ _)
 simp only[eS,Act.put,aq,aF,aG];have o:=ae (F.o.t (I.below.m F.o.size));have i3:=(I.put 13 _ _ _ _ (show 13<15 by decide) rfl rfl).2;have h5:=aE F.o.size (I.new 12 _ _ (show 12<15 by decide) rfl rfl).1;clear I;generalize bs 12=i7 at*;have d1:=ae i3;have j0:=ae h5;clear i3 h5;obtain⟨a8,n8,c8⟩:=a;dsimp only at J K d1|-;by_cases h0:(M.nd i).D.length+14<=100000
 ·obtain⟨g1,g2,y⟩:=b2.o;have x:(M.nd i).D.length+(Tp.iJ r1 c).length+5<=100000:=by rw[ny];omega
  replace g1:=(g1.t (ar x)).symm;replace g2:=(g2.t (ar x)).symm;replace y:=(y.t (ar x)).symm;subst g1 g2 y;have c7:=ae (show M.ke i r=M.aX i {M.nd i with D:=(M.nd i).D++Jz (r1,c),cI:=de ⟨3,(r1,c),(M.nd i).l,0,(r1,c),cF.zero⟩} by
   unfold aT.ke;dsimp only;rw[d4.o,f9.o,if_pos d0.o,if_neg (by unfold dZ.full;rw[decide_eq_true_eq];omega)])
  clear h0 b2 x;have RC:=ae (RB.o.below o.o);have BC:=ae (R.o.t (o.o.m R.o.size));have l3:=ae (show AL hH wC (.slice a8 n8 c8) ((M.nd i).D++Tp.frame (Tp.iJ r1 c))from⟨J,λ_ q hq=>OH.o q (aE R.o.size (aE F.o.size (K q hq).1))⟩);have g5:=ae ((o.o.block p (hF d6.o)).t d6.o);have l4:=ae ((o.o.block C (hF d8.o)).t d8.o);have l5:=ae ((o.o.block a3 (hF d2.o)).t d2.o);have l6:=ae ((o.o.block a4 (hF d3.o)).t d3.o);have c2:=(o.o.block f (hF V.o)).t V.o;have k6:=ae (k5.o.cB (cG.below (T:=λ_=>False) o.o) (λ_ h=>h.elim));have l1:=ae (l0.o.cB (cG.below (T:=λ_=>False) o.o) (λ_ h=>h.elim));have n0:wC.cell? (p,0)=(f,0):=ej g5.o 0 rfl;have t0:wC.cell? (i7,0)=de (.slice a8 n8 c8):=ej d1.o 0 rfl;have t1:wC.cell? (i7,1)=L:=ej d1.o 1 rfl;have g2:=(aR c2 2).t V2.o;have y:=(aR c2 3).t V3.o;have gf:=aO c2;have g4:=ae (RC.o.Jl hi HP.o ((M.nd i).D++Tp.frame (Tp.iJ r1 c)) L (.slice a8 n8 c8) l3.o);rw[<-f7.o]at g4;clear J K e5 j0 c2 g3;go_upto_region 6 with fail
  generalize hW:World.setCell _ _ _=Q;obtain⟨GB,O,e0,h8,B⟩:=g4.o;rw[show wC.setCells f 2 [.slice a8 n8 c8,L]=Q from hW]at O B;obtain⟨MB,a6⟩:∃m,m=M.aX i {M.nd i with D:=(M.nd i).D++Tp.frame (Tp.iJ r1 c),iZ:=L}:=⟨_,rfl⟩
  rw[<-a6]at O;have RD:=ae O;have c9:=ae (show f=(GB.n i).b by rw[f7.o,e0]);have j2:=ae e0;have j1:=ae (h8.t HG.o);have XB:=ae B;have j5:=ae a6;have bN:=ae (show ki hH Q p 69 [ptr f]from ki.cB ⟨g5.o,O6.o.1⟩ B (λt k e=>by have k:t.1<6:=k;omega));have bR:=ae (show ki hH Q C 77 [ptr l]from ki.cB ⟨l4.o,O6.o.2⟩ B (λt k e=>by have k:t.1<6:=k;omega));have bA:=ae (show ki hH Q a3 76 [r1,c,.slice a1 g k1]from ki.cB ⟨l5.o,OA.o⟩ B (λt k e=>by have k:t.1<6:=k;omega));have bV:=ae (show ki hH Q a4 74 [.slice a2 g k2]from ki.cB ⟨l6.o,OV.o⟩ B (λt k e=>by have k:t.1<6:=k;omega));have vA:=ae (k6.o.cB B (λt k e=>by have k:t.1<6:=k;omega));have vV:=ae (l1.o.cB B (λt k e=>by have k:t.1<6:=k;omega));have b4:=(O.nd i hi).dM;rw[<-c9.o]at b4;have i6:(MB.nd i).cI=dl:=by rw[a6,bf];exact HP.o
  have f55:Q.cell? (f,55)=de .nilFunc:=(aR b4 55).t ((dj (O.nd i hi).pt.kl 3).t (by show de (GB.n i).lO=_;rw[O.lf hi i6]));have m9:=kL (P:=ed) (.func 108) #[(a3,0),(p,0),(a4,0),(C,0)] f55 (aO b4 55);have n0:Q.cell? (p,0)=(f,0):=ej bN.o.1 0 rfl;have g0:=ae (RD.o.Bk hi (de ⟨3,(r1,c),(M.nd i).l,0,(r1,c),cF.zero⟩) (.func (.func 108) #[] #[ptr a3,ptr p,ptr a4,ptr C]) (by
   unfold eO;dsimp only;refine⟨a3,p,_,bA.o,vA.o,?_,?_⟩
   ·rw[<-c9.o];exact bN.o
   ·rw[ar rfl];refine⟨a4,C,l,_,rfl,bV.o,vV.o,bR.o,.inl ⟨z,r,j1.o,?_,d4.o,j9.o⟩⟩;rw[a6,bf];exact j8.o))
  rw[<-c9.o]at g0;clear O e0 B a6 b4 i6 f55 g2 y gf t0 t1 hW h8;go_wp2_with fail
  first|refine mh rfl rfl ⟨rfl,?_⟩|refine jH rfl rfl ⟨rfl,?_⟩
  obtain⟨m4,GC,m1,l7,m3⟩:=g0.o;have l9:M.ke i r=MB.aX i {MB.nd i with cI:=de ⟨3,(r1,c),(M.nd i).l,0,(r1,c),cF.zero⟩}:=by
   rw[c7.o,j5.o,eU,bf,k4.o];rfl
  rw[l9];exact⟨m4,GC,m1,λj=>(l7 j).t (j2.o j),((cG.below (T:=λt=>t.1<6) BC.o).t XB.o).t m3⟩
 ·obtain⟨g1,g2,y⟩:=b2.o;have x:¬(M.nd i).D.length+(Tp.iJ r1 c).length+5<=100000:=by rw[ny];omega
  replace g1:=(g1.t (ak x)).symm;replace g2:=(g2.t (ak x)).symm;replace y:=(y.t (ak x)).symm;subst g1 g2 y;have c7:=ae (show M.ke i r=M by
   unfold aT.ke;dsimp only;rw[d4.o,f9.o,if_pos d0.o,if_pos (by unfold dZ.full;rw[decide_eq_true_eq];omega)])
  clear h0 b2 x;have T6:=ae (show aW hH W wb G i M wC from⟨hH,G,RB.o.below o.o,λ_=>rfl,cG.below (R.o.t (o.o.m R.o.size))⟩);go_wp2_with fail
  first|refine mh rfl rfl ⟨rfl,?_⟩|refine jH rfl rfl ⟨rfl,?_⟩
  rw[c7.o];exact T6.o
end Go.Proofs.YtcdmenphjilnnaaGreatDoor
