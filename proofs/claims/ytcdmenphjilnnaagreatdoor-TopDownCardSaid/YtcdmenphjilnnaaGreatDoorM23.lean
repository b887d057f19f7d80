/-
  Parts of the proofs of the laws of the whole (what the functions compute, and plain laws of it); no conditions.
-/
import Derived.Test.YtcdmenphjilnnaaGreatDoorM19
import Derived.Test.YtcdmenphjilnnaaGreatDoorM20
set_option linter.unusedVariables false
set_option linter.unusedSimpArgs false
set_option maxRecDepth 100000
set_option maxHeartbeats 1000000
open Go.Proofs.Tryz
open Go renaming World->ax,Value->bd,Calls->bl
open Go.RowKit renaming Below->dd
open Option renaming some->de,none->dl
open Bool renaming true->dE,false->dT
open Go.Proofs.Tryz renaming prog->ed
namespace Go.Proofs.YtcdmenphjilnnaaGreatDoor
open Go.RowKit Go.Con
set_option maxHeartbeats 400000
def qq(a:GR)(r:eW)(s:Int):bd:= .map ((cd r.aV s).map λ_=>a.kG s)
theorem Fy(w:ax):(zeroValue 186).run ed w= .ok (.agg #[]) w:=Tryz.zeroValue186 w
theorem Er(m:Int)(w:ax):(Instr.lookup 185 (.map dl) m dE).run ed w= .ok (.tuple #[.agg #[],.bool dT]) w:=by kernel_rfl
theorem GF{hH:bI}{W:ax}{i:Nat}{a:GR}{r:eW}(h:jt hH W i a r)(s m:Int):
  (Instr.lookup 185 (qq a r s) m dE).run ed W= .ok (.tuple #[.agg #[],.bool (decide (m∈(cd r.aV s).getD []))]) W:=by
 unfold qq;cases hg:cd r.aV s with
 |none=>exact Er m W
 |some ks=>
  have hm:=(h.kG _ (kQ hg)).1;have h1:=pP (P:=ed) hm Tryz.underlying185 Tryz.underlying3 _ (Fy W) m;refine h1.t ?_;have e1:(cd (ks.map λk=>((k:Int),Value.agg #[])) m).getD (.agg #[])= .agg #[]/\(cd (ks.map λk=>((k:Int),Value.agg #[])) m).isSome=decide (m∈ks):=by
   clear hm h1 hg;induction ks with
   |nil=>exact⟨rfl,rfl⟩
   |cons k ks b=>
    rw[dm];unfold cd;by_cases e:k=m
    ·rw[ar e];exact⟨rfl,by simp[e]⟩
    ·rw[ak e];refine⟨b.1,b.2.t ?_⟩;have:¬m=k:=λh=>e h.symm;simp[this]
  rw[e1.1,e1.2];rfl
theorem yj{c:bk}(h:cS c=0):AD c:=by
 unfold cS mI at h;unfold AD mD;split at h
 ·split at h
  ·rename_i e;rw[e];decide
  ·omega
 ·split at h
  ·split at h
   ·omega
   ·rename_i h1 h2;simp only[Bool.not_eq_false,aP,ap]at h2;omega
  ·omega
def mr(r:eW):Prop:=∀s x,cd r.dD s=de x->cS x=0
theorem mr.ask{r:eW}(h:mr r)(n:dZ){c:bk}(hc:cS c=0):mr (r.ask n c):=by
 unfold eW.ask;split
 ·exact h
 ·intro s x hs;dsimp only at hs;rw[fw]at hs;split at hs
  ·injection hs with hs;rw[<-hs];exact hc
  ·exact h s x hs
theorem Ap(s:Int):∀(l:List cF) (b:cF),cS b.cW=0->(∀v∈l,cS v.cW=0)->cS (dJ s b l).cW=0
 |[],b,h,_=>h
 |v::l,b,h,hl=>by
  have h1:=hl v (bO ..);have h2:dJ s b (v::l)=dJ s (dJ s b [v]) l:=lH s b [v] l;rw[h2];refine Ap s l _ ?_ (λx hx=>hl x (bw _ hx));unfold dJ;simp only[dH,List.foldl_nil];unfold rG;split<;>assumption
theorem El{v:cF}(h:jJ v=dE):cS v.cW=0:=by
 unfold jJ at h;simp only[aP,ap]at h;exact h.2.2.2
theorem qg{r:eW}(h:mr r)(n:dZ)(hv:∀s,cS (r.pick s)=0)(s0:Nat):∀k s x,cd (eM n r s0 k) s=de x->cS x=0
 |0,s,x,hs=>h s x hs
 |k+1,s,x,hs=>by
  unfold eM at hs;split at hs
  ·exact qg h n hv s0 k s x hs
  ·rw[fw]at hs;split at hs
   ·injection hs with hs;rw[<-hs];exact hv _
   ·exact qg h n hv s0 k s x hs
theorem mr.begin{r:eW}(h:mr r)(n:dZ)(a:∀l∈r.lists,∀v∈l,jJ v=dE):mr (r.begin n):=λs x hs=>qg h n (λs=>by
  unfold eW.pick;rw[mW];exact Ap s _ _ rfl (λv hv=>by
   obtain⟨l,hl,b⟩:=np.1 hv;exact El (a l hl v b))) _ _ s x hs
theorem Kl(r:eW)(n:dZ)(c:bk):(r.ask n c).bG=r.bG:=by
 unfold eW.ask;split<;>rfl
structure yw(hH:bI)(W W8:ax)(wb i:Nat)(G:Gh)(M:aT)(rb x4 x5:Nat)(rq:eW)(b:Int×Int)(wr:ax):Prop where
 sJ:∃hO G' gr',dB hO wr wb G' (M.aX i {M.nd i with rg:=de rq})/\(∀j,(G'.n j).b=(G.n j).b)/\(G'.n i).rg=de gr'/\gr'.b=rb/\cG hH W hO wr (λt=>t.1<6)/\(hO x4).1=6/\(hO x5).1=6
 Mf:∀a x,W8.cell? a=de x->wr.cell? a=de x
 sz:W8.heap.size<=wr.heap.size
 pi:mr rq
 bG:rq.bG=b
theorem yw.below{hH:bI}{W c:ax}{f i:Nat}{G:Gh}{M:aT}{d g j:Nat}{e:eW}{b:Int×Int}{wr w:ax}(h:yw hH W c f i G M d g j e b wr)(hb:dd wr.heap.size wr w):yw hH W c f i G M d g j e b w:=by
 obtain⟨l,k,gr',h1,h2,h3,h4,h5,h6⟩:=h.sJ;exact⟨⟨l,k,gr',h1.below hb,h2,h3,h4,h5.t (cG.below hb),h6⟩,λa x hx=>(hb.cell (aI wr _ (h.Mf a x hx))).t (h.Mf a x hx),aE h.sz hb.size,h.pi,h.bG⟩
def iE(M:aT)(i:Nat)(n:dZ)(r:eW)(s:Nat):aT:=(List.range s).foldl (λM s=>M.qi i n r s) M
theorem qh(M:aT)(i:Nat)(n:dZ)(r:eW)(s:Nat):iE M i n r (s+1)=(iE M i n r s).qi i n r s:=by
 unfold iE;rw[ly,iw];rfl
theorem yd(M:aT)(i:Nat)(ks:List Int)(l:dK):M.each i ks l=iO M i ks l 5:=rfl
theorem Km(M:aT)(i:Nat)(n:dZ)(r:eW)(s:Nat):(M.qi i n r s).nd=M.nd/\(M.qi i n r s).cz.length<=M.cz.length+5:=by
 unfold aT.qi;split
 ·rw[yd];exact⟨oZ ..,pX ..⟩
 ·exact⟨rfl,Nat.le_add_right _ _⟩
theorem qO(M:aT)(i:Nat)(n:dZ)(r:eW)(s:Nat):(iE M i n r s).nd=M.nd/\(iE M i n r s).cz.length<=M.cz.length+5*s:=by
 induction s with
 |zero=>exact⟨rfl,ag _⟩
 |succ s a=>
  rw[qh];have h:=Km (iE M i n r s) i n r s;exact⟨h.1.t a.1,by omega⟩
structure vP(hH:bI)(W:ax)(wb i:Nat)(G:Gh)(M':aT)(wr:ax):Prop where
 sJ:∃hO fly',dB hO wr wb {G with cz:=fly'} M'/\cG hH W hO wr (λt=>t=(5,0)\/t=(5,2))
theorem vP.below{hH:bI}{W:ax}{a i:Nat}{G:Gh}{M':aT}{wr w:ax}(h:vP hH W a i G M' wr)(hb:dd wr.heap.size wr w):vP hH W a i G M' w:=by
 obtain⟨c,b,h1,h2⟩:=h.sJ;exact⟨c,b,h1.below hb,h2.t (cG.below hb)⟩
structure Cr(hH:bI)(W:ax)(wb i:Nat)(G:Gh)(M':aT)(bx:Nat)(z:bk)(wr:ax):Prop where
 sJ:∃hO fly',dB hO wr wb {G with cz:=fly'} M'/\cG hH W hO wr (λt=>t=(5,0)\/t=(5,2))/\(hO bx).1=6
 box:wr.heap[bx]?=de (.cells (aQ z).toArray 54 (0,0))
theorem Cr.below{hH:bI}{W:ax}{b i:Nat}{G:Gh}{M':aT}{a:Nat}{z:bk}{wr w:ax}(h:Cr hH W b i G M' a z wr)(hb:dd wr.heap.size wr w):Cr hH W b i G M' a z w:=by
 obtain⟨d,c,h1,h2,h3⟩:=h.sJ;exact⟨⟨d,c,h1.below hb,h2.t (cG.below hb),h3⟩,(hb.block a (hF h.box)).t h.box⟩
theorem FL{L:List bk}{m:Nat}(hm:m<L.length)(f:eW->bk->eW)(r:eW):(L.take (m+1)).foldl f r=f ((L.take m).foldl f r) (L.getD m bk.zero):=by
 rw[eA,iw,au,aC hm];rfl
theorem Is{r:eW}{n:dZ}{c:bk}(h:jr n r c (40-n.log.length)=dl):r.ask n c=r:=by
 unfold eW.ask;rw[h]
theorem Ir{r:eW}{n:dZ}{c:bk}{s:Int}(h:jr n r c (40-n.log.length)=de s):r.ask n c={r with dD:=di r.dD s c}:=by
 unfold eW.ask;rw[h]
theorem Hc{hH:bI}{W:ax}{L i:Nat}{G:Gh}{M:aT}{a k:Nat}{f:GR}{c:eW}{N:dZ}(h:dB hH W L G (M.aX i N))(hi:i<5)(B:a=(G.n i).b)(hg:(G.n i).rg=de f)(E:f.b=k)(A:N.rg=de c)(hl:N.log.length<=40)(hp:mr c)(hk:∀s x,cd N.known s=de x->cS x=0)(n:dZ)(o:n.known=N.known)(D:n.log=N.log)(z:bk)(F:cS z=0)(w:ax)(hb:dd W.heap.size W w):
  bl ed 110 #[ptr a,ptr k,.agg (aQ z).toArray] w λe t=>e= .returned (.tuple #[((jr n c z (40-n.log.length)).getD 0),.bool (jr n c z (40-n.log.length)).isSome])/\dd w.heap.size w t:=by
 have b:=(h.nd i hi).dM;rw[<-B,bf]at b;obtain⟨O,e3,l⟩:=h.wo hi (r:=c) (by rw[bf];exact A);rw[hg]at e3;injection e3 with e3;subst e3;have d:=l.dM;rw[E]at d;have j:=(h.nd i hi).pt.kn;have m:=(h.nd i hi).pt.log;rw[bf]at j m;obtain⟨J,K,C,-⟩:=m.shape;have q:=l.dD;have I:dO w f.dD (c.dD.map λp=>(p.1,eG p.2)):=by
  obtain⟨es,ck,g,-⟩:=id q;exact dO.other q (hb.block _ (hF g))
 have H:dO w (G.n i).kn (N.known.map λp=>(p.1,eG p.2)):=by
  obtain⟨es,ck,g,-⟩:=id j;exact dO.other j (hb.block _ (hF g))
 have y:=ej d 4 rfl;have u:W.cell? (a,10)=de (.map (de (G.n i).kn)):=(aR b 10).t rfl;have v:W.cell? (a,11)=de (.slice J N.log.length K):=(aR b 11).t (by rw[<-C];rfl);exact He ((hb.cell (p:=(k,4)) (hF d)).t y) ((hb.cell (p:=(a,10)) (hF b)).t u) ((hb.cell (p:=(a,11)) (hF b)).t v) (ai (hF d) hb.size) (ai (hF b) hb.size)
  I (by rw[o];exact H) (by rw[D]) (by omega) z (yj F) (λs x hs=>yj (hp s x hs)) (λs x hs=>yj (hk s x (by rw[<-o];exact hs)))
set_option maxHeartbeats 1000000
theorem DT{hH:bI}{W:ax}{I i:Nat}{G:Gh}{M:aT}{gr:GR}{r:eW}(h:dB hH W I G M)(hi:i<5)(hp:(M.nd i).cI=dl)(hl:(M.nd i).log.length<=40)(q2:∀l∈r.lists,∀v∈l,jJ v=dE)(q3:mr r)(hkn:∀s x,cd (M.nd i).known s=de x->cS x=0)(q8:∀c∈(M.nd i).queue,cS c=0)(hg:(G.n i).rg=de gr)(hr:(M.nd i).rg=de r)(i3:later r.bG (M.nd i).p=dT)(q1:lG r.prom.length=dE)(hlen:r.prom.length<1000000)(hf:M.cz.length+200<1000000000000):
  bl ed 83 #[ptr I,ptr (G.n i).b,ptr gr.b] W λe W'=>e= .returned (.tuple #[])/\aW hH W I G i (M.ke i r) W':=by
 obtain⟨Q,d7⟩:=aK ((G.n i).b);obtain⟨f,e7⟩:=aK gr.b;have d6:=(h.nd i hi).dM;obtain⟨a6,a9,hR⟩:=h.wo hi hr;rw[hg]at a9;injection a9 with a9;subst a9;have J:=hR.dM;rw[<-d7]at d6;rw[<-e7]at J;rw[<-d7,<-e7];obtain⟨p1,p2,b8⟩:∃p1 p2,(M.nd i).p=(p1,p2):=⟨_,_,rfl⟩
 have s6:=ae b8;obtain⟨r1,o,a1⟩:∃r1 o,r.bG=(r1,o):=⟨_,_,rfl⟩
 rw[b8,a1]at i3;obtain⟨pm,i7⟩:=aK gr.prom;have q4:(aN i (G.n i) (M.nd i))[4]?=p1:=by show de (Value.int .i64 (M.nd i).p.1)=_;rw[b8]
 have q5:(aN i (G.n i) (M.nd i))[5]?=p2:=by show de (Value.int .i64 (M.nd i).p.2)=_;rw[b8]
 have u0:(gP gr r)[0]?=r1:=by show de (Value.int .i64 r.bG.1)=_;rw[a1]
 have u1:(gP gr r)[1]?=o:=by show de (Value.int .i64 r.bG.2)=_;rw[a1]
 have u2:(gP gr r)[2]?=de (.map (de pm)):=by rw[i7];rfl
 obtain⟨bg,g9⟩:=aK r.begun;obtain⟨rX,r0⟩:=aK (if r.begun=dE then r else r.begin (M.nd i));have a0:=ae r0;clear r0;have u3:(gP gr r)[3]?=de (.bool bg):=by rw[g9];rfl
 obtain⟨CL,o6⟩:=aK (aN i (G.n i) (M.nd i));obtain⟨RL,o7⟩:=aK (gP gr r);rw[<-o6]at d6 q4 q5;rw[<-o7]at J u0 u1 u2 u3;have U3:=ae u3;clear u3;have l1:=ae d6;have l2:=ae J;have V4:=ae q4;have V5:=ae q5;have U0:=ae u0;have U1:=ae u1;have U2:=ae u2;have HR:=ae h;have HP:=ae hp;have HL:=ae hl;have m4:=ae q2;have m6:=ae q3;have s1:=ae hkn;have s8:=ae q8;have l0:=ae g9;clear hp hl q2 q3 hkn q8 g9;have b2:=ae d7;have n1:=ae e7;have HG:=ae hg;have m9:=ae hr;have m1:=ae i3;have m3:=ae q1;have s2:=ae hlen;have HF:=ae hf;have s5:=ae i7;have f8:=ae a1;have s9:=ae hR;clear h d7 e7 hg hr i3 q1 hlen hf i7 a1 hR q4 q5 u0 u1 u2 d6 J o6 o7 b8;show bl ed 83 #[.pointer (de ⟨I,0,dl⟩),.pointer (de ⟨Q,0,dl⟩),.pointer (de ⟨f,0,dl⟩)] W _;go_enter func83,ntmps83
 go_upto_region 1 with fail
 generalize L:World.alloc _ _=w4;obtain⟨y4,y5,d3,-⟩:=yp L;obtain⟨K,k0⟩:=aK W.heap.size;obtain⟨P,k7⟩:=aK (W.heap.size+1);rw[<-k0]at y4;rw[<-k7]at y5;rw[<-k7,<-k0];have X4:=ae y4;have X5:=ae y5;have B4:=ae d3;have c5:=ae ((d3.block Q (hF l1.o)).t l1.o);have a7:=ae ((d3.block f (hF l2.o)).t l2.o);have O6:=ae (show(hH K).1=6/\(hH P).1=6 from⟨HR.o.hi K (by omega),HR.o.hi P (by omega)⟩);clear L y4 y5 d3 k0 k7;refine bh (by kernel_rfl) (λw5 hb5=>?_);have c2:=ae hb5;clear hb5;refine iH [RK.val (f,0),.val (f,0),.val (f,0),.val (.agg #[r1,o]),.val (Q,0),.val (Q,0),.val (Q,4),.val (Q,4),.val (.agg #[p1,p2]),.val (.bool (later (r1,o) (p1,p2)))] [26,27,28,29,30,31,32,33,34,35] (by kernel_rfl) (λw9 hb=>?_) (λw6 bs n8=>?_)
 ·have n:=c2.o.t (hb.m c2.o.size);refine jh (cA n X5 0 rfl) (by kernel_rfl) ?_;iterate 2 refine .run (by kernel_rfl) ?_
  refine mf ⟨cZ n (hF a7.o) ((aR a7.o 0).t U0.o),cZ n (hF a7.o) ((aR a7.o 1).t U1.o),⟨⟩⟩ (by kernel_rfl) ?_;refine jh (cA n X4 0 rfl) (by kernel_rfl) ?_;iterate 3 refine .run (by kernel_rfl) ?_
  refine mf ⟨cZ n (hF c5.o) ((aR c5.o 4).t V4.o),cZ n (hF c5.o) ((aR c5.o 5).t V5.o),⟨⟩⟩ (by kernel_rfl) ?_;refine .call (by kernel_rfl) (lQ (r1,o) (p1,p2) w9) ?_;exact .nil
 simp only[eS,Act.put,aq,aF,aG];have c3:=ae (c2.o.t (n8.below.m c2.o.size));clear n8;rw[m1.o];have B6:=ae (B4.o.t (c3.o.m B4.o.size));have g3:=ae ((c3.o.block K (hF X4.o)).t X4.o);have g6:=ae ((c3.o.block P (hF X5.o)).t X5.o);have m8:=ae ((c3.o.block f (hF a7.o)).t a7.o);have R6:=ae (HR.o.below B6.o);have g5:=ej g6.o 0 rfl;have g2:=(aR m8.o 2).t U2.o;have e5:=s9.o.prom;rw[<-s5.o]at e5;have hlen:=pQ (dO.other e5 (show w6.heap[pm]?=W.heap[pm]? by
  obtain⟨es,ck,hb,-⟩:=id e5;exact B6.o.block _ (hF hb))) 140 3 Tryz.underlying140
 rw[aY]at hlen;have m2:=ae (uo r.prom.length s2.o w6);rw[m3.o]at m2;clear e5;have u5:=(aR m8.o 3).t U3.o;have g4:=ej g3.o 0 rfl;go_upto_if 106 with(go_at_call 102;refine m2.o.m ?_;rintro e w7 ⟨rfl,rfl⟩)
 go_cut []from 6 to 189 (λwc=>Hid (yw hH W wc I i G M f K P rX (r1,o) wc/\wc.cell? (K,0)=(Q,0)/\wc.cell? (P,0)=(f,0)))
 case first=>
  cases bg with
  |true=>
   go_wp2_with fail
   go_meet
   case rel=>
    rw[<-l0.o,ar rfl]at a0;exact⟨⟨⟨hH,G,gr,by
     have e2:({M.nd i with rg:=de rX}:dZ)=M.nd i:=by rw[a0.o,<-m9.o]
     rw[e2,oT];exact R6.o,λ_=>rfl,HG.o,n1.o.symm,cG.below B6.o,O6.o⟩,λ_ _ h=>h,ag _,by rw[a0.o];exact m6.o,by rw[a0.o];exact f8.o⟩,g4,g5⟩
  |false=>
   have d5:=Fa R6.o hi HP.o HG.o m9.o HL.o m4.o;rw[<-b2.o,<-n1.o]at d5;unfold ptr at d5;have r7:=ae d5;clear d5;go_wp2_with (go_at_call 109;refine r7.o.m ?_;rintro e T ⟨rfl,hb⟩;have r6:=ae hb;clear hb)
   go_meet
   case rel=>
    rw[<-l0.o,ak (by decide)]at a0;obtain⟨v0,G0,p,H,⟨t9,j3,j4⟩,j5⟩:=r6.o;have t5:=j5.at g3.o (by rw[O6.o.1];decide);have t6:=j5.at g6.o (by rw[O6.o.2];decide);exact⟨⟨⟨v0,G0,t9,by rw[a0.o];exact p,H,j3,j4,(cG.below B6.o).t j5,by rw[j5.marks K (hF g3.o),j5.marks P (hF g6.o)];exact O6.o⟩,λ_ _ h=>h,ag _,by rw[a0.o];exact m6.o.begin _ m4.o,by rw[a0.o];exact f8.o⟩,ej t5 0 rfl,ej t6 0 rfl⟩
 case rest=>
 obtain⟨T,rfl⟩:=aK wc;have n4:=ae hcut.o.1;clear g4 g5 u5;have g4:=hcut.o.2.1;have g5:=hcut.o.2.2;clear hcut;have u4:=n4.o.sJ;obtain⟨x2,G1,x0,k1,k2,k3,k4,k5,k6⟩:=u4;have i6:=(k1.nd i hi).dM;have r3:=(k1.nd i hi).pt.kl;rw[k2 i,<-b2.o]at i6;have j0:=(k1.nd i hi).pt.ja;rw[bf]at j0;have e8:oQ T (G1.n i).ja (M.nd i).queue:=j0.rd;obtain⟨qa,qc,e6,q6,q7,-⟩:=id e8;obtain⟨qn,i9⟩:=aK ((M.nd i).queue.length);rw[<-i9]at e6 q6;have v1:T.cell? (Q,52)=de (.slice qa qn qc):=(aR i6 52).t ((dj r3 0).t (by rw[<-e6];rfl));rw[e6]at e8;have HQ:=ae e8;have f7:=ae i9;have Z4:=ae (show T.cell? (K,0)=(Q,0)from g4);have Z5:=ae (show T.cell? (P,0)=(f,0)from g5);have u7:(qn:Int)<=(qc:Int):=by omega
 have s7:=ae (show qn<=9223372036854775807 by have:qc<=9223372036854775807:=q7;omega);have n3:=ae (show yw hH W T I i G M f K P (((M.nd i).queue.take 0).foldl (λr c=>r.ask (M.nd i) c) rX) (r1,o) T from n4.o);clear k1 k2 k3 k4 k5 k6 i6 r3 j0 e8 e6 i9 q6 q7;go_wp2_with fail
 go_loopg [115] qn (λk v2 wr=>∃m:Nat,m+k=qn/\v2= .int .i64 m/\Hid (yw hH W T I i G M f K P (((M.nd i).queue.take m).foldl (λr c=>r.ask (M.nd i) c) rX) (r1,o) wr))
 case atStart=>exact⟨0,by omega,rfl,n3⟩
 case round=>
  clear n3 v1 u7 g4 g5;obtain⟨m,hmk,rfl,HS⟩:=hrel;have y4:=HS.o.Mf _ _ Z4.o;have y5:=HS.o.Mf _ _ Z5.o;by_cases hlt:¬(m:Int)<(qn:Int)
  ·have b7:m=qn:=by omega
   subst b7;clear hlt hmk;obtain⟨b,a1⟩:∃r9:eW,r9=(M.nd i).queue.foldl (λr c=>r.ask (M.nd i) c) rX:=⟨_,rfl⟩
   have X:=ae (show yw hH W T I i G M f K P b (r1,o) wr by
    have h9:=HS.o;rw[f7.o,dV,<-a1]at h9;exact h9)
   have n2:=ae (show M.ke i r=iE (M.aX i {M.nd i with rg:=de b}) i (M.nd i) b 40 by
    unfold aT.ke;dsimp only;rw[ak (by rw[f8.o,s6.o,m1.o];decide),ar m3.o,<-a0.o,<-a1];rfl)
   clear HS a1;obtain⟨O,rfl⟩:=aK wr;obtain⟨Z,F,a6,k1,k2,k3,k4,k5,k6⟩:=X.o.sJ;obtain⟨u,b4⟩:∃m,m=M.aX i {M.nd i with rg:=de b}:=⟨_,rfl⟩
   rw[<-b4]at k1;have v8:=ae b4;have c6:=ae (show(u.nd i).rg=de b/\(u.nd i).known=(M.nd i).known/\u.cz=M.cz by rw[b4,bf];exact⟨rfl,rfl,rfl⟩);have j2:=n2.o;rw[<-b4]at j2;have t0:=ae j2;have K1:=ae k1;have K2:=ae k2;have K3:=ae k3;have K4:=ae k4;have K5:=ae k5;have K6:=ae k6;have n5:=ae (show vP Z O I i F (iE u i (M.nd i) b 0) O from⟨Z,F.cz,k1,cG.refl _ _ _⟩);have V4:=ae y4;have V5:=ae y5;have f3:=ae X.o.bG;have v9:=ae X.o.pi;clear k1 k2 k3 k4 k5 k6 b4 j2 y4 y5 X n2;go_wp2_with fail
   go_loopg [134] 40 (λk v3 w3=>∃s:Nat,s+k=40/\v3= .int .i64 s/\Hid (vP Z O I i F (iE u i (M.nd i) b s) w3))
   case atStart=>exact⟨0,rfl,rfl,n5⟩
   case round=>
    clear n5;obtain⟨s,u8,rfl,c7⟩:=hrel;obtain⟨w3,rfl⟩:=aK wr;by_cases g7:¬(s:Int)<40
    ·have r2:s=40:=by omega
     subst r2;obtain⟨f0,a5,p,H⟩:=c7.o.sJ;have HT:=ae (show aW hH W I G i (M.ke i r) w3 from⟨f0,{F with cz:=a5},by rw[t0.o];exact p,λj=>K2.o j,K5.o.t (H.m (λt ht=>by rcases ht with rfl|rfl<;>decide))⟩);clear p H g7;go_wp2_with fail
     first|refine mh rfl rfl ⟨rfl,?_⟩|refine jH rfl rfl ⟨rfl,?_⟩
     exact HT.o
    ·replace g7:=cN g7;have r2:s<40:=by omega
     obtain⟨f0,a5,p,H⟩:=c7.o.sJ;have b0:(iE u i (M.nd i) b s).nd=u.nd:=(qO ..).1;obtain⟨o5,e3,Y⟩:=p.wo hi (r:=b) (by rw[b0];exact c6.o.1);rw[show({F with cz:=a5}:Gh).n=F.n from rfl,K3.o]at e3;injection e3 with e3;subst e3;have J:=Y.dM;rw[K4.o]at J;have i5:=(p.nd i hi).dM;rw[show({F with cz:=a5}:Gh).n=F.n from rfl,K2.o i,<-b2.o]at i5;obtain⟨pb,b1⟩:=aK a6.dD;obtain⟨kb,i1⟩:=aK ((F.n i).kn);have b9:=jx Y.dD (s:Int);have d8:=(p.nd i hi).pt.kn;rw[b0,c6.o.2.1,show({F with cz:=a5}:Gh).n=F.n from rfl,<-i1]at d8;have i4:=λ(w:ax) (hw:dd w3.heap.size w3 w)=>jx (dO.other d8 (show w.heap[kb]?=w3.heap[kb]? by
      obtain⟨es,ck,hb,-⟩:=id d8;exact hw.block kb (hF hb))) (s:Int)
     rw[<-b1]at b9;obtain⟨po,i8⟩:∃po,po=cd b.dD (s:Int):=⟨_,rfl⟩
     obtain⟨ko,i2⟩:∃ko,ko=cd (M.nd i).known (s:Int):=⟨_,rfl⟩
     obtain⟨z,hz⟩:=aK (po.getD bk.zero);obtain⟨y,hy⟩:=aK (ko.getD bk.zero);obtain⟨dp,h7⟩:=aK po.isSome;obtain⟨dk,h4⟩:=aK ko.isSome;rw[<-i8,<-hz,<-h7]at b9;rw[<-i2,<-hy,<-h4]at i4;have v5:w3.cell? (P,0)=(f,0):=(aw (w:=O) (H.block P (aI O _ V5.o) (λe=>by have h6:=K6.o.2;rcases e with e|e<;>rw[e]at h6<;>cases h6))).t V5.o;have v4:w3.cell? (K,0)=(Q,0):=(aw (w:=O) (H.block K (aI O _ V4.o) (λe=>by have h6:=K6.o.1;rcases e with e|e<;>rw[e]at h6<;>cases h6))).t V4.o;have q4:w3.cell? (f,4)=de (.map (de pb)):=by rw[b1];exact ej J 4 rfl
     have f2:w3.cell? (Q,10)=de (.map (de kb)):=(aR i5 10).t (by rw[i1];rfl);have f4:=ae i4;have m7:=ae i8;have m0:=ae i2;have HZ:=ae hz;have l6:=ae h7;have l5:=ae h4;have n9:=ae f2;have o0:=ae v4;have w0:=ae v5;obtain⟨A,B,C,D,E⟩:=z;obtain⟨y0,y1,y2,y3,y4⟩:=y;unfold eG at b9 f4;dsimp only at b9 f4;obtain⟨g,hg⟩:∃g,gk=g+1:=⟨gk-1,by omega⟩
     have V:=ae (show g<gk/\(s+1)+g=40 from⟨by omega,by omega⟩);have H9:=ae (p.hi);clear p H b0 Y J i5 d8 i4 i8 i2 hz hy h7 h4 hg u8 f2 b1 i1 v4;go_upto_region 28 with fail
     generalize L:World.alloc _ _=wA;have U:=ae (gv L);obtain⟨a4,d2⟩:=aK w3.heap.size;have g1:=ae (eZ L d2);have r4:=ae d2;rw[<-d2];clear L d2 b9 q4 v5;have lk:=f4.o wA U.o;have v4:wA.cell? (K,0)=(Q,0):=(U.o.cell (aI w3 _ o0.o)).t o0.o;have f2:wA.cell? (Q,10)=de (.map (de kb)):=(U.o.cell (aI w3 _ n9.o)).t n9.o;go_upto_region 29 with fail
     generalize L:World.alloc _ _=wB;have BB:=ae (U.o.t (show dd w3.heap.size wA wB by rw[<-L];exact(aj _ _).alloc U.o.size _));have t4:=ae (show wB.heap[a4]?=de (.cells #[A,B,C,D,E] 54 (0,0)) by rw[<-L];exact(bC _ _ _ (hF g1.o)).t g1.o);obtain⟨w2,o8⟩:=aK wA.heap.size;rw[<-o8];clear L lk v4 f2 o8 U g1;have a8:=ae (c7.o.below BB.o);have g0:=ae (λ(h:dp=dT\/dk=dE)=>show vP Z O I i F (iE u i (M.nd i) b (s+1)) wB by
      rw[qh];have e:(iE u i (M.nd i) b s).qi i (M.nd i) b s=iE u i (M.nd i) b s:=by
       unfold aT.qi;rw[<-m7.o,<-m0.o];rcases h with h|h
       ·cases po with
        |none=>rfl
        |some x=>have:=h.symm.t l6.o;cases this
       ·cases ko with
        |some x=>cases po<;>rfl
        |none=>have:=h.symm.t l5.o;cases this
      rw[e];exact a8.o)
     cases dp with
     |false=>
      have S:=ae (g0.o (.inl rfl));go_wp2_with fail
      go_roundg g
      ·exact⟨s+1,V.o.2,by go_num,S.o⟩
      ·exact V.o.1
     |true=>
      cases dk with
      |true=>
       have S:=ae (g0.o (.inr rfl));go_wp2_with fail
       go_roundg g
       ·exact⟨s+1,V.o.2,by go_num,S.o⟩
       ·exact V.o.1
      |false=>
       clear g0;have r5:=ae (show(iE u i (M.nd i) b s).qi i (M.nd i) b s=iO (iE u i (M.nd i) b s) i ((cd b.aV (s:Int)).getD []) {dK.zero with kind:=2,cP:=⟨(s:Int),(r1,o),⟨A,B,C,D,E⟩⟩} 5 by
        unfold aT.qi;have e1:cd b.dD (s:Int)=de ⟨A,B,C,D,E⟩:=by
         rw[<-m7.o];cases po with
         |none=>have:=l6.o;cases this
         |some x=>rw[HZ.o];rfl
        have e2:cd (M.nd i).known (s:Int)=dl:=by
         rw[<-m0.o];cases ko with
         |none=>rfl
         |some x=>have:=l5.o;cases this
        rw[e1,e2];dsimp only;rw[f3.o,yd])
       have l8:=ae (show Cr Z O I i F (iO (iE u i (M.nd i) b s) i ((cd b.aV (s:Int)).getD []) {dK.zero with kind:=2,cP:=⟨(s:Int),(r1,o),⟨A,B,C,D,E⟩⟩} 0) a4 ⟨A,B,C,D,E⟩ wB by
        obtain⟨f0,a5,p,H⟩:=c7.o.sJ;exact⟨⟨f0,a5,p.below BB.o,H.t (cG.below BB.o),p.hi a4 (by rw[r4.o];exact ag _)⟩,t4.o⟩)
       go_wp2_with fail
       go_loopg [160] 5 (λk v6 w4=>∃m:Nat,m+k=5/\v6= .int .i64 m/\Hid (Cr Z O I i F (iO (iE u i (M.nd i) b s) i ((cd b.aV (s:Int)).getD []) {dK.zero with kind:=2,cP:=⟨(s:Int),(r1,o),⟨A,B,C,D,E⟩⟩} m) a4 ⟨A,B,C,D,E⟩ w4))
       case atStart=>exact⟨0,rfl,rfl,l8⟩
       case round=>
        clear l8;obtain⟨R,q0,rfl,HI⟩:=hrel;obtain⟨w4,rfl⟩:=aK wr;by_cases h5:¬(R:Int)<5
        ·have p9:R=5:=by omega
         subst p9;have S:=ae (show vP Z O I i F (iE u i (M.nd i) b (s+1)) w4 by
          rw[qh,r5.o];obtain⟨f1,b3,p,H,j3⟩:=HI.o.sJ;exact⟨f1,b3,p,H⟩)
         clear h5 q0;go_wp2_with fail
         go_roundg g
         ·exact⟨s+1,V.o.2,by go_num,S.o⟩
         ·exact V.o.1
        ·replace h5:=cN h5;have p9:R<5:=by omega
         obtain⟨f1,b3,p,H,j3⟩:=HI.o.sJ;have b0:(iO (iE u i (M.nd i) b s) i ((cd b.aV (s:Int)).getD []) {dK.zero with kind:=2,cP:=⟨(s:Int),(r1,o),⟨A,B,C,D,E⟩⟩} R).nd=u.nd:=(oZ ..).t (qO ..).1;obtain⟨o5,e3,Y⟩:=p.wo hi (r:=b) (by rw[b0];exact c6.o.1);rw[show({F with cz:=b3}:Gh).n=F.n from rfl,K3.o]at e3;injection e3 with e3;subst e3;have J:=Y.dM;rw[K4.o]at J;obtain⟨vb,j9⟩:=aK a6.ps;have k8:=nV Y.ps (s:Int);have e9:=GF Y (s:Int) (R:Int);unfold qq at e9;rw[<-j9]at k8;obtain⟨iv,p8⟩:∃v,v=(cd b.aV (s:Int)).map λ_=>a6.kG (s:Int):=⟨_,rfl⟩
         rw[<-p8]at k8 e9;obtain⟨dh,h0⟩:∃d,d=decide ((R:Int)∈(cd b.aV (s:Int)).getD []):=⟨_,rfl⟩
         rw[<-h0]at e9;have q5:w4.cell? (f,5)=de (.map (de vb)):=by rw[j9];exact ej J 5 rfl
         have v5:w4.cell? (P,0)=(f,0):=(aw (w:=O) (H.block P (aI O _ V5.o) (λe=>by have h6:=K6.o.2;rcases e with e|e<;>rw[e]at h6<;>cases h6))).t V5.o;have v4:w4.cell? (K,0)=(Q,0):=(aw (w:=O) (H.block K (aI O _ V4.o) (λe=>by have h6:=K6.o.1;rcases e with e|e<;>rw[e]at h6<;>cases h6))).t V4.o;have J1:=ae p;have J2:=ae H;have J3:=ae j3;have l4:=ae h0;have l3:=ae J;have o2:=ae v4;have o4:=ae v5;obtain⟨g2,a9⟩:∃g,gk=g+1:=⟨gk-1,by omega⟩
         have c4:=ae (show g2<gk/\(R+1)+g2=5 from⟨by omega,by omega⟩);clear p H j3 b0 Y J j9 p8 h0 a9 q0 v4;go_upto_region 34 with fail
         generalize L:World.alloc _ _=wC;have BC:=ae (gv L);obtain⟨w8,o9⟩:=aK w4.heap.size;rw[<-o9];clear L o9 k8 e9 q5 v5;have l9:=ae (HI.o.below BC.o);cases dh with
         |true=>
          have S:=ae (show Cr Z O I i F (iO (iE u i (M.nd i) b s) i ((cd b.aV (s:Int)).getD []) {dK.zero with kind:=2,cP:=⟨(s:Int),(r1,o),⟨A,B,C,D,E⟩⟩} (R+1)) a4 ⟨A,B,C,D,E⟩ wC by
           rw[jD,ar (fF l4.o.symm)];exact l9.o)
          go_wp2_with fail
          go_roundg g2
          ·exact⟨R+1,c4.o.2,by go_num,S.o⟩
          ·exact c4.o.1
         |false=>
          have s3:=ae (fY l4.o.symm);have d1:=ae l9.o.box;have o1:=ae ((BC.o.cell (aI w4 _ o2.o)).t o2.o);have o3:=ae ((BC.o.cell (aI w4 _ o4.o)).t o4.o);have t2:=ae (aI wC _ o1.o);have f9:=ae (aI wC _ o3.o);have d4:=(BC.o.block f (hF l3.o)).t l3.o;have d0:=ae (hF d4);have Y0:=ae (show wC.cell? (f,0)=r1 from(ej d4 0 rfl).t (by show de (Value.int .i64 b.bG.1)=_;rw[f3.o]));have Y1:=ae (show wC.cell? (f,1)=o from(ej d4 1 rfl).t (by show de (Value.int .i64 b.bG.2)=_;rw[f3.o]));have p7:(iO (iE u i (M.nd i) b s) i ((cd b.aV (s:Int)).getD []) {dK.zero with kind:=2,cP:=⟨(s:Int),(r1,o),⟨A,B,C,D,E⟩⟩} R).cz.length<1000000000000:=by
           have h1:=pX (iE u i (M.nd i) b s) i ((cd b.aV (s:Int)).getD []) {dK.zero with kind:=2,cP:=⟨(s:Int),(r1,o),⟨A,B,C,D,E⟩⟩} R;have h2:=(qO u i (M.nd i) b s).2;have h3:=HF.o;rw[c6.o.2.2]at h2;omega
          have c8:=ae (λw9 (hb:dd wC.heap.size wC w9)=>jN ((J1.o.below BC.o).below hb) hi (R:Int) {dK.zero with kind:=2,cP:=⟨(s:Int),(r1,o),⟨A,B,C,D,E⟩⟩} (.slice dl 0 0) (jm _ _) p7);dsimp only at c8;rw[K2.o i,<-b2.o]at c8;unfold ptr at c8;clear p7 d4 h5;go_upto_region 35 with fail
          refine bh (by kernel_rfl) (λv7 b5=>?_);have c1:=ae b5;clear b5;refine dN [RK.val (I,0),.val (Q,0),.val (R:Int),.val (s:Int),.val (f,0),.val (f,0),.val (f,0),.val (.agg #[r1,o]),.val (.agg #[A,B,C,D,E]),.val (.agg #[(s:Int),r1,o,A,B,C,D,E]),.val (.agg #[(2:Int),(0:Int),(0:Int),(0:Int),(0:Int),(s:Int),r1,o,A,B,C,D,E,.slice dl 0 0])] [176,177,178,179,180,181,182,183,184,185,186] (by kernel_rfl) (λw9 hb=>?_) (λw9 hb=>?_)
          ·have n:=c1.o.t (hb.m c1.o.size);refine .run (by kernel_rfl) ?_;refine jh (cZ n t2.o o1.o) (by kernel_rfl) ?_;iterate 2 refine .run (by kernel_rfl) ?_
           refine jh (cZ n f9.o o3.o) (by kernel_rfl) ?_;iterate 2 refine .run (by kernel_rfl) ?_
           refine mf ⟨cZ n d0.o Y0.o,cZ n d0.o Y1.o,⟨⟩⟩ (by kernel_rfl) ?_;refine mf (nR n d1 0 rfl) (by kernel_rfl) ?_;iterate 2 refine .run (by kernel_rfl) ?_
           exact .nil
          have n:=c1.o.t (hb.m c1.o.size);refine mK rfl rfl (by kernel_rfl) ((c8.o w9 n).m λe T hh=>?_);obtain⟨f1,b3,rfl,q9,d9⟩:=hh;refine⟨_,rfl,?_⟩;have S:=ae (show Cr Z O I i F (iO (iE u i (M.nd i) b s) i ((cd b.aV (s:Int)).getD []) {dK.zero with kind:=2,cP:=⟨(s:Int),(r1,o),⟨A,B,C,D,E⟩⟩} (R+1)) a4 ⟨A,B,C,D,E⟩ T from⟨⟨f1,b3,by rw[jD,ak s3.o];exact q9,J2.o.t ((cG.below (BC.o.t (n.m BC.o.size))).t d9),by rw[d9.marks _ (ai (hF d1.o) n.size)];exact J3.o⟩,d9.at ((n.block a4 (hF d1.o)).t d1.o) (λe=>by have h6:=J3.o;rcases e with e|e<;>rw[e]at h6<;>cases h6)⟩);clear q9 d9 n hb;simp only[eS,Act.put,aq,aF,aG];go_wp2_with fail
          go_roundg g2
          ·exact⟨R+1,c4.o.2,by go_num,S.o⟩
          ·exact c4.o.1
  ·replace hlt:=cN hlt;have b7:m<qn:=by omega
   obtain⟨eb,t8,rfl,u6,h8⟩:=HQ.o.cells.2.2 m b7;obtain⟨z,hz⟩:=aK ((M.nd i).queue.getD m bk.zero);rw[<-hz]at h8;have n7:=ae (show cS z=0 from s8.o z (by
    rw[hz,au,aC (by rw[<-f7.o];exact b7)];exact dW _))
   obtain⟨rq,j1⟩:∃r9:eW,r9=((M.nd i).queue.take m).foldl (λr c=>r.ask (M.nd i) c) rX:=⟨_,rfl⟩
   have c9:=ae (show((M.nd i).queue.take (m+1)).foldl (λr c=>r.ask (M.nd i) c) rX=rq.ask (M.nd i) z by
    rw[FL (by rw[<-f7.o];exact b7),<-j1,<-hz])
   have j7:=HS.o;rw[<-j1]at j7;have X:=ae j7;have p6:∀q,q<5->wr.cell? (eb,t8+m*5+q)=(aQ z)[q]?:=λq hq=>by
    have h9:=h8 q hq;rw[eJ 5 m,<-eI]at h9;rw[aC (show q<(aQ z).length from hq)]at h9|-;exact X.o.Mf _ _ h9
   obtain⟨Z,F,a6,k1,k2,k3,k4,k5,k6⟩:=X.o.sJ;obtain⟨N2,a2⟩:∃N,N={M.nd i with rg:=de rq}:=⟨_,rfl⟩
   rw[<-a2]at k1;have b6:=λw (hb:dd wr.heap.size wr w)=>Hc k1 hi (b2.o.t (k2 i).symm) k3 k4 (by rw[a2]) (by rw[a2];exact HL.o) X.o.pi (by rw[a2];exact s1.o) (M.nd i) (by rw[a2]) (by rw[a2]) z n7.o w hb;obtain⟨fo,i0⟩:=aK (jr (M.nd i) rq z (40-(M.nd i).log.length));obtain⟨sv,j8⟩:=aK (fo.getD 0);obtain⟨d,hd⟩:=aK fo.isSome;rw[<-i0,<-j8,<-hd]at b6;obtain⟨pb,b1⟩:=aK a6.dD;have f5:=ae a2;have l7:=ae i0;have t1:=ae j8;have HD:=ae hd;have m5:=ae b1;have K1:=ae k1;have K2:=ae k2;have K3:=ae k3;have K4:=ae k4;have K5:=ae k5;have K6:=ae k6;obtain⟨A,B,C,D,E⟩:=z;unfold ptr aQ at b6;dsimp only at b6;have r8:=ae b6;obtain⟨e0,e1,e2,e3,e4⟩:=qd p6;dsimp only at e0 e1 e2 e3 e4;obtain⟨g,hg⟩:∃g,gk=g+1:=⟨gk-1,by omega⟩
   have V:=ae (show g<gk/\(m+1)+g=qn from⟨by omega,by omega⟩);have x1:(0:Int)<=(m:Int):=by omega
   have n6:=ae (show Value.int .i64 (wrap64 ((m:Int)+1))= .int .i64 ((m+1:Nat):Int) by
    have h1:=s7.o;rw[show wrap64 ((m:Int)+1)=((m+1:Nat):Int) by unfold wrap64;omega])
   clear h8 hz j1 j7 p6 k1 k2 k3 k4 k5 k6 a2 i0 j8 hd b6 b1 hg hmk HS u6;go_upto_region 20 with fail
   generalize L:World.alloc _ _=wA;have U:=ae (gv L);obtain⟨t7,g8⟩:=aK wr.heap.size;have a3:=ae (eZ L g8);rw[<-g8];clear L g8 e0 e1 e2 e3 e4;have y4:wA.cell? (K,0)=(Q,0):=(U.o.cell (aI wr _ y4)).t y4;have y5:wA.cell? (P,0)=(f,0):=(U.o.cell (aI wr _ y5)).t y5;have p0:=ej a3.o 0 rfl;have p1:=ej a3.o 1 rfl;have p2:=ej a3.o 2 rfl;have p3:=ej a3.o 3 rfl;have p4:=ej a3.o 4 rfl;go_upto_region 21 with(go_at_call 110;refine(r8.o wA U.o).m ?_;rintro e wB ⟨rfl,hb⟩;have k9:=ae hb;clear hb)
   clear p0 p1 p2 p3 p4;have B2:=ae (U.o.t (k9.o.m U.o.size));have t3:=ae ((k9.o.block t7 (hF a3.o)).t a3.o);have a8:=ae (X.o.below B2.o);cases d with
   |false=>
    have S:=ae (show yw hH W T I i G M f K P (((M.nd i).queue.take (m+1)).foldl (λr c=>r.ask (M.nd i) c) rX) (r1,o) wB by
     rw[c9.o,Is (by
      rw[<-l7.o];cases fo with
      |none=>rfl
      |some x=>have:=HD.o;cases this)]
     exact a8.o)
    go_wp2_with fail
    go_roundg g
    ·exact⟨m+1,V.o.2,n6.o,S.o⟩
    ·exact V.o.1
   |true=>
    have s0:=ae (show jr (M.nd i) rq ⟨A,B,C,D,E⟩ (40-(M.nd i).log.length)=de sv by
     rw[<-l7.o,t1.o];cases fo with
     |none=>have:=HD.o;cases this
     |some x=>rfl)
    have RB:=ae (K1.o.below B2.o);have f6:=ae (show(M.aX i N2).nd i=N2 from bf ..);have n0:=ae (show((M.aX i N2).nd i).rg=de rq by rw[f6.o,f5.o]);have s4:=ae (show((M.aX i N2).nd i).cI=dl by rw[f6.o,f5.o];exact HP.o);obtain⟨o5,e3,Y⟩:=RB.o.wo hi n0.o;rw[K3.o]at e3;injection e3 with e3;subst e3;have J:=Y.dM;rw[K4.o]at J;have Y4:=ae (show wB.cell? (f,4)=de (.map (de pb)) by rw[m5.o];exact ej J 4 rfl);have d0:=ae (hF J);have Y5:=ae (a8.o.Mf _ _ Z5.o);have f9:=ae (aI wB _ Y5.o);clear J Y y4 y5;go_upto_region 22 with fail
    refine bh (by kernel_rfl) (λv7 b5=>?_);have c0:=ae b5;clear b5;refine dN [RK.val (f,0),.val (f,0),.val (f,4),.val (.map (de pb)),.val sv,.val (.agg #[A,B,C,D,E])] [127,128,129,130,131,132] (by kernel_rfl) (λw9 hb=>?_) (λw9 hb=>?_)
    ·have n:=c0.o.t (hb.m c0.o.size);refine jh (cZ n f9.o Y5.o) (by kernel_rfl) ?_;iterate 2 refine .run (by kernel_rfl) ?_
     refine jh (cZ n d0.o Y4.o) (by kernel_rfl) ?_;refine .run (by kernel_rfl) ?_;refine mf (nR n t3 0 rfl) (by kernel_rfl) ?_;exact .nil
    have n:=c0.o.t (hb.m c0.o.size);obtain⟨w1,j6,⟨G3,p,H,j3,j4⟩,u9,p5⟩:=(RB.o.below n).CO hi s4.o K3.o n0.o sv ⟨A,B,C,D,E⟩;rw[<-m5.o]at j6;refine wH rfl rfl rfl 78 (.tmp 130) (.tmp 131) (.tmp 132) rfl (by kernel_rfl) (by kernel_rfl) (by kernel_rfl) j6 ?_;have S:=ae (show yw hH W T I i G M f K P (((M.nd i).queue.take (m+1)).foldl (λr c=>r.ask (M.nd i) c) rX) (r1,o) w1 from⟨⟨Z,G3,a6,by
     rw[c9.o,Ir s0.o];rw[f6.o,f5.o,eU]at p;exact p,λj=>(H j).t (K2.o j),j3,K4.o,K5.o.t ((cG.below (B2.o.t (n.m B2.o.size))).t j4),K6.o⟩,λa x hx=>p5 _ _ (((a8.o.below n).Mf a x hx)),aE (a8.o.below n).sz (by omega),by rw[c9.o];exact X.o.pi.ask _ n7.o,by rw[c9.o,Kl];exact X.o.bG⟩)
    clear j6 p H j3 j4 u9 p5 n hb;simp only[eS,Act.put,aq,aF,aG];go_wp2_with fail
    go_roundg g
    ·exact⟨m+1,V.o.2,n6.o,S.o⟩
    ·exact V.o.1
end Go.Proofs.YtcdmenphjilnnaaGreatDoor
