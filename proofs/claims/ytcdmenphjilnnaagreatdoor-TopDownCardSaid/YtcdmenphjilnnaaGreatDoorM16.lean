/-
  Parts of the proofs of the laws of the whole (what the functions compute, and plain laws of it); no conditions.
-/
import Derived.Test.YtcdmenphjilnnaaGreatDoorM13
set_option linter.unusedVariables false
set_option linter.unusedSimpArgs false
set_option maxRecDepth 100000
set_option maxHeartbeats 1000000
open Go.Proofs.Tryz
open Go renaming World->ax,Value->bd,Calls->bl
open Go.RowKit renaming Below->dd
open Option renaming some->de,none->dl
open Bool renaming true->dE,false->dT
open Go.Proofs.Tryz renaming prog->ed
namespace Go.Con
open Go.RowKit
set_option maxHeartbeats 400000
def kZ(L:List RK)(k:Nat):RK:=L.getD k (.val undef)
def MC:RK->Bool
 | .val _=>dE
 |_=>dT
def vL(L:List RK):List Nat:=kR (kZ L) L.length
def ux(ops:Array Oper)(d:List Nat)(L:List RK)(i:Nat):Bool:=match ops[i]? with
 |some o=>(o.op.operands.all λx=>match x with
  | .tmp t=>((List.range L.length).any λk=>d.getD k 0==t&&MC (kZ L k)&&ik ops i k)||(vL L).all λk=>d.getD k 0 !=t
  |_=>dE)&&match o.op with
  | .select .. =>dT
  |_=>dE
 |none=>dT
def eS(bs:Nat->Nat):List Nat->List RK->Nat->Act->Act
 |t::d,.val v::L,i,a=>eS bs d L (i+1) (a.put (de t) v)
 |t::d,.new _ _::L,i,a=>eS bs d L (i+1) (a.put (de t) (bs i,0))
 |_::d,.put .. ::L,i,a=>eS bs d L (i+1) a
 |_,_,_,a=>a
theorem oU(bs:Nat->Nat):∀(L:List RK) (d:List Nat) (i:Nat) (D:List Nat) (M:List RK) (a:Act),D.length=i->M.length=i->L.length=d.length->
  eS bs d L i a=fA a (λk=>(D++d).getD k 0) (lA (kZ (M++L)) bs) ((List.range' i L.length).filter λk=>(kZ (M++L) k).has)
 |[],d,i,D,M,a,_,_,h=>by
  cases d with
  |nil=>simp[eS,fA]
  |cons t d=>cases h
 |r::L,[],i,D,M,a,_,_,h=>by cases h
 |r::L,t::d,i,D,M,a,e,f,h=>by
  have e1:(M++r::L)=(M++[r])++L:=by simp
  have e2:(D++t::d)=(D++[t])++d:=by simp
  have hk:kZ (M++r::L) i=r:=by unfold kZ;subst f;simp
  have hd:(D++t::d).getD i 0=t:=by subst e;simp
  have b:=λa=>oU bs L d (i+1) (D++[t]) (M++[r]) a (by simp[e]) (by simp[f]) (by simpa using h);rw[<-e1,<-e2]at b;rw[aZ,List.range'_succ,fZ,hk];cases r with
  |val v=>
   have hv:lA (kZ (M++ .val v::L)) bs i=v:=by unfold lA;rw[hk]
   rw[eS,b,ar (show RK.has (.val v)=dE from rfl)];show _=fA (a.put (de ((D++t::d).getD i 0)) (lA (kZ (M++ .val v::L)) bs i)) _ _ _;rw[hd,hv]
  |new T Z=>
   have hv:lA (kZ (M++ .new T Z::L)) bs i= (bs i,0):=by unfold lA;rw[hk]
   rw[eS,b,ar (show RK.has (.new T Z)=dE from rfl)];show _=fA (a.put (de ((D++t::d).getD i 0)) (lA (kZ (M++ .new T Z::L)) bs i)) _ _ _;rw[hd,hv]
  |put j T s c=>rw[eS,b,ak (show¬RK.has (.put j T s c)=dE from Bool.false_ne_true)]
def uI(ops:Array Oper)(d:List Nat)(L:List RK)(C sz:Nat)(i:Nat):Bool:=match ops[i]?,kZ L i with
 |some o,.val _=>o.guard.isNone&&o.dst==de (d.getD i 0)&&decide (d.getD i 0<sz)&&ux ops d L i
 |some o,.new _ _=>o.guard.isNone&&o.dst==de (d.getD i 0)&&decide (d.getD i 0<sz)
 |some o,.put j T s cs=>decide (j<L.length)&&decide (s<L.length)&&ik ops i j&&ik ops i s&&(match kZ L j with
  | .new T' _=>T'==T
  |_=>dT)&&((List.range L.length).all λr=>r==i||match kZ L r with
   | .put a _ _ _=>a !=j
   |_=>dE)
 |none,_=>dT
def Ke(ops:Array Oper)(d:List Nat)(L:List RK)(C sz:Nat):Bool:=
 ops.size==L.length&&d.length==L.length&&pK ops&&decide (((vL L).map λk=>d.getD k 0).Nodup)&&(List.range L.length).all (uI ops d L C sz)
def An(P:Program)(a:Act)(o:Option Oper):Option (Nat×Array bd):=match o with
 |some ⟨_,.call ⟨.value (.func f),xs,_⟩,_,_,_,_⟩=>match P.funcs[f]? with
  |some fn=>if(fn.name== "runtime.NumGoroutine")=dT/\fn.body.isNone=dT then de (f,xs.map a.eval)else dl
  |none=>dl
 |_=>dl
theorem pf{P:Program}{a:Act}{o:Oper}{f:Nat}{vs:Array bd}{w:ax}(h:An P a (de o)=de (f,vs)):(execOp a.eval o).run P w= .ok (.enter f vs) w:=by
 unfold An at h;split at h
 ·rename_i dst c xs d ty pos b g e;injection e with e;subst e;split at h
  ·rename_i fn h1;split at h
   ·rename_i h3;injection h with h;injection h with h4 h5;subst h4 h5;exact tP h1 h3.1 h3.2 rfl rfl
   ·cases h
  ·cases h
 ·cases h
inductive ju(P:Program)(ops:Array Oper)(d:List Nat)(M:List RK)(C:Nat->Bool)(pu:Bool)(a:Act)(w:ax):Nat->List RK->Prop where
 |nil {i}:ju P ops d M C pu a w i []
 |skip {i v L} (hr:ju P ops d M C pu a w (i+1) L) (h:C i=dE:=by rfl):ju P ops d M C pu a w i (.val v::L)
 |run {i v L}:(execOp a.eval (ops.getD i default)).run P w= .ok (.value v) w->ju P ops d M C pu a w (i+1) L->ju P ops d M C pu a w i (.val v::L)
 |call {i v L f vs} (h:An P a ops[i]?=de (f,vs)) (hc:bl P f vs w (λe w'=>e= .returned v/\dd w.heap.size w w')) (hr:ju P ops d M C pu a w (i+1) L) (hp:pu=dT:=by rfl):ju P ops d M C pu a w i (.val v::L)
 |new {i T Z L}:(∀(ρ:Operand->bd) (w:ax),(execOp ρ (ops.getD i default)).run P w= .ok (.value (w.heap.size,0)) (w.alloc (.cells Z T)))->ju P ops d M C pu a w (i+1) L->ju P ops d M C pu a w i (.new T Z::L)
 |put {i j T s cs L} (v:bd) {Z:Array bd}:kZ M j= .new T Z->Z.size=cs.size->kZ M s= .val v->(∀{Q:Exit->Act->ax->Prop} (a:Act) (w:ax) (b:Nat) (C:Array bd),a.eval (.tmp (d.getD j 0))= (b,0)->a.eval (.tmp (d.getD s 0))=v->w.heap[b]?=de (.cells C T (0,0))->C.size=cs.size->wpOp P ops Q i (λa' w'=>a'=a/\w'=w.setCells b 0 cs.toList) a w)->ju P ops d M C pu a w (i+1) L->ju P ops d M C pu a w i (.put j T s cs::L)
theorem ju.at{P:Program}{ops:Array Oper}{d:List Nat}{M:List RK}{C:Nat->Bool}{b:Bool}{a:Act}{w:ax}:∀{L:List RK} {i:Nat},ju P ops d M C b a w i L->∀k,k<L.length->∃N,ju P ops d M C b a w (i+k) (kZ L k::N)
 |[],_,_,k,hk=>absurd hk (lu _)
 |r::L,i,h,0,_=>⟨L,h⟩
 |r::L,i,h,k+1,hk=>by
  have h1:ju P ops d M C b a w (i+1) L:=by cases h<;>assumption
  obtain⟨N,h2⟩:=h1.at k (by simpa using hk);exact⟨N,by rw[show i+(k+1)=i+1+k from by omega];exact h2⟩
theorem De{ops:Array Oper}{a0 a:Act}{d:List Nat}{L:List RK}{bs:Nat->Nat}{i:Nat}{o:Oper}(ho:ops[i]?=de o)(j:∀k,k∈vL L->d.getD k 0<a0.tmps.size)(g:((vL L).map λk=>d.getD k 0).Nodup)(hl:ux ops d L i=dE)(hlen:L.length=d.length)
  (h:∀t,(∀k∈vL L,d.getD k 0≠t)->a.eval (.tmp t)=a0.eval (.tmp t))(f:∀k v,k<L.length->ik ops i k=dE->kZ L k= .val v->a.eval (.tmp (d.getD k 0))=v):execOp a.eval o=execOp (eS bs d L 0 a0).eval o:=by
 have e:=oU bs L d 0 [] [] a0 rfl rfl hlen;rw[cK,cK,<-jW]at e;rw[e];unfold ux at hl;rw[ho]at hl;simp only[aP]at hl;obtain⟨h1,h2⟩:=hl;refine execOp_congr o (λcs b e=>by rw[e]at h2;cases h2) λx hx=>?_;have h3:=(Array.all_eq_true_iff_forall_mem.1 h1) x hx;cases x with
 |tmp t=>
  simp only[dS]at h3;rcases h3 with h3|h3
  ·obtain⟨k,hk,h4⟩:=gg.1 h3;simp only[aP,eE]at h4;obtain⟨⟨h5,h6⟩,c⟩:=h4;have hk:=bj.1 hk;cases hv:kZ L k with
   |val v=>
    rw[<-h5,f k v hk c hv];have hm:k∈vL L:=bZ.2 ⟨bj.2 hk,by rw[hv];rfl⟩;refine Eq.symm ((kM (λk=>d.getD k 0) (lA (kZ L) bs) k _ g hm a0 (j k hm)).t ?_);unfold lA;rw[hv]
   |_=>rw[hv]at h6;cases h6
  ·have h5:∀k∈vL L,d.getD k 0≠t:=λk hk=>by simpa using gR.1 h3 k hk
   rw[h t h5];exact(ij (λk=>d.getD k 0) (lA (kZ L) bs) t _ h5 a0).symm
 |_=>rfl
structure vz(ops:Array Oper)(d:List Nat)(L:List RK)(C sz:Nat):Prop where
 size:ops.size=L.length
 len:L.length=d.length
 back:pK ops=dE
 nd:((vL L).map λk=>d.getD k 0).Nodup
 sl:∀k,k∈vL L->(ops[k]?).bind (·.dst)=de (d.getD k 0)/\d.getD k 0<sz
 val:∀k v,k<L.length->kZ L k= .val v->∃o,ops[k]?=de o/\o.guard=dl/\o.dst=de (d.getD k 0)/\ux ops d L k=dE
 new:∀k T Z,k<L.length->kZ L k= .new T Z->∃o,ops[k]?=de o/\o.guard=dl
 put:∀k j T s cs,k<L.length->kZ L k= .put j T s cs->j<L.length/\s<L.length/\ik ops k j=dE/\ik ops k s=dE
 inj:∀k r j T s cs T' s' cs',k<L.length->r<L.length->kZ L k= .put j T s cs->kZ L r= .put j T' s' cs'->k=r
theorem vz.of{ops:Array Oper}{d:List Nat}{L:List RK}{C sz:Nat}(h:Ke ops d L C sz=dE):vz ops d L C sz:=by
 unfold Ke at h;simp only[aP,eE,ap,gR,bj]at h;obtain⟨⟨⟨⟨h1,h2⟩,h3⟩,h4⟩,h5⟩:=h;have f:∀k v,k<L.length->kZ L k= .val v->∃o,ops[k]?=de o/\o.guard=dl/\o.dst=de (d.getD k 0)/\d.getD k 0<sz/\ux ops d L k=dE:=λk v hk hv=>by
  have h6:=h5 k hk;unfold uI at h6;rw[hv]at h6;cases ho:ops[k]? with
  |none=>rw[ho]at h6;cases h6
  |some o=>
   rw[ho]at h6;simp only[aP,eE,ap]at h6;exact⟨o,rfl,kz.1 h6.1.1.1,h6.1.1.2,h6.1.2,h6.2⟩
 have b:∀k T Z,k<L.length->kZ L k= .new T Z->∃o,ops[k]?=de o/\o.guard=dl/\o.dst=de (d.getD k 0)/\d.getD k 0<sz:=λk T Z hk hv=>by
  have h6:=h5 k hk;unfold uI at h6;rw[hv]at h6;cases ho:ops[k]? with
  |none=>rw[ho]at h6;cases h6
  |some o=>
   rw[ho]at h6;simp only[aP,eE,ap]at h6;exact⟨o,rfl,kz.1 h6.1.1,h6.1.2,h6.2⟩
 have c:∀k j T s cs,k<L.length->kZ L k= .put j T s cs->(j<L.length/\s<L.length/\ik ops k j=dE/\ik ops k s=dE)/\∀r,r<L.length->r=k\/∀T s cs,kZ L r≠.put j T s cs:=λk j T s cs hk hv=>by
  have h6:=h5 k hk;unfold uI at h6;rw[hv]at h6;cases ho:ops[k]? with
  |none=>rw[ho]at h6;cases h6
  |some o=>
   rw[ho]at h6;simp only[aP,ap,gR,bj,dS,eE]at h6;obtain⟨⟨⟨⟨⟨g1,g2⟩,l⟩,m⟩,t⟩,n⟩:=h6;refine⟨⟨g1,g2,l,m⟩,λr hr=>(n r hr).imp id λg T s cs e=>?_⟩;rw[e]at g;simp at g
 refine⟨h1,h2.symm,h3,h4,λk hk=>?_,λk v hk hv=>?_,λk T Z hk hv=>?_,λk j T s cs hk hv=>(c k j T s cs hk hv).1,λk r j T s cs T' u q hk hr h6 p=>?_⟩
 ·obtain⟨g1,g2⟩:=bZ.1 hk;have g1:=bj.1 g1;cases hv:kZ L k with
  |val v=>obtain⟨o,e1,-,e3,a,-⟩:=f k v g1 hv;exact⟨by rw[e1];exact e3,a⟩
  |new T Z=>obtain⟨o,e1,-,e3,a⟩:=b k T Z g1 hv;exact⟨by rw[e1];exact e3,a⟩
  |put=>rw[hv]at g2;cases g2
 ·obtain⟨o,e1,e2,e3,-,i⟩:=f k v hk hv;exact⟨o,e1,e2,e3,i⟩
 ·obtain⟨o,e1,e2,-⟩:=b k T Z hk hv;exact⟨o,e1,e2⟩
 ·rcases(c k j T s cs hk h6).2 r hr with e|e
  ·exact e.symm
  ·exact absurd p (e _ _ _)
theorem vz.MH{P:Program}{ops:Array Oper}{Q:Exit->Act->ax->Prop}{a0 a:Act}{w:ax}{d:List Nat}{L:List RK}{c sz i:Nat}{C:Nat->Bool}{v:bd}{bs:Nat->Nat}(F:vz ops d L c sz)(q:sz=a0.tmps.size)(j:ju P ops d L C dT (eS bs d L 0 a0) w 0 L)
  (hi:i<L.length)(hC:C i=dT)(hv:kZ L i= .val v)(p:∀t,(∀k∈vL L,d.getD k 0≠t)->a.eval (.tmp t)=a0.eval (.tmp t))(m:∀k v,k<L.length->ik ops i k=dE->kZ L k= .val v->a.eval (.tmp (d.getD k 0))=v):
  wpOp P ops Q i (λa' w'=>a'=a.put (de (d.getD i 0)) v/\dd w.heap.size w w') a w:=by
 obtain⟨o,h1,h2,h3,h4⟩:=F.val i v hi hv;have he:=De (bs:=bs) h1 (λk hk=>q▸(F.sl k hk).2) F.nd h4 F.len p m;obtain⟨N,h5⟩:=j.at i hi;rw[hv,ca]at h5;generalize f:i=r at h5;have h6:ops.getD i default=o:=by rw[bB,h1];rfl
 cases h5 with
 |skip _ h=>rw[<-f,hC]at h;cases h
 |run b _=>
  subst f;rw[h6]at b;exact jP h1 h2 h3 (by rw[he];exact b)
 |call b g _ _=>
  subst f;rw[h1]at b;refine ns h1 h2 _ _ (by rw[he];exact pf b) (kB g λe s n=>?_);obtain⟨rfl,l⟩:=n;exact⟨_,rfl,by rw[h3],l⟩
theorem iH{P:Program}{ops:Array Oper}{Q:Exit->Act->ax->Prop}{a0:Act}{c:ax}(L:List RK)(d:List Nat)(hc:Ke ops d L L.length a0.tmps.size=dE)
  (g:∀w,dd c.heap.size c w->ju P ops d L (λ_=>dT) dT (eS (λ_=>0) d L 0 a0) w 0 L)
  (y:∀w bs,Fs (kZ L) L.length c (λ_=>dE) bs w->Q .normal (eS bs d L 0 a0) w):
  wpAny P .any ops Q ops.size (Array.replicate ops.size dT) a0 c:=by
 have F:=vz.of hc;have hs:=F.size;refine Bg (kZ L) (λk=>d.getD k 0) (vL L) (by rw[hs];rfl) F.back (λi hi=>F.sl i (by rw[hs]at hi;exact hi)) (by rw[hs];exact F.nd) (λi v hi hv a w hb m l=>?_) (λi T Z hi hv=>?_) (λi j T s cs hi hv=>?_) (λi r j T s cs T' z n hi hr=>F.inj i r j T s cs T' z n (hs▸hi) (hs▸hr)) (λw bs h=>?_)
 ·rw[hs]at hi m l;exact F.MH rfl (g w hb) hi rfl hv m l
 ·rw[hs]at hi;obtain⟨o,h1,h2⟩:=F.new i T Z hi hv;obtain⟨N,h5⟩:=(g c (aj _ _)).at i hi;rw[hv,ca]at h5;cases h5 with
  |new f _=>exact⟨o,h1,h2,λA w=>by have:=f A w;rw[bB,h1]at this;exact this⟩
 ·rw[hs]at hi|-;obtain⟨g1,g2,p,q⟩:=F.put i j T s cs hi hv;obtain⟨N,h5⟩:=(g c (aj _ _)).at i hi;rw[hv,ca]at h5;cases h5 with
  |put v t u f x _=>exact⟨g1,g2,p,q,_,v,t,u,f,λa w b C=>x a w b C⟩
 ·rw[hs]at h;have e:=oU bs L d 0 [] [] a0 rfl rfl F.len;rw[cK,cK,<-jW]at e;have:=y w bs h;rw[e]at this;exact this
variable{P:Program}{ops:Array Oper}{Q:Exit->Act->ax->Prop}{a0 a:Act}{w w0:ax}{d:List Nat}{M L:List RK}{C:Nat->Bool}{pu:Bool}{i:Nat}{v:bd}
theorem cA{b:Nat}{A:Array bd}{T:TypeId}{f:Nat×Nat}(hb:dd w.heap.size w w0)(X:RowKit.Hid (w.heap[b]?=de (.cells A T f)))(o:Nat)(hc:A[o]?=de v):w0.cell? (b,o)=de v:=cZ hb (hF X.o) (ej X.o o hc)
def Iv(P:Program)(a:Operand->bd)(o:Option Oper):Option (Nat×Nat×Option Nat):=match o with
 |some ⟨_,.load T x,_,_,_,_⟩=>match a x,P.underlying T with
  | .pointer (de ⟨b,o,dl⟩),de d=>if d.isRow then(P.info? T).map λi=>(b,o,de i.size)else de (b,o,dl)
  |_,_=>dl
 |_=>dl
theorem GM{T:TypeId}{d:TypeDesc}(hu:P.underlying T=de d)(hd:d.isRow=dT):(isAgg T).run P w= .ok dT w:=by
 unfold isAgg;rw[eu,dt hu w];cases d<;>simp_all
theorem jh{b o:Nat}(hc:w.cell? (b,o)=de v)(h:Iv P a.eval ops[i]?=de (b,o,dl))(c:ju P ops d M C pu a w (i+1) L):ju P ops d M C pu a w i (.val v::L):=by
 refine .run ?_ c;rw[bB];cases ho:ops[i]? with
 |none=>rw[ho]at h;cases h
 |some op=>
  rw[ho]at h;unfold Iv at h;split at h
  ·rename_i dst T x ty pos f g e;injection e with e;subst e;split at h
   ·rename_i j k d' h1 h2;split at h
    ·cases hq:P.info? T with
     |none=>rw[hq]at h;cases h
     |some i=>rw[hq]at h;cases h
    ·rename_i h3;injection h with h;injection h with h4 h5;injection h5 with h5 h6;subst h4 h5;have h3:d'.isRow=dT:=by simpa using h3
     simp[execOp,h1,Instr.loadAt,Instr.sureAddr,eu,loadVar,GM h2 h3,hc]
   ·cases h
  ·cases h
def IB(w:ax)(b o:Nat):List bd->Prop
 |[]=>True
 |v::vs=>w.cell? (b,o)=de v/\IB w b (o+1) vs
theorem IB.at{b:Nat}:∀{vs:List bd} {o:Nat},IB w b o vs->w.rangeAt b o vs
 |[],_,_,j,v,h=>by cases h
 |u::vs,o,h,0,v,e=>by injection e with e;subst e;exact h.1
 |u::vs,o,h,j+1,v,e=>by
  have:=h.2.at j v e;rw[show o+(j+1)=o+1+j from by omega];exact this
theorem NT{b o:Nat}{vs:List bd}(k:Nat)(hc:w.rangeAt b o vs)(h:Iv P a.eval ops[i]?=de (b,o,de k))(hk:vs.length=k)(c:ju P ops d M C pu a w (i+1) L):ju P ops d M C pu a w i (.val (.agg vs.toArray)::L):=by
 subst hk;refine .run ?_ c;rw[bB];cases ho:ops[i]? with
 |none=>rw[ho]at h;cases h
 |some op=>
  rw[ho]at h;unfold Iv at h;split at h
  ·rename_i dst T x ty pos f g e;injection e with e;subst e;split at h
   ·rename_i j l d' h1 h2;split at h
    ·rename_i h3;cases hq:P.info? T with
     |none=>rw[hq]at h;cases h
     |some i=>
      rw[hq]at h;injection h with h;injection h with h4 h5;injection h5 with h5 h6;injection h6 with h6;subst h4 h5;simp only[nk,execOp,h1];rw[eu,run_loadAt_mid w _ _ T vs d' hc h2 h3 (by rw[hq,eH,h6])];rfl
    ·cases h
   ·cases h
  ·cases h
theorem mf{b o:Nat}{vs:List bd}(hc:IB w b o vs)(h:Iv P a.eval ops[i]?=de (b,o,de vs.length))(c:ju P ops d M C pu a w (i+1) L):ju P ops d M C pu a w i (.val (.agg vs.toArray)::L):=NT _ hc.at h rfl c
theorem nR{b:Nat}{A:Array bd}{T:TypeId}{f:Nat×Nat}(hb:dd w.heap.size w w0)(X:RowKit.Hid (w.heap[b]?=de (.cells A T f))):∀(o:Nat) {vs:List bd},(A.toList.drop o).take vs.length=vs->IB w0 b o vs
 |_,[],_=>trivial
 |o,v::vs,h=>by
  have h0:A[o]?=de v:=by
   have:=dz (λl=>l[0]?) h;simpa using this
  refine⟨cA hb X o h0,nR hb X (o+1) ?_⟩;have h1:A.toList.drop o=v::A.toList.drop (o+1):=by
   obtain⟨g1,g2⟩:=hJ.1 h0;rw[List.drop_eq_getElem_cons (by simpa using g1)];simp[g2]
  rw[h1,aZ,bH]at h;injection h
def Nq(P:Program)(a:Act)(o:Option Oper):Option (bd×bd×Nat):=match o with
 |some ⟨_,.indexAddr T x y,_,_,_,_⟩=>match P.underlying T with
  |some (.slice e)=>(P.info? e).map λi=>(a.eval x,a.eval y,i.size)
  |_=>dl
 |_=>dl
theorem LS{b p:Nat}(o n c k s:Nat)(h:Nq P a ops[i]?=de (.slice (de ⟨b,o,dl⟩) n c,.int .i64 (k:Int),s))(hk:k<n)(hp:o+k*s=p)(hL:ju P ops d M C pu a w (i+1) L):ju P ops d M C pu a w i (.val (.pointer (de ⟨b,p,dl⟩))::L):=by
 refine .run ?_ hL;rw[bB];cases ho:ops[i]? with
 |none=>rw[ho]at h;cases h
 |some op=>
  rw[ho]at h;unfold Nq at h;split at h
  ·rename_i dst T x y ty pos af g e;injection e with e;subst e;split at h
   ·rename_i e h1;cases hq:P.info? e with
    |none=>rw[hq]at h;cases h
    |some q=>
     rw[hq]at h;injection h with h;injection h with h2 h;injection h with h3 h4;have hk0:(0:Int)<=(k:Int):=by omega
     have hkI:(k:Int)<(n:Int):=by omega
     subst hp;simp only[nk,execOp,h2,h3];simp[Instr.indexAt,eu,dt h1,asIntOf,hk0,hkI,hk,sizeOf,typeInfo,hq,h4,Addr.add,go_sem]
   ·cases h
  ·cases h
def NF(P:Program)(ops:Array Oper)(d:List Nat)(i j s:Nat)(cs:Array bd):Bool:=match ops[i]? with
 |some ⟨dl,.store T (.tmp x) (.tmp y),_,_,_,dl⟩=>x==d.getD j 0&&y==d.getD s 0&&(P.info? T).map (·.size)==de cs.size&&cs.toList.all (·.oneCell')
 |_=>dT
theorem tW{T:TypeId}{j s:Nat}{vs:List bd}{Z:Array bd}(f:kZ M j= .new T Z)(e:Z.size=vs.length)(hv:kZ M s= .val (.agg vs.toArray))(h:NF P ops d i j s vs.toArray=dE)(c:ju P ops d M C pu a w (i+1) L):ju P ops d M C pu a w i (.put j T s vs.toArray::L):=by
 unfold NF at h;split at h
 ·rename_i T' x y _ _ _ ho;simp only[aP,eE]at h;obtain⟨⟨⟨rfl,rfl⟩,h3⟩,h4⟩:=h;exact .put _ f e hv (λa w b C h1 h2 h5 h6=>mN ho rfl T' _ _ rfl b 0 _ h1 h2 (dr h5 h6) h3 (by rw[List.all_toArray];simpa using h4) ⟨rfl,rfl⟩) c
 ·cases h
theorem LC{T:TypeId}{j s n c:Nat}{sa:Option Addr}{Z:Array bd}(k:kZ M j= .new T Z)(f:Z.size=1)(hv:kZ M s= .val (.slice sa n c))(h:NF P ops d i j s #[.slice sa n c]=dE)(e:ju P ops d M C pu a w (i+1) L):ju P ops d M C pu a w i (.put j T s #[.slice sa n c]::L):=by
 unfold NF at h;split at h
 ·rename_i T' x y _ _ _ ho;simp only[aP,eE]at h;obtain⟨⟨⟨rfl,rfl⟩,h3⟩,h4⟩:=h;refine .put _ k f hv (λa w b C h1 h2 h5 h6=>?_) e;obtain⟨l,g⟩:=Ej h5 h6;exact kq ho rfl rfl T' _ _ rfl h1 h2 (iG _ _ _ g (aO h5 0) h3)
 ·cases h
def vZ:RK->bd
 | .val v=>v
 |_=>undef
def JK(ops:Array Oper)(d:List Nat)(L:List RK)(sz:Nat):Bool:=
 ops.size==L.length+1&&d.length==L.length&&pK ops&&decide (((vL L).map λk=>d.getD k 0).Nodup)&&(List.range L.length).all λk=>MC (kZ L k)&&gM ops (L.length+1) L.length k&&uI ops d L L.length sz k
theorem FB{L:List RK}(h:∀k,k<L.length->MC (kZ L k)=dE):vL L=List.range L.length:=dQ.2 λk hk=>by
 have:=h k (bj.1 hk);cases e:kZ L k with
 |val v=>rfl
 |_=>rw[e]at this;cases this
theorem dN(L:List RK)(d:List Nat)(hc:JK ops d L a0.tmps.size=dE)
  (n:∀w,dd w0.heap.size w0 w->ju P ops d L (λ_=>dT) dT (eS (λ_=>0) d L 0 a0) w 0 L)
  (y:∀w,dd w0.heap.size w0 w->wpOp P ops Q L.length (λa' w'=>Q .normal a' w') (eS (λ_=>0) d L 0 a0) w):
  wpAny P .any ops Q ops.size (Array.replicate ops.size dT) a0 w0:=by
 unfold JK at hc;simp only[aP,eE,ap,gR,bj]at hc;obtain⟨⟨⟨⟨h1,h2⟩,h3⟩,h4⟩,h5⟩:=hc;have f:=FB λk hk=>(h5 k hk).1.1;have hv:∀k,k<L.length->kZ L k= .val (vZ (kZ L k)):=λk hk=>by
  have:=(h5 k hk).1.1;cases e:kZ L k with
  |val v=>rfl
  |_=>rw[e]at this;cases this
 have g:∀k,k<L.length->∃o,ops[k]?=de o/\o.guard=dl/\o.dst=de (d.getD k 0)/\d.getD k 0<a0.tmps.size/\ux ops d L k=dE:=λk hk=>by
  have h6:=(h5 k hk).2;unfold uI at h6;rw[hv k hk]at h6;cases ho:ops[k]? with
  |none=>rw[ho]at h6;cases h6
  |some o=>
   rw[ho]at h6;simp only[aP,eE,ap]at h6;exact⟨o,rfl,kz.1 h6.1.1.1,h6.1.1.2,h6.1.2,h6.2⟩
 have e:=oU (λ_=>0) L d 0 [] [] a0 rfl rfl h2.symm;rw[cK,cK,<-jW]at e;have e2:∀a:Act,fA a (λk=>d.getD k 0) (lA (kZ L) λ_=>0) (List.range L.length)=fA a (λk=>d.getD k 0) (xC λk=>vZ (kZ L k)) (List.range L.length):=λa=>fR _ _ _ _ (λk hk=>by
  unfold lA xC;rw[hv k (bj.1 hk)]) a
 have e3:eS (λ_=>0) d L 0 a0=fA a0 (λk=>d.getD k 0) (xC λk=>vZ (kZ L k)) (List.range L.length):=e.t ((dz _ f).t (e2 a0));refine zm (λk=>vZ (kZ L k)) (λk=>d.getD k 0) L.length h1 h3 (λk hk=>?_) (by rw[<-f];exact h4) (λk hk=>(h5 k hk).1.2) (λk hk a w hb z r=>?_) (λa w hb p _ _=>?_)
 ·obtain⟨o,g1,-,c,i,-⟩:=g k hk;exact⟨by rw[g1];exact c,i⟩
 ·obtain⟨o,g1,g2,c,i,l⟩:=g k hk;have he:=De (a:=a) (bs:=λ_=>0) g1 (λk hk=>by rw[f]at hk;exact(g k (bj.1 hk)).choose_spec.2.2.2.1) h4 l h2.symm (by rw[f];exact z) (λk' v u s x=>by rw[r k' u s,x];rfl);obtain⟨N,h6⟩:=(n w hb).at k hk;rw[hv k hk,ca]at h6;generalize j:k=A at h6;have m:ops.getD k default=o:=by rw[bB,g1];rfl
  cases h6 with
  |skip _ h=>cases h
  |run b _=>
   subst j;rw[m]at b;exact jP g1 g2 c (by rw[he];exact b)
  |call b h9 _ _=>
   subst j;rw[g1]at b;refine ns g1 g2 _ _ (by rw[he];exact pf b) (kB h9 λe B t=>?_);obtain⟨rfl,q⟩:=t;exact⟨_,rfl,by rw[c],q⟩
 ·rw[p,<-e3];exact y w hb
theorem mK{K:Act->ax->Prop}{f:Nat}{vs:Array bd}{o:Oper}(ho:ops[i]?=de o)(hg:o.guard=dl)(h:An P a (de o)=de (f,vs))(hc:bl P f vs w λe w'=>∃v,e= .returned v/\K (a.put o.dst v) w'):wpOp P ops Q i K a w:=
 ns ho hg _ _ (pf h) hc
end Go.Con
namespace Go.Con
open Go.RowKit
set_option maxHeartbeats 400000
inductive vS(D:Nat->Bool):Nat->List RK->List RK->Prop where
 |nil {i}:vS D i [] []
 |same {i r L M}:vS D (i+1) L M->vS D i (r::L) (r::M)
 |AK {i r s L M}:D i=dE->vS D (i+1) L M->vS D i (r::L) (s::M)
theorem vS.at{D:Nat->Bool}:∀{L M:List RK} {i:Nat},vS D i L M->∀k,D (i+k)=dT->kZ L k=kZ M k
 |_,_,_,.nil,_,_=>rfl
 |_,_,_,.same _,0,_=>rfl
 |_,_,i,.same h,k+1,h1=>h.at k (by rw[show i+1+k=i+(k+1)from by omega];exact h1)
 |_,_,_,.AK g _,0,h1=>by
  rw[fI]at h1;rw[h1]at g;cases g
 |_,_,i,.AK _ h,k+1,h1=>h.at k (by rw[show i+1+k=i+(k+1)from by omega];exact h1)
def sM(ops:Array Oper)(d:List Nat)(L:List RK)(C sz:Nat)(a:List Nat):Bool:=
 Ke ops d L C sz&&vL L==a&&decide (C<L.length)&&MC (kZ L C)&&!gM ops ops.size C C
theorem ig{P:Program}{ops:Array Oper}{Q:Exit->Act->ax->Prop}{a0:Act}{g:ax}{X:Type}(l:X)(K:X->List RK)(C:Nat)(m:X->ax->Prop)(t:X->Nat->Prop)(d:List Nat)(hc:∀x,sM ops d (K x) C a0.tmps.size (vL (K l))=dE)
  (Y:∀x y,vS (λi=>i==C||gM ops ops.size i C) 0 (K x) (K y))
  (E:∀x w,dd g.heap.size g w->ju P ops d (K x) (·==C) dT (eS (λ_=>0) d (K x) 0 a0) w 0 (K x))
  (V:∀x w,dd g.heap.size g w->∃f vs,An P (eS (λ_=>0) d (K x) 0 a0) ops[C]?=de (f,vs)/\bl P f vs w (λe w'=>∃y v,e= .returned v/\kZ (K y) C= .val v/\dd w.heap.size w w'/\m y w'/\∀q,t y q->w.heap.size<=q/\q<w'.heap.size))
  (S:∀x w w',m x w->dd w.heap.size w w'->m x w')(U:∀x w b cs,m x w->¬t x b->m x (w.setCells b 0 cs))
  (a1:∀x w bs,Fs (kZ (K x)) ops.size g (λ_=>dE) bs w->m x w->(∀q,t x q->g.heap.size<=q/\q<w.heap.size)->(∀j T Z,j<ops.size->kZ (K x) j= .new T Z->¬t x (bs j))->Q .normal (eS bs d (K x) 0 a0) w):
  wpAny P .any ops Q ops.size (Array.replicate ops.size dT) a0 g:=by
 have c:∀x,vz ops d (K x) C a0.tmps.size/\vL (K x)=vL (K l)/\C<(K x).length/\MC (kZ (K x) C)=dE/\gM ops ops.size C C=dT:=λx=>by
  have h:=hc x;unfold sM at h;simp only[aP,eE,ap,Bool.not_eq_true']at h;obtain⟨⟨⟨⟨h1,h2⟩,h3⟩,h4⟩,h5⟩:=h;exact⟨vz.of h1,h2,h3,h4,h5⟩
 have hs:=λx=>(c x).1.size;obtain⟨z,-,I,hCv,R⟩:=c l;have O:C∈vL (K l):=bZ.2 ⟨bj.2 I,by
  cases e:kZ (K l) C with
  |val v=>rfl
  |_=>rw[e]at hCv;cases hCv⟩
 refine zo l (λx=>kZ (K x)) C m t (λk=>d.getD k 0) (vL (K l)) (λx=>by rw[hs x];exact(c x).2.1) z.back z.sl z.nd ⟨by rw[hs l];exact I,O⟩ (λx y i hi G hr=>?_) (λx i v hi G hv a w hb H p=>?_) (λx a w hb H p=>?_) R S U (λx i T Z hi hv=>?_) (λx i j T s cs hi hv=>?_) (λx i r j T s cs T' s' J hi hr=>(c x).1.inj i r j T s cs T' s' J (hs x▸hi) (hs x▸hr)) (λx w bs h h1 h2 h3=>?_)
 ·exact(Y x y).at i (by rw[ca,hr,Bool.or_false];simpa using G)
 ·rw[hs x]at hi p;exact(c x).1.MH rfl (E x w hb) hi (by simpa using G) hv (by rw[(c x).2.1];exact H) p
 ·rw[hs x]at p;obtain⟨F,hd,hl,hv,-⟩:=c x;cases e:kZ (K x) C with
  |val u=>
   obtain⟨o,g1,g2,A,B⟩:=F.val C u hl e;have he:=De (a:=a) (bs:=λ_=>0) g1 (λk hk=>(F.sl k hk).2) F.nd B F.len (by rw[hd];exact H) p;obtain⟨f,vs,n,D⟩:=V x w hb;rw[g1]at n;refine ns g1 g2 _ _ (by rw[he];exact pf n) (kB D λe w8 W=>?_);obtain⟨y,v,rfl,k1,k2,k3,k4⟩:=W;exact⟨_,rfl,y,v,k1,by rw[A],k2,k3,k4⟩
  |_=>rw[e]at hv;cases hv
 ·rw[hs x]at hi;obtain⟨o,h1,h2⟩:=(c x).1.new i T Z hi hv;obtain⟨N,h5⟩:=(E x g (aj _ _)).at i hi;rw[hv,ca]at h5;cases h5 with
  |new n _=>exact⟨o,h1,h2,λρ w=>by have:=n ρ w;rw[bB,h1]at this;exact this⟩
 ·rw[hs x]at hi|-;obtain⟨g1,g2,A,B⟩:=(c x).1.put i j T s cs hi hv;obtain⟨N,h5⟩:=(E x g (aj _ _)).at i hi;rw[hv,ca]at h5;cases h5 with
  |put v L M n D _=>exact⟨g1,g2,A,B,_,v,L,M,n,λa w b C=>D a w b C⟩
 ·have e:=oU bs (K x) d 0 [] [] a0 rfl rfl (c x).1.len;rw[cK,cK,<-jW]at e;have:=a1 x w bs h h1 h2 h3;rw[e]at this;rw[<-(c x).2.1];exact this
end Go.Con
namespace Go.Proofs.YtcdmenphjilnnaaGreatDoor
open Go.RowKit Go.Con
theorem BJ(v:bd)(l:List cF)(y:cF)(w:ax)(hv:Dr w v l)(a7:∀x∈l,vO x)(hy:vO y):
  bl ed 130 #[v,.agg (aS y).toArray] w λe w'=>e= .returned (lY l y)/\dd w.heap.size w w':=by
 obtain⟨vs,⟨b1,b2⟩,⟨ck,g,cs,i,j⟩⟩:=y;obtain⟨ea,s,rfl,hle,b4,-⟩:=id hv;obtain⟨n,Y⟩:=aK l.length;rw[<-Y]at hv hle|-;have b5:s<=9223372036854775807:=b4;show bl ed 130 #[.slice ea n s,.agg #[.int .i64 vs,.int .i64 b1,.int .i64 b2,.int .i64 ck,.int .i64 g,.int .i64 cs,.int .i64 i,.int .i64 j]] w _;obtain⟨R,V⟩:=aK (lY l ⟨vs,(b1,b2),⟨ck,g,cs,i,j⟩⟩);rw[<-V];have a2:=ae V;have HV:=ae hv;have S:=ae Y;have b0:=ae a7;have a3:=ae hy;clear V hv Y a7 hy;go_enter func130,ntmps130
 go_wp2_with fail
 generalize W:World.alloc _ _=t;have a8:Hid (t.heap[w.heap.size]?=de (.cells #[vs,b1,b2,ck,g,cs,i,j] 109 (0,0))):=ae (by rw[<-W];exact aL _ _);have BW:=ae (gv W);have RM:w.heap.size<t.heap.size:=hF a8.o;clear W;go_loopw [8] (λa wr=>∃k:Nat,a= .int .i64 k/\k<=n/\Hid ((∀q,q<k->l.getD q cF.zero≠⟨vs,(b1,b2),⟨ck,g,cs,i,j⟩⟩)/\dd t.heap.size t wr)) (λa _=>n-(intOf a).toNat)
 case atStart=>exact⟨0,rfl,bX _,ae ⟨λq hq=>absurd hq (by omega),aj _ _⟩⟩
 case round=>
  obtain⟨k,rfl,hkn,o⟩:=hrel;have a9:=ae ((o.o.2.block _ RM).t a8.o);have c:=ae (BW.o.t (o.o.2.m BW.o.size));by_cases hlt:k<n
  ·obtain⟨r,p,rfl,f,X⟩:=HV.o.cells.2.2 k (by omega);obtain⟨z,Z⟩:=aK (l.getD k cF.zero);rw[<-Z]at X;have U:=ae Z;have a5:∀q,q<8->wr.cell? (r,p+k*8+q)=(aS z)[q]?:=λq hq=>by
    rw[<-X q hq,eJ,eI];exact aw (w:=w) (c.o.block r f)
   clear X Z;obtain⟨G,⟨A,B⟩,⟨D,C,F,E,H⟩⟩:=z;obtain⟨J,K,L,M,N,O,P,Q⟩:=Kf a5;dsimp only at J K L M N O P Q;have a6:k<n:=by omega
   have b6:(0:Int)<=(k:Int):=by omega
   have b7:(k:Int)<(n:Int):=by omega
   have b8:(prog.info? 109).map (λx=>x.size)=de 8:=by kernel_rfl
   have a4:=ae (show vO ⟨G,(A,B),⟨D,C,F,E,H⟩⟩ by
    rw[U.o,au,aC (show k<l.length by rw[<-S.o];exact a6)];exact b0.o _ (dW _))
   clear a5
   ·skip;by_cases he:(⟨G,(A,B),⟨D,C,F,E,H⟩⟩:cF)=⟨vs,(b1,b2),⟨ck,g,cs,i,j⟩⟩
    ·have I:=ae (show decide ((⟨vs,(b1,b2),⟨ck,g,cs,i,j⟩⟩:cF)=⟨G,(A,B),⟨D,C,F,E,H⟩⟩)=dE from fG he.symm);clear he;go_upto_region 4 with fail
     refine bh (by kernel_rfl) (λw5 hb5=>?_);have m:=ae hb5;clear hb5;refine dN [RK.val (.agg #[vs,b1,b2,ck,g,cs,i,j]),.val (.slice (r,p) n s),.val k,.val (r,p+k*8),.val (.agg #[G,A,B,D,C,F,E,H])] [11,12,13,14,15] (by kernel_rfl) (λu hb=>?_) (λu hb=>?_)
     ·have b:=m.o.t (hb.m m.o.size);refine mf (nR b a9 0 rfl) (by kernel_rfl) ?_;iterate 2 refine .run (by kernel_rfl) ?_
      refine LS p n s k 8 (by kernel_rfl) (by omega) (by omega) ?_;refine mf ⟨cZ b (ai f c.o.size) J,cZ b (ai f c.o.size) K,cZ b (ai f c.o.size) L,cZ b (ai f c.o.size) M,cZ b (ai f c.o.size) N,cZ b (ai f c.o.size) O,cZ b (ai f c.o.size) P,cZ b (ai f c.o.size) Q,⟨⟩⟩ (by kernel_rfl) ?_;exact .nil
     have b:=m.o.t (hb.m m.o.size);have hq:=Lb a3.o a4.o u;rw[I.o]at hq;refine tA rfl rfl rfl rfl (by kernel_rfl) (by kernel_rfl) hq (by kernel_rfl) ?_
     ·skip;have a1:=ae (c.o.t (b.m c.o.size));have a0:=ae (o.o.2.t (b.m o.o.2.size));clear hq b hb J K L M N O P Q;simp only[eS,Act.put,aq,aF,aG];have hr:R=(k:Int):=by
       rw[a2.o];exact xJ (d:=cF.zero) (by rw[<-S.o];exact a6) (by rw[<-U.o];exact(fF I.o).symm) o.o.1
      have T:=ae hr;clear hr;go_wp2_with fail
      go_ret
      exact⟨by rw[T.o];rfl,a1.o⟩
    ·have I:=ae (show decide ((⟨vs,(b1,b2),⟨ck,g,cs,i,j⟩⟩:cF)=⟨G,(A,B),⟨D,C,F,E,H⟩⟩)=dT from gE (λe=>he e.symm));clear he;go_upto_region 4 with fail
     refine bh (by kernel_rfl) (λw5 hb5=>?_);have m:=ae hb5;clear hb5;refine dN [RK.val (.agg #[vs,b1,b2,ck,g,cs,i,j]),.val (.slice (r,p) n s),.val k,.val (r,p+k*8),.val (.agg #[G,A,B,D,C,F,E,H])] [11,12,13,14,15] (by kernel_rfl) (λu hb=>?_) (λu hb=>?_)
     ·have b:=m.o.t (hb.m m.o.size);refine mf (nR b a9 0 rfl) (by kernel_rfl) ?_;iterate 2 refine .run (by kernel_rfl) ?_
      refine LS p n s k 8 (by kernel_rfl) (by omega) (by omega) ?_;refine mf ⟨cZ b (ai f c.o.size) J,cZ b (ai f c.o.size) K,cZ b (ai f c.o.size) L,cZ b (ai f c.o.size) M,cZ b (ai f c.o.size) N,cZ b (ai f c.o.size) O,cZ b (ai f c.o.size) P,cZ b (ai f c.o.size) Q,⟨⟩⟩ (by kernel_rfl) ?_;exact .nil
     have b:=m.o.t (hb.m m.o.size);have hq:=Lb a3.o a4.o u;rw[I.o]at hq;refine tA rfl rfl rfl rfl (by kernel_rfl) (by kernel_rfl) hq (by kernel_rfl) ?_
     ·skip;have a1:=ae (c.o.t (b.m c.o.size));have a0:=ae (o.o.2.t (b.m o.o.2.size));clear hq b hb J K L M N O P Q;simp only[eS,Act.put,aq,aF,aG];have b3:Hid ((∀q,q<k+1->l.getD q cF.zero≠⟨vs,(b1,b2),⟨ck,g,cs,i,j⟩⟩)/\dd t.heap.size t u):=ae ⟨λq hq=>by
       rcases dy q k with h|h
       ·exact o.o.1 q h
       ·rw[show q=k by omega,<-U.o];exact λe=>fY I.o e.symm,a0.o⟩
      go_wp2_with fail
      go_roundw
      case rel=>exact⟨k+1,by go_num,by omega,b3⟩
      case measure=>simp[intOf];omega
  ·have e:k=n:=by omega
   subst e;clear hlt;have hr:R=-1:=by
    rw[a2.o];exact rl (d:=cF.zero) (λq hq=>o.o.1 q (by rw[S.o];exact hq))
   have T:=ae hr;clear hr;go_wp2
   go_ret
   exact⟨by rw[T.o];rfl,c.o⟩
theorem zS(v:bd)(l:List cF)(y:cF)(w:ax)(hv:Dr w v l)(t:∀x∈l,vO x)(hy:vO y):
  bl ed 105 #[v,.agg (aS y).toArray] w λe w'=>e= .returned (.bool (decide (y∈l)))/\dd w.heap.size w w':=by
 have j:=tq l y;obtain⟨r,hr⟩:=aK (lY l y);obtain⟨d,hd⟩:=aK (decide (y∈l));rw[<-hr,<-hd]at j;rw[<-hd];have u:=ae hr;have p:=ae j;obtain⟨vs,⟨b1,b2⟩,⟨ck,c,cs,f,g⟩⟩:=y;obtain⟨ea,i,rfl,hle,z,-⟩:=id hv;obtain⟨n,k⟩:=aK l.length;rw[<-k]at hv hle|-;show bl ed 105 #[.slice ea n i,.agg #[.int .i64 vs,.int .i64 b1,.int .i64 b2,.int .i64 ck,.int .i64 c,.int .i64 cs,.int .i64 f,.int .i64 g]] w _;have q:Hid (∀a,Dr a (.slice ea n i) l->bl ed 130 #[.slice ea n i,.agg #[vs,b1,b2,ck,c,cs,f,g]] a λe w'=>e= .returned r/\dd a.heap.size a w'):=ae (λa h=>by rw[hr];exact BJ _ l ⟨vs,(b1,b2),⟨ck,c,cs,f,g⟩⟩ a h t hy);have s:=ae hv;clear hr hd j hv k;go_enter func105,ntmps105
 have b:Hid (∀o,dd w.heap.size w (w.alloc o)):=ae (λo=>(aj _ _).alloc (ag _) o);go_wp2_with (first
  |(go_at_call 130;refine(q.o _ (s.o.stay (b.o _))).m ?_;rintro e A ⟨rfl,hb⟩;have m:=ae ((b.o _).t (hb.m (b.o _).size));clear hb))
 go_ret
 exact⟨by rw[<-p.o];rfl,m.o⟩
set_option maxHeartbeats 400000
def vR(w:ax)(base:Nat)(v:bd)(l:List bk):Prop:=w.ownsRow base 54 5 v l.length (l.flatMap aQ)
theorem vR.row{w:ax}{base:Nat}{v:bd}{l:List bk}(h:vR w base v l):oQ w v l:=gN.zB (λ_=>rfl) h
theorem LX:(prog.info? 54).map (λi=>(i.zero,i.size,i.bytes))=de (de (.agg #[(0:Int),(0:Int),(0:Int),(0:Int),(0:Int)]),5,40):=by kernel_rfl
theorem vD(l:List bk):∀u∈l.flatMap aQ,u.oneCell'=dE:=by
 intro u hu;obtain⟨e,he,hu⟩:=List.mem_flatMap.1 hu;simp[aQ]at hu;rcases hu with rfl|rfl|rfl|rfl|rfl<;>rfl
theorem DY{w:ax}{ea:Option Addr}{k c:Nat}{m:List bk}(h:oQ w (.slice ea k c) m)(ad:Addr)(he:ea=de ad):∀j u,(m.flatMap aQ)[j]?=de u->w.cell? (ad.add j)=de u:=by
 intro j u hu;obtain⟨hk,e,a⟩:=h.cells;have hj:j<m.length*5:=by
  have:=(cX.1 hu).1;rwa[fg aQ 5 (λ_=>rfl)]at this
 obtain⟨b,off,d,-,hc⟩:=a (j/5) (by omega);obtain rfl:=fT (he.symm.t d);have h2:=hc (j%5) (fm _ (by decide));have h3:=iN aQ bk.zero 5 (λ_=>rfl) m (j/5) (by omega) (j%5) (fm _ (by decide));rw[Nat.div_add_mod]at h2 h3;rw[gY];exact h2.t (h3.symm.t hu)
section
variable{ops:Array Oper}{rest:List Oper}{o:Oper}{a:Act}{Q:Exit->Act->ax->Prop}{w:ax}
theorem OJ(f:o.guard=dl)(s x:Operand)(ho:o.op= .call {callee:= .builtin .append,args:=#[s,x],argTypes:=#[39,39]})
  (base:Nat)(v:bd)(l m:List bk)(ea:Option Addr)(k c:Nat)(hs:a.eval s=v)(e:vR w base v l)(hx:a.eval x= .slice ea k c)(g:oQ w (.slice ea k c) m)(q:ea=dl->c=0)(hlen:l.length+m.length<=1000000)(j:base<=w.heap.size)
  (h:∀d w',vR w' base d (l++m)->w.grownBy w' v.ownBlock->(d.ownBlock=v.ownBlock\/d.ownBlock=de w.heap.size)->wpList ed ops Q rest (a.put o.dst d) w'):wpList ed ops Q (o::rest) a w:=by
 obtain⟨i,hi,t,r,hb⟩:=gD LX;obtain⟨hk,u,n⟩:=g.cells;cases ea with
 |none=>
  have p:k=0:=by
   rcases pj k with h|h
   ·exact h
   ·obtain⟨b,off,he,-⟩:=n 0 h;cases he
  have hm:m=[]:=bq (by omega);rw[p,q rfl]at hx;subst hm;refine mY f s x 39 ho base 54 i 5 Tryz.underlying39 hi v l.length _ hs e hx ?_;exact h v w (by simpa using e) ⟨rfl,rfl,rfl,ag _,λ_ _ _=>rfl⟩ (.inl rfl)
 |some ad=>
  refine wpList_append_own_at w f s x 39 ho base 54 i _ 5 40 Tryz.underlying39 hi t r hb rfl (by decide) v l.length (l.flatMap aQ) hs e ad k c (m.flatMap aQ) hx (by rw[fg aQ 5 (λ_=>rfl),hk]) (DY g ad rfl) (vD m) (by unfold maxLen;omega) (by omega) j ?_;intro d w' h1 h2 _ h4;refine h d w' ?_ h2 h4;unfold vR;rw[aD,dP,<-hk];exact h1
end
theorem Ih(w:ax):bl ed 22 #[.slice dl 0 0] w λe w'=>e= .returned (.slice dl 0 0)/\w'=w:=by
 have a:=λ(w:ax)=>im (P:=ed) w 39 54 dl 0 0 0 0 Tryz.underlying39;go_enter func22,ntmps22
 go_wp2_with fail
 go_ret
 exact⟨rfl,rfl⟩
theorem ET(a:Addr)(n c:Nat)(l:List bk)(w:ax)(hv:oQ w (.slice (de a) n c) l)(hl:l.length<=100000):
  bl ed 22 #[.slice (de a) n c] w λe w'=>∃f,e= .returned f/\vR w' w.heap.size f l/\dd w.heap.size w w':=by
 have m:=λ(w:ax)=>im (P:=ed) w 39 54 (de a) n c 0 0 Tryz.underlying39;have i:=ae hv;clear hv;go_enter func22,ntmps22
 go_wp2_with (at_builtin;refine OJ rfl (.tmp 5) (.tmp 6) rfl w.heap.size (.slice (w.heap.size,0) 0 0) [] l (de a) n c rfl ⟨rfl,.inr ⟨w.heap.size,0,#[],rfl,ag _,aL _ _,ag _,by decide,rfl,rfl⟩⟩ rfl (gN.stay i.o ((aj _ _).alloc (ag _) _)) (λh=>by cases h) (by simp;omega) (by simp) ?_;intro v2 o d b _;have j:=ae d;have g:=ae b;clear d b)
 go_ret
 refine⟨_,rfl,by have h:=j.o;rwa[cK]at h,((aj _ _).alloc (ag _) _).grown g.o (by simp) (λk hk=>by injection hk with hk;subst hk;exact ag _)⟩
theorem Ii(v:bd)(l:List bk)(w:ax)(hv:oQ w v l)(f:v= .slice dl 0 0\/∃a n c,v= .slice (de a) n c)(hl:l.length<=100000):
  bl ed 22 #[v] w λe w'=>∃b,e= .returned b/\vR w' w.heap.size b l/\dd w.heap.size w w':=by
 rcases f with rfl|⟨a,n,c,rfl⟩
 ·have d:l=[]:=by
   obtain⟨a,c,h,-⟩:=hv;injection h with h1 h2 h3;exact bq h2.symm
  subst d;exact(Ih w).m λe w' ⟨h1,h2⟩=>⟨_,h1,World.ownsRow_nil _ _ _ _,by rw[h2];exact aj _ _⟩
 ·exact ET a n c l w hv hl
set_option maxHeartbeats 1000000
def Alike(a b:List bk):Prop:=∀i,i<a.length->i<b.length->a.getD i bk.zero=b.getD i bk.zero
theorem Gb{w w':ax}{d:Option Addr}{n c:Nat}{l:List bk}(h:oQ w (.slice d n c) l)(hb:dd w.heap.size w w'){k:Nat}(hk:k<n):∃a b,d=de ⟨a,b,dl⟩/\∀q,q<5->w'.cell? ⟨a,b+k*5+q,dl⟩=(aQ (l.getD k bk.zero))[q]?:=by
 obtain⟨a,b,rfl,f,e⟩:=h.cells.2.2 k hk;refine⟨a,b,rfl,λq hq=>?_⟩;rw[<-e q hq,eJ,eI];exact aw (w:=w) (hb.block a f)
theorem Fi(S T:bd)(a b:List bk)(w:ax)(E:oQ w S a)(F:oQ w T b):
  bl ed 11 #[S,T] w λe w'=>(∃r:Bool,e= .returned (.bool r)/\(r=dE<->Alike a b))/\dd w.heap.size w w':=by
 obtain⟨ea,ec,rfl,hle,a2,-⟩:=id E;obtain⟨fa,fc,rfl,a3,a1,-⟩:=id F;obtain⟨n,L⟩:=aK a.length;obtain⟨m,hm⟩:=aK b.length;rw[<-L]at E hle|-;rw[<-hm]at F a3|-;have a6:ec<=9223372036854775807:=a2;have a5:fc<=9223372036854775807:=a1;have U:=ae E;have V:=ae F;have P:=ae L;have O:=ae hm;clear E F L hm;go_enter func11,ntmps11
 go_upto_region 2 with fail
 go_loopg [5] n (λg s wr=>∃k:Nat,k+g=n/\s= .int .i64 k/\k<=m/\Hid ((∀q,q<k->a.getD q bk.zero=b.getD q bk.zero)/\dd w.heap.size w wr))
 case atStart=>exact⟨0,by omega,rfl,bX _,ae ⟨λq hq=>absurd hq (by omega),aj _ _⟩⟩
 case round=>
  obtain⟨k,b0,rfl,b1,j⟩:=hrel;obtain⟨w0,rfl⟩:=aK wr;by_cases h1:k<n
  ·have d1:decide ((k:Int)<n)=dE:=by rw[ap];omega
   have Z:decide (k<n)=dE:=by rw[ap];omega
   by_cases h2:k<m
   ·have d2:decide ((k:Int)<m)=dE:=by rw[ap];omega
    have a0:decide (k<m)=dE:=by rw[ap];omega
    obtain⟨g,hg⟩:∃g,gk=g+1:=⟨gk-1,by omega⟩
    obtain⟨eb,eo,rfl,J⟩:=Gb U.o j.o.2 h1;obtain⟨fb,fo,rfl,K⟩:=Gb V.o j.o.2 h2;obtain⟨y,hy⟩:=aK (a.getD k bk.zero);obtain⟨z,M⟩:=aK (b.getD k bk.zero);rw[<-hy]at J;rw[<-M]at K;have Q:=ae hy;have R:=ae M;clear hy M;obtain⟨ck,u,cs,D,I⟩:=y;obtain⟨l,B,C,G,N⟩:=z;obtain⟨y0,y1,y2,y3,y4⟩:=qd J;obtain⟨x0,x1,x2,x3,x4⟩:=qd K;dsimp only at x0 x1 x2 x3 x4 y0 y1 y2 y3 y4;have a7:(0:Int)<=(k:Int):=by omega
    have a8:(k:Int)<(n:Int):=by omega
    have a9:(k:Int)<(m:Int):=by omega
    clear J K;by_cases he:(⟨ck,u,cs,D,I⟩:bk)=⟨l,B,C,G,N⟩
    ·injection he with i0 i1 i2 i3 i4;subst i0 i1 i2 i3 i4;go_wp2_with fail
     go_region
     all_goals (
      go_wp2_with fail
      have Y:Hid ((∀q,q<k+1->a.getD q bk.zero=b.getD q bk.zero)/\dd w.heap.size w w0.drew):=ae ⟨λq hq=>by
       rcases dy q k with h|h
       ·exact j.o.1 q h
       ·rw[show q=k by omega,<-R.o,<-Q.o],j.o.2.drew⟩
      go_roundg g
      ·exact⟨k+1,by omega,by go_num,by omega,Y⟩
      ·omega)
    ·have X:=ae he;have a4:(ck≠l)\/(ck=l/\u≠B)\/(ck=l/\u=B/\cs≠C)\/(ck=l/\u=B/\cs=C/\D≠G)\/(ck=l/\u=B/\cs=C/\D=G/\I≠N):=by
      rcases Classical.em (ck=l/\u=B/\cs=C/\D=G/\I=N)with h|h
      ·exact absurd (by obtain⟨rfl,rfl,rfl,rfl,rfl⟩:=h;rfl) he
      ·omega
     have HNA:=ae (show¬Alike a b from λha=>X.o (by
      have:=ha k (by rw[<-P.o];exact h1) (by rw[<-O.o];exact h2);rw[<-Q.o,<-R.o]at this;exact this))
     clear he;rcases a4 with h|⟨rfl,h⟩|⟨rfl,rfl,h⟩|⟨rfl,rfl,rfl,h⟩|⟨rfl,rfl,rfl,rfl,h⟩
     all_goals (
      go_wp2_with fail
      go_region
      all_goals (
       go_wp2_with fail
       go_ret
       exact⟨⟨dT,rfl,by constructor<;>intro h9<;>first|cases h9|exact absurd h9 HNA.o⟩,j.o.2.drew⟩))
   ·have d2:decide ((k:Int)<m)=dT:=by rw[ah];omega
    have a0:decide (k<m)=dT:=by rw[ah];omega
    go_wp2_with fail
    go_ret
    exact⟨⟨dE,rfl,⟨λ_ i hi hj=>j.o.1 i (by rw[<-O.o]at hj;omega),λ_=>rfl⟩⟩,j.o.2⟩
  ·have d1:decide ((k:Int)<n)=dT:=by rw[ah];omega
   have Z:decide (k<n)=dT:=by rw[ah];omega
   go_wp2_with fail
   go_ret
   exact⟨⟨dE,rfl,⟨λ_ i hi hj=>j.o.1 i (by rw[<-P.o]at hi;omega),λ_=>rfl⟩⟩,j.o.2⟩
end Go.Proofs.YtcdmenphjilnnaaGreatDoor
