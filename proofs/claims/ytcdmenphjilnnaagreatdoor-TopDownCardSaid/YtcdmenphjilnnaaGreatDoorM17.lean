/-
  Parts of the proofs of the laws of the whole (what the functions compute, and plain laws of it); no conditions.
-/
import Derived.Test.YtcdmenphjilnnaaGreatDoorM13
set_option linter.unusedVariables false
set_option linter.unusedSimpArgs false
set_option maxRecDepth 100000
set_option maxHeartbeats 1000000
open Go.Proofs.Tryz
open Go renaming World->ax,Value->bd,Calls->bl
open Go.RowKit renaming Below->dd
open Option renaming some->de,none->dl
open Bool renaming true->dE,false->dT
open Go.Proofs.Tryz renaming prog->ed
namespace Go.Con
open Go.RowKit
set_option maxHeartbeats 400000
def tI(K:Nat->bd)(sp:Nat->Nat)(m:Nat)(V:Nat->bd)(i:Nat):bd:=if(List.range m).any (λt=>sp t==i)then V i else K i
theorem FC{K:Nat->bd}{sp:Nat->Nat}{m:Nat}{V:Nat->bd}{t:Nat}(a:t<m):tI K sp m V (sp t)=V (sp t):=by
 unfold tI;rw[ar (gg.2 ⟨t,bj.2 a,by simp⟩)]
theorem AP{K:Nat->bd}{sp:Nat->Nat}{m:Nat}{V:Nat->bd}{i:Nat}(h:∀t,t<m->sp t≠i):tI K sp m V i=K i:=by
 unfold tI;rw[ak];intro e;obtain⟨t,a,e⟩:=gg.1 e;exact h t (bj.1 a) (by simpa using e)
theorem DA{K:Nat->bd}{sp:Nat->Nat}{m:Nat}{V a:Nat->bd}{i:Nat}(h:V i=a i):tI K sp m V i=tI K sp m a i:=by
 unfold tI;rw[h]
theorem tU(d:Nat->Tmp){v b:Nat->bd}:∀(l:List Nat) (a:Act),(∀k∈l,v k=b k)->fA a d v l=fA a d b l
 |[],a,_=>rfl
 |k::l,a,h=>by
  unfold fA;simp only[dH];rw[h k (bO ..)];exact tU d l _ (λx hx=>h x (bw _ hx))
theorem Bf{P:Program}{ops:Array Oper}{Q:Exit->Act->ax->Prop}{a0:Act}{M:ax}(K:Nat->bd)(d:Nat->Tmp)(sp:Nat->Nat)(m n:Nat)(R:Nat->(Nat->bd)->ax->Prop)(hn:ops.size=n+1)(O:pK ops=dE)
  (L:∀i,i<n->(ops[i]?).bind (·.dst)=de (d i)/\d i<a0.tmps.size)(z:((List.range n).map d).Nodup)
  (E:∀k,k<n->gM ops (n+1) n k=dE)
  (Z:∀t,t<m->sp t<n)(G:∀s t,s<m->t<m->sp s=sp t->s=t)(Y:∀t,t+1<m->gM ops (n+1) (sp (t+1)) (sp t)=dE)
  (a3:∀i,i<n->(∀t,t<m->sp t≠i)->∀(j:Nat) (V:Nat->bd) (a:Act) (w:ax),j<=m->(∀t,t<m->gM ops (n+1) (sp t) i=dE->j<=t)->R j V w->(∀t,(∀k∈List.range n,d k≠t)->a.eval (.tmp t)=a0.eval (.tmp t))->
   (∀k,k<n->ik ops i k=dE->a.eval (.tmp (d k))=tI K sp m V k)->wpOp P ops Q i (λa' w'=>a'=a.put (de (d i)) (K i)/\w'=w) a w)
  (a1:∀t,t<m->∀(V:Nat->bd) (a:Act) (w:ax),R t V w->(∀t,(∀k∈List.range n,d k≠t)->a.eval (.tmp t)=a0.eval (.tmp t))->
   (∀k,k<n->ik ops (sp t) k=dE->a.eval (.tmp (d k))=tI K sp m V k)->wpOp P ops Q (sp t) (λa' w'=>∃v,a'=a.put (de (d (sp t))) v/\R (t+1) (λi=>if i=sp t then v else V i) w') a w)
  (W:∀(V:Nat->bd) (a:Act) (w:ax),R m V w->a=fA a0 d (tI K sp m V) (List.range n)->(∀k,k<n->a.eval (.tmp (d k))=tI K sp m V k)->(∀t,(∀k∈List.range n,d k≠t)->a.eval (.tmp t)=a0.eval (.tmp t))->wpOp P ops Q n (λa' w'=>Q .normal a' w') a w)
  (h0:R 0 (λ_=>undef) M):
  wpAny P .any ops Q ops.size (Array.replicate ops.size dT) a0 M:=by
 have X:∀p:Nat->Bool,(((List.range n).filter p).map d).Nodup:=λp=>(List.filter_sublist.map d).nodup z;refine lS O (λp a w=>(∀i k,p i=dE->ik ops i k=dE->p k=dE)/\((p n=dT/\∃j V,j<=m/\(∀t,t<m->p (sp t)=decide (t<j))/\R j V w/\a=fA a0 d (tI K sp m V) ((List.range n).filter p))\/(p n=dE/\Q .normal a w))) ?_ ?_ ?_
 ·rintro i hi p a w f q ⟨u,C⟩;have x:∀j k,(p j||j==i)=dE->ik ops j k=dE->(p k||k==i)=dE:=λj k hj H=>by
   rw[dS]at hj;rcases hj with hj|hj
   ·rw[u j k hj H];rfl
   ·have e:j=i:=by simpa using hj
    rw[q k (e▸H)];rfl
  have J:∀V,∀t,(∀k∈List.range n,d k≠t)->(fA a0 d (tI K sp m V) ((List.range n).filter p)).eval (.tmp t)=a0.eval (.tmp t):=λV t b=>ij d _ t _ (λk hk=>b k (bZ.1 hk).1) a0;have F:∀V k,k<n->p k=dE->(fA a0 d (tI K sp m V) ((List.range n).filter p)).eval (.tmp (d k))=tI K sp m V k:=λV k hk hp=>kM d _ k _ (X p) (bZ.2 ⟨bj.2 hk,hp⟩) a0 (L k hk).2;by_cases y:i<n
  ·have I:n≠i:=by omega
   rcases C with⟨h1,j,V,hj,g,o,rfl⟩|⟨h1,-⟩
   ·by_cases hs:∃t,t<m/\sp t=i
    ·obtain⟨t,l,rfl⟩:=hs;have h2:=g t l;rw[f]at h2;have a2:j<=t:=by have:=fY h2.symm;omega
     have U:t=j:=by
      rcases Nat.eq_or_lt_of_le a2 with e|hlt
      ·exact e.symm
      ·exfalso;obtain⟨c,rfl⟩:∃c,t=c+1:=⟨t-1,by omega⟩
       have h3:=iX (p:=λk=>p k||k==sp (c+1)) x _ _ _ (show(p (sp (c+1))||sp (c+1)==sp (c+1))=dE by simp) (Y c l);rw[dS]at h3;rcases h3 with h3|h3
       ·rw[g c (by omega)]at h3;have:=fF h3;omega
       ·have h4:=G c (c+1) (by omega) l (eq_of_beq h3);omega
     subst U;refine fh (λa' w' h=>?_) (a1 t l V _ w o (J V) (λk hk A=>F V k hk (q k A)));obtain⟨v,rfl,N⟩:=h;refine⟨x,.inl ⟨by simp[h1,I],t+1,_,l,λs hs=>?_,N,?_⟩⟩
     ·by_cases e:sp s=sp t
      ·have:=G s t hs l e;subst this;simp
      ·have C:s≠t:=λe2=>e (by rw[e2]);show(p (sp s)||sp s==sp t)=_;rw[show(sp s==sp t)=dT by simpa using e,Bool.or_false,g s hs];have:(s<t)<->(s<t+1):=by omega
       simp[this]
     ·have e1:fA a0 d (tI K sp m V) ((List.range n).filter p)=fA a0 d (tI K sp m (λi=>if i=sp t then v else V i)) ((List.range n).filter p):=tU d _ _ (λk hk=>DA (by
       have hpk:=(bZ.1 hk).2;have:k≠sp t:=λe=>by rw[e,f]at hpk;cases hpk
       rw[ak this]))
      rw[e1];have e2:tI K sp m (λi=>if i=sp t then v else V i) (sp t)=v:=by rw[FC l,ar rfl]
      have e3:=iI d (tI K sp m (λi=>if i=sp t then v else V i)) v p (sp t) _ a0 z (bj.2 y) f;rw[e3];refine fR d _ _ _ (λk hk=>?_) a0;by_cases r:k=sp t
      ·subst r;rw[e2];simp
      ·simp[r]
    ·have B:∀t,t<m->sp t≠i:=λt b e=>hs ⟨t,b,e⟩;refine fh (λa' w' h=>?_) (a3 i y B j V _ w hj (λt b hr=>Nat.le_of_not_lt λhlt=>by
      have h5:=g t b;rw[fG hlt]at h5;have:=iX u _ _ _ h5 hr;rw[f]at this;cases this) o (J V) (λk hk A=>F V k hk (q k A)))
     obtain⟨rfl,rfl⟩:=h;refine⟨x,.inl ⟨by simp[h1,I],j,V,hj,λt b=>?_,o,?_⟩⟩
     ·show(p (sp t)||sp t==i)=_;rw[show(sp t==i)=dT by simpa using B t b,Bool.or_false];exact g t b
     ·rw[iI d (tI K sp m V) (K i) p i _ a0 z (bj.2 y) f];refine fR d _ _ _ (λk hk=>?_) a0;by_cases r:k=i
      ·subst r;rw[AP B];simp
      ·simp[r]
   ·have:=iX u _ _ _ h1 (E i y);rw[f]at this;cases this
  ·obtain rfl:i=n:=by omega
   rcases C with⟨h1,j,V,hj,g,o,rfl⟩|⟨h1,-⟩
   ·have D:∀k,k<i->p k=dE:=λk hk=>by
     have h3:=E k hk;rw[gM,dS]at h3;rcases h3 with h3|h3
     ·exact q k h3
     ·obtain⟨j,_,hj⟩:=gg.1 h3;rw[aP]at hj;exact iX u _ _ _ (q j hj.1) hj.2
    have S:(List.range i).filter p=List.range i:=dQ.2 λk hk=>D k (bj.1 hk);have T:j=m:=by
     rcases pj m with e|hm
     ·omega
     ·have h4:=g (m-1) (by omega);rw[D _ (Z (m-1) (by omega))]at h4;have:=fF h4.symm;omega
    subst T;rw[S];refine fh (λa' w' h=>⟨x,.inr ⟨by simp,h⟩⟩) (W V _ w o rfl (λk hk=>kM d _ k _ z (bj.2 hk) a0 (L k hk).2) (λt b=>ij d _ t _ b a0))
   ·rw[f]at h1;cases h1
 ·rintro p a w hp ⟨-,⟨h1,-⟩|⟨-,h⟩⟩
  ·rw[hp n (by omega)]at h1;cases h1
  ·exact h
 ·exact⟨λi k h=>(by cases h),.inl ⟨rfl,0,_,bX _,λt b=>by simp,h0,by rw[fM.2 (by simp)];rfl⟩⟩
theorem xH{P:Program}{ops:Array Oper}{Q:Exit->Act->ax->Prop}{a0:Act}{c:ax}(K:Nat->bd)(d:Nat->Tmp)(n:Nat)(late:Nat->Bool)(R:ax->Prop)(M:ops.size=n+1)(A:pK ops=dE)
  (I:∀i,i<n->(ops[i]?).bind (·.dst)=de (d i)/\d i<a0.tmps.size)(x:((List.range n).map d).Nodup)
  (B:∀k,k<n->late k=dT->gM ops (n+1) n k=dE)
  (L:∀i,i<n->late i=dT->∀(a:Act) (w:ax),dd c.heap.size c w->(∀t,(∀k∈List.range n,d k≠t)->a.eval (.tmp t)=a0.eval (.tmp t))->
   (∀k,k<n->ik ops i k=dE->a.eval (.tmp (d k))=K k)->wpOp P ops Q i (λa' w'=>a'=a.put (de (d i)) (K i)/\dd w.heap.size w w') a w)
  (H:∀i,i<n->late i=dE->∀(a:Act) (w:ax),
   (∀k,k<n->ik ops i k=dE->a.eval (.tmp (d k))=K k)->wpOp P ops Q i (λa' w'=>a'=a.put (de (d i)) (K i)/\w'=w) a w)
  (E:∀(a:Act) (w:ax),dd c.heap.size c w->(∀k,k<n->ik ops n k=dE->a.eval (.tmp (d k))=K k)->(∀t,(∀k∈List.range n,d k≠t)->a.eval (.tmp t)=a0.eval (.tmp t))->wpOp P ops Q n (λa' w'=>a'=a/\R w') a w)
  (C:∀w,R w->Q .normal (fA a0 d (xC K) (List.range n)) w):
  wpAny P .any ops Q ops.size (Array.replicate ops.size dT) a0 c:=by
 have G:∀p:Nat->Bool,(((List.range n).filter p).map d).Nodup:=λp=>(List.filter_sublist.map d).nodup x;refine lS A (λp a w=>(∀i k,p i=dE->ik ops i k=dE->p k=dE)/\a=fA a0 d (xC K) ((List.range n).filter p)/\((p n=dT/\dd c.heap.size c w)\/(p n=dE/\R w))) ?_ ?_ ?_
 ·rintro i hi p a w q g ⟨u,rfl,r⟩;have m:∀j k,(p j||j==i)=dE->ik ops j k=dE->(p k||k==i)=dE:=λj k hj v=>by
   rw[dS]at hj;rcases hj with hj|hj
   ·rw[u j k hj v];rfl
   ·have e:j=i:=by simpa using hj
    rw[g k (e▸v)];rfl
  have y:∀t,(∀k∈List.range n,d k≠t)->(fA a0 d (xC K) ((List.range n).filter p)).eval (.tmp t)=a0.eval (.tmp t):=λt J=>ij d _ t _ (λk hk=>J k (bZ.1 hk).1) a0;have o:∀k,k<n->p k=dE->(fA a0 d (xC K) ((List.range n).filter p)).eval (.tmp (d k))=K k:=λk hk hp=>kM d _ k _ (G p) (bZ.2 ⟨bj.2 hk,hp⟩) a0 (I k hk).2;have s:i<n->(fA a0 d (xC K) ((List.range n).filter p)).put (de (d i)) (K i)=fA a0 d (xC K) ((List.range n).filter λk=>p k||k==i):=λb=>by
   rw[iI d (xC K) (K i) p i _ a0 x (bj.2 b) q];refine fR d _ _ _ (λk hk=>?_) a0;by_cases l:k=i
   ·subst l;simp[xC]
   ·simp[l]
  by_cases b:i<n
  ·have F:n≠i:=by omega
   have e1:(p n||n==i)=p n:=by simp[F]
   cases hlt:late i with
   |false=>
    rcases r with⟨h1,h2⟩|⟨h1,-⟩
    ·refine fh (λa' w' h=>?_) (L i b hlt _ w h2 y (λk hk f=>o k hk (g k f)));obtain⟨rfl,hb⟩:=h;refine⟨m,s b,.inl ⟨e1.t h1,h2.t (hb.m h2.size)⟩⟩
    ·have:=iX u _ _ _ h1 (B i b hlt);rw[q]at this;cases this
   |true=>
    refine fh (λa' w' h=>?_) (H i b hlt _ w (λk hk f=>o k hk (g k f)));obtain⟨rfl,rfl⟩:=h;refine⟨m,s b,?_⟩;dsimp only;rw[e1];exact r
  ·obtain rfl:i=n:=by omega
   rcases r with⟨h1,h2⟩|⟨h1,-⟩
   ·refine fh (λa' w' h=>?_) (E _ w h2 (λk hk f=>o k hk (g k f)) y);obtain⟨rfl,z⟩:=h;refine⟨m,dz (fA a0 d (xC K)) (my λk hk=>?_),.inr ⟨by simp,z⟩⟩;have l:k≠i:=by have:=bj.1 hk;omega
    simp[l]
   ·rw[q]at h1;cases h1
 ·rintro p a w hp ⟨-,rfl,⟨h1,-⟩|⟨-,h⟩⟩
  ·rw[hp n (by omega)]at h1;cases h1
  ·have D:(List.range n).filter p=List.range n:=dQ.2 λk hk=>hp k (by have:=bj.1 hk;omega);rw[D];exact C w h
 ·exact⟨λi k h=>(by cases h),by rw[fM.2 (by simp)];rfl,.inl ⟨rfl,aj _ _⟩⟩
end Go.Con
namespace Go.Proofs.YtcdmenphjilnnaaGreatDoor
open Go.RowKit Go.Con
def yx(w:ax)(D:List UInt8)(e:Ending)(w':ax):Prop:=
 dd w.heap.size w w'/\∃a1 a c1,e= .returned (.tuple #[.agg #[(cE eL.zero D).1.p.1,(cE eL.zero D).1.p.2,.slice a1 a c1],((cE eL.zero D).2:Nat),(0:Int)])/\fk w' w.heap.size (.slice a1 a c1) (cE eL.zero D).1.l
theorem fW{P:Program}{fn:Func}{tmps:Array bd}{w:ax}{a b c:Nat}{t:TypeId}{ad:Addr}{v:bd}(hr:fn.results=#[.cell a t,.tmp b,.tmp c])(d:tmps.getD a undef= .pointer (de ad))
  (hl:(loadVar t ad).run P w= .ok v w):(results fn tmps).run P w= .ok (.tuple #[v,tmps.getD b undef,tmps.getD c undef]) w:=by
 unfold results;rw[hr];simp only[bB]at d;generalize loadVar=L at hl|-;simp[d,hl,go_sem]
theorem Jx{P:Program}{f:FuncId}{args:Array bd}{w:ax}{n:Nat}{v:bd}
  (h:bl P f args (w.drewN n) λe w'=>e= .returned v/\∃m,w'=(w.drewN n).drewN m):bl P f args (w.drewN n) λe a=>e= .returned v/\∃m,a=w.drewN m:=
 h.m λ_ _ ⟨he,m,hm⟩=>⟨he,n+m,by rw[hm,World.drewN_drewN]⟩
structure pL(w wr:ax)(xb ab:Nat)(sa:Option Addr)(n sc:Nat)(s:Int)(D:List UInt8)(a:eL)(a1:Option Addr)(n1 c1:Nat):Prop where
 below:dd w.heap.size w wr
 y:wr.heap[w.heap.size+1]?=de (.cells #[(0:Int),(0:Int),.slice dl 0 0] 76 (0,0))
 x:wr.heap[xb]?=de (.cells #[.slice sa n sc,s] 71 (0,0))
 c:wr.heap[ab]?=de (.cells #[a.p.1,a.p.2,.slice a1 n1 c1] 76 (0,0))
 rd:Rd wr (.slice sa n sc) D
 NM:∀k,(Value.slice sa n sc).ownBlock=de k->k<ab
 vs:fk wr (ab+1) (.slice a1 n1 c1) a.l
 ok:a.ok=dE
 xl:w.heap.size+1<xb
 al:xb<ab
theorem pL.stay{w wr w':ax}{e b:Nat}{sa:Option Addr}{n d:Nat}{s:Int}{D:List UInt8}{a:eL}{a1:Option Addr}{c c1:Nat}(h:pL w wr e b sa n d s D a a1 c c1)(hb:dd wr.heap.size wr w'):pL w w' e b sa n d s D a a1 c c1:=
 ⟨gh h.below hb,(hb.block _ (hF h.y)).t h.y,(hb.block _ (hF h.x)).t h.x,(hb.block _ (hF h.c)).t h.c,h.rd.stay hb,h.NM,ew h.vs (ag _) (λk _ hk=>hb.block k hk),h.ok,h.xl,h.al⟩
theorem pL.put{w wr:ax}{j d:Nat}{sa:Option Addr}{n i:Nat}{s:Int}{D:List UInt8}{a c:eL}{a1 a2:Option Addr}{p c1 g f:Nat}(h:pL w wr j d sa n i s D a a1 p c1)(hv:fk wr (d+1) (.slice a2 g f) c.l)(m:c.ok=dE):
  pL w (((wr.setCell (d,0) c.p.1).setCell (d,1) c.p.2).setCell (d,2) (.slice a2 g f)) j d sa n i s D c a2 g f:=by
 have e:∀b,b≠d->(((wr.setCell (d,0) c.p.1).setCell (d,1) c.p.2).setCell (d,2) (.slice a2 g f)).heap[b]?=wr.heap[b]?:=λb hb=>(aA 2 _ hb).t ((aA 1 _ hb).t (aA 0 _ hb));have hx:=h.xl;have l:=h.al;have hle:w.heap.size<=d:=by omega
 exact⟨((h.below.setCell hle _).setCell hle _).setCell hle _,(e _ (by omega)).t h.y,(e _ (by omega)).t h.x,aB (o:=2) (aB (o:=1) (aB (o:=0) h.c _) _) _,
  h.rd.nT (λk hk _=>e k (by have:=h.NM k hk;omega)),h.NM,ew hv (ag _) (λk hk _=>e k (by omega)),m,hx,l⟩
theorem pL.o{w wr:ax}{e c:Nat}{sa:Option Addr}{n d:Nat}{s:Int}{D:List UInt8}{a:eL}{a1:Option Addr}{b c1:Nat}(h:pL w wr e c sa n d s D a a1 b c1):
  dd w.heap.size w (((wr.setCell (w.heap.size+1,0) a.p.1).setCell (w.heap.size+1,1) a.p.2).setCell (w.heap.size+1,2) (.slice a1 b c1))/\
  (((wr.setCell (w.heap.size+1,0) a.p.1).setCell (w.heap.size+1,1) a.p.2).setCell (w.heap.size+1,2) (.slice a1 b c1)).heap[w.heap.size+1]?=de (.cells #[a.p.1,a.p.2,.slice a1 b c1] 76 (0,0))/\
  fk (((wr.setCell (w.heap.size+1,0) a.p.1).setCell (w.heap.size+1,1) a.p.2).setCell (w.heap.size+1,2) (.slice a1 b c1)) w.heap.size (.slice a1 b c1) a.l:=by
 have hle:w.heap.size<=w.heap.size+1:=by omega
 have hx:=h.xl;have f:=h.al;exact⟨((h.below.setCell hle _).setCell hle _).setCell hle _,aB (o:=2) (aB (o:=1) (aB (o:=0) h.y _) _) _,ew h.vs (by omega) (λk hk _=>(aA 2 _ (by omega)).t ((aA 1 _ (by omega)).t (aA 0 _ (by omega))))⟩
theorem rU(v:bd)(D:List UInt8)(s:Int)(w:ax)(hv:Rd w v D)(h0:0<=s)(h1:s<=D.length)(h2:D.length<=100000)(hk:Kn w):
  bl ed 37 #[.agg #[v,s]] w (yx w D):=by
 obtain⟨va,vc,rfl,hc,g3⟩:=id hv.slice;obtain⟨n,hn⟩:=aK D.length;have b3:=ae (λw h=>oV (.slice va D.length vc) D s w h h0 h1 h2);rw[<-hn]at hv h1 h2 hc b3|-;have HV:=ae hv;have U:=ae hn;have HK:=ae hk;clear hv hn hc g3 hk;go_enter func37,ntmps37
 go_upto_region 1 with fail
 generalize i:World.alloc _ _=w1;obtain⟨X,Y,B0,f6⟩:=lI i;have d5:=ae B0;have c0:=ej X 0 rfl;have c1:=ej X 1 rfl;have e5:=ae (HV.o.below B0 HV.o.lt);have HZ:=ae f6;have HY:=ae Y;clear i f6 X Y B0;go_upto_region 2 with(go_at_call 58;refine(b3.o _ e5.o).m ?_;rintro e M ⟨v2,rfl,O,b8⟩;obtain⟨sa,E,rfl,_,_⟩:=O.rd.fB n U.o.symm;have B2:=ae b8;have O2:=ae O;clear O b8)
 have a0:dd w1.heap.size w1 (M.alloc (.cells #[.slice sa n E,s] 71)):=B2.o.alloc B2.o.size _;have x3:(M.alloc (.cells #[.slice sa n E,s] 71)).heap[M.heap.size]?=de (.cells #[.slice sa n E,s] 71):=aL _ _;have o3:Own (M.alloc (.cells #[.slice sa n E,s] 71)) w1.heap.size (.slice sa n E) D:=O2.o.alloc _;have hlt:∀k,(Value.slice sa n E).ownBlock=de k->k<M.heap.size:=λk hk=>(O2.o.lt k hk).2;have g7:w1.heap.size<=M.heap.size:=B2.o.size;obtain⟨xb,hq⟩:=aK M.heap.size;rw[<-hq]at x3 hlt g7|-;generalize i:M.alloc _=w3 at a0 x3 o3|-;have y3:=(a0.block _ (hF HY.o)).t HY.o;have J:=ae x3;have b7:=ae y3;have B3:=ae a0;have O3:=ae o3;have e0:=ae hlt;clear i a0 x3 y3 o3 hlt c0 c1 B2 O2 hq;go_wp2_with fail
 have V:=ae (show pL w (w3.alloc (.cells #[(0:Int),(0:Int),.slice dl 0 0] 76)) xb w3.heap.size sa n E s D eL.zero dl 0 0 from
  ⟨ei (gh d5.o B3.o),(bC _ _ _ (hF b7.o)).t b7.o,(bC _ _ _ (hF J.o)).t J.o,aL _ _,O3.o.rd.alloc _,λk hk=>by have:=e0.o k hk;have:=hF J.o;omega,World.ownsRow_nil _ _ _ _,by decide,by have:=HZ.o;omega,hF J.o⟩)
 have f9:=ae (HK.o.stay V.o.below);obtain⟨K,f0⟩:=aK w3.heap.size;rw[<-f0]at V|-;generalize i:World.alloc _ _=w4 at V f9|-;clear i f0 J b7 B3 O3 e0 e5 HY HZ d5 b3;go_loopw [8,9,10,11,12,13,14] (λat' _ _ _ _ _ _ wr=>∃t:Nat,t<=n/\at'= .int .i64 t/\Hid (∃a a1 j c1,pL w wr xb K sa n E s D a a1 j c1/\cE eL.zero D=((cE a (D.drop t)).1,t+(cE a (D.drop t)).2))) (λat' _ _ _ _ _ _ _=>n-(intOf at').toNat)
 case atStart=>exact⟨0,by omega,rfl,ae ⟨_,_,_,_,V.o,by simp⟩⟩
 case round=>
  clear V;obtain⟨t,j8,rfl,HI⟩:=hrel;obtain⟨a,a1,j,c1,inv,eq⟩:=HI.o;have f:=ae inv;have S:=ae eq;clear inv eq HI;have k0:=ej f.o.x 0 rfl;by_cases ht:t<n
  ·obtain⟨db,e9,dc,h4,i5,f3⟩:=f.o.rd.gL n U.o.symm (by omega);injection h4 with e1 e2 e3;subst e1 e3;have i6:E<=9223372036854775807:=f3;have a5:¬(E=t):=by omega
   obtain⟨x,hx⟩:=aK ((D.drop t).getD 0 0);have xc:wr.cell? (db,e9+t)=de (.int .u8 (x.toNat:Int)):=by
    have h:=f.o.rd.qM t (by rw[<-U.o];exact ht);rw[h,hx];simp[au,gZ]
   have J:=ae hx;have j9:x.toNat<256:=x.toNat_lt;clear f3 hx;have f2:decide ((t:Int)<n)=dE:=by rw[ap];omega
   have g4:decide (t<n)=dE:=by rw[ap];omega
   go_upto_region 9 with fail
   obtain⟨d,hd⟩:=aK (D.drop t);obtain⟨m,hm⟩:=aK (n-t);obtain⟨L,c3⟩:=aK (E-t);obtain⟨o2,O⟩:=aK (e9+t);obtain⟨k,g8⟩:∃k:Nat,k=1+x.toNat:=⟨_,rfl⟩
   have f4:(1:Int)+(x.toNat:Int)=(k:Int):=by omega
   have Z:=ae (f.o.rd.tail t (n-t) ht rfl);have a6:=ae (show(d.getD 0 0).toNat=k-1 by rw[hd,<-J.o];omega);rw[f4,<-hm,<-c3,<-O];rw[<-hm,<-c3,<-O,<-hd]at Z;rw[<-hd]at S;have HD:=ae hd;have HM:=ae hm;have G:=ae (show d.length=m by rw[hd,hm,U.o];simp);have i7:1<=k:=by omega
   have i8:k<=256:=by omega
   have j0:0<m:=by omega
   have j4:m<=n:=by omega
   have j3:m<=L:=by omega
   have j2:L<=9223372036854775807:=by omega
   have j5:t+m=n:=by omega
   clear f4 hd hm c3 O g8 xc f2 g4 J a5;by_cases hlen:m<k+4
   ·have A:eR a d=dl:=by rw[eR,ak (by rw[G.o];omega),ar (by rw[G.o,a6.o];omega)]
    have r:=ae (show cE eL.zero D=(a,t) by rw[S.o,eK A];rfl);clear A;have g5:decide ((m:Int)<(k:Int)+4)=dE:=by rw[ap];omega
    have g6:decide (m<k+4)=dE:=by rw[ap];omega
    have c8:=ej f.o.c 0 rfl;have c9:=ej f.o.c 1 rfl;have d0:=ej f.o.c 2 rfl;have d1:=ej f.o.y 0 rfl;have d2:=ej f.o.y 1 rfl;have d3:=ej f.o.y 2 rfl;have d4:=aO f.o.y;have u:=f.o.o;have N:=ae u;clear u;go_wp2_with fail
    obtain⟨y,F,C⟩:=N.o;generalize i:World.setCell _ _ _=Q at F y C|-;have hl:=aU (P:=ed) Q (w.heap.size+1) 0 76 [a.p.1,a.p.2,.slice a1 j c1] _ (bu F) Tryz.underlying76 rfl oo;exact aH (v:= .tuple #[.agg #[a.p.1,a.p.2,.slice a1 j c1],(t:Int),(0:Int)]) (fW Tryz.results37 rfl hl) rfl ⟨y,a1,j,c1,by rw[r.o],by rw[r.o];exact C⟩
   ·have g5:decide ((m:Int)<(k:Int)+4)=dT:=by rw[ah];omega
    have g6:decide (m<k+4)=dT:=by rw[ah];omega
    have e4:=ae (λW (i:dd wr.heap.size wr W)=>Iy _ (d.take k) W ((Z.o.pre k (by rw[G.o];omega)).stay i) (by simp;omega) ((HK.o.stay f.o.below).stay i));obtain⟨hs,b1⟩:=aK (Sha.sum (d.take k));rw[<-b1]at e4;have b2:=ae b1;have d9:=ae (show hs.length=32 by rw[b1,Sha.gK]);clear b1;go_upto_region 11 with(go_at_call 60;refine(e4.o _ ?hb).m ?_;(case hb=>(repeat (first|exact aj _ _|with_reducible refine eT ?_|with_reducible refine below_drewN ?_ _|with_reducible refine ei ?_)));rintro e w5 ⟨vh,rfl,c4,f1⟩;obtain⟨ha,i4,rfl,_,_⟩:=c4.rd.fB 32 d9.o;have OH:=ae c4;have B5:=ae f1;clear c4 f1)
    have e6:=ae (f.o.stay B5.o);have R5:=ae ((Z.o.stay B5.o).NQ k 4 (by omega) (by omega));have H5:=ae (OH.o.rd.pre 4 (by rw[d9.o];decide));have i9:¬(L=k):=by omega
    obtain⟨sb,c6⟩:=aK (hs.take 4==(d.drop k).take 4);have b5:=ae (λn=>oD _ _ _ _ (w5.drewN n) (H5.o.drewN n) (R5.o.drewN n));rw[<-c6]at b5;have b4:=ae c6;clear c6;go_quiet ((go_at_call 61;exact Jx (b5.o _)))
    have hK:=ae (show 1+(d.getD 0 0).toNat=k by rw[a6.o];omega);have a7:=ae (e6.o.stay (below_drewN (aj _ _) nq));have e8:=ae ((Z.o.stay B5.o).stay (below_drewN (aj _ _) nq));have g0:=ae (HK.o.stay a7.o.below);generalize i:w5.drewN nq=g at a7 e8 g0|-;clear i e6 R5 H5 b5 OH B5 f Z k0;have f:=a7;cases sb with
    |false=>
     have A:eR a d=dl:=by
      rw[eR,ak (by rw[G.o];omega),hK.o,ak (by rw[G.o];omega),ak];have h:=b4.o;rw[b2.o]at h;exact aJ.1 h.symm
     have r:=ae (show cE eL.zero D=(a,t) by rw[S.o,eK A];rfl);clear A;have c8:=ej f.o.c 0 rfl;have c9:=ej f.o.c 1 rfl;have d0:=ej f.o.c 2 rfl;have d1:=ej f.o.y 0 rfl;have d2:=ej f.o.y 1 rfl;have d3:=ej f.o.y 2 rfl;have d4:=aO f.o.y;have u:=f.o.o;have N:=ae u;clear u;go_wp2_with fail
     obtain⟨y,F,C⟩:=N.o;generalize i:World.setCell _ _ _=Q at F y C|-;have hl:=aU (P:=ed) Q (w.heap.size+1) 0 76 [a.p.1,a.p.2,.slice a1 j c1] _ (bu F) Tryz.underlying76 rfl oo;exact aH (v:= .tuple #[.agg #[a.p.1,a.p.2,.slice a1 j c1],(t:Int),(0:Int)]) (fW Tryz.results37 rfl hl) rfl ⟨y,a1,j,c1,by rw[r.o],by rw[r.o];exact C⟩
    |true=>
     go_upto_region 12 with fail
     have c2:=hF f.o.c;have S1:SA g K a.p.1 a.p.2 (.slice a1 j c1):=⟨ej f.o.c 0 rfl,ej f.o.c 1 rfl,ej f.o.c 2 rfl⟩
     have ST:=ae S1;obtain⟨k0,k1,k2⟩:=id S1;clear S1;obtain⟨body,b9⟩:=aK ((d.drop 1).take (k-1));have j1:¬(L=1):=by omega
     have f8:=ae (λW (i:dd g.heap.size g W)=>Fh a (.slice a1 j c1) (.slice (db,o2+1) (k-1) (L-1)) body W (f.o.vs.aV.stay i) f.o.ok (by rw[b9];exact(e8.o.stay i).NQ 1 (k-1) (by omega) (by omega)));have g1:K≠g.heap.size:=by omega
     have d6:=ae b9;clear b9;have i1:(1:Int)<=(k:Int):=by omega
     have b8:(k:Int)<=(L:Int):=by omega
     have a0:(k:Int)<=(m:Int):=by omega
     have i2:(0:Int)<=(k:Int):=by omega
     have hb5:k<=L:=by omega
     have i3:(1:Int)<=(L:Int):=by omega
     go_region_held3 (λw'=>w'.cell? ⟨K,0,dl⟩=de (.int .i64 a.p.1)/\w'.cell? ⟨K,1,dl⟩=de (.int .i64 a.p.2)/\w'.cell? ⟨K,2,dl⟩=de (.slice a1 j c1)) (first|with_reducible exact S2|with_reducible exact S2.alloc c7 _|(refine SA.stay ST.o c2 ?_;(repeat (first|exact aj _ _|with_reducible refine eT ?_|with_reducible refine below_drewN ?_ _|with_reducible refine ei ?_));done)|with_reducible exact S2.set g1) (first
      |(go_at_call 62;(with_reducible refine(f8.o _ ?hb).m ?_);(case hb=>(repeat (first|exact aj _ _|with_reducible refine eT ?_|with_reducible refine below_drewN ?_ _|with_reducible refine ei ?_)));rintro e v2 ⟨a9,l,p,a2,B,z,tt,rfl,b0⟩;have a3:dd g.heap.size g v2:=(by(refine gh ?_ a9;(repeat (first|exact aj _ _|with_reducible refine eT ?_|with_reducible refine below_drewN ?_ _|with_reducible refine ei ?_))));have S2:=SA.stay ST.o c2 a3;have c7:=ai c2 a3.size;have R:=ae a3;first|(have T:v2.heap[g.heap.size]?=de (.cells #[.int .i64 0,.int .i64 0,.slice dl 0 0] 76 (0,0)):=(a9.block _ (by show _<(World.alloc g _).heap.size;simp)).t (aL g _);have d7:=ae (show∀w',(∀k,k≠g.heap.size->w'.heap[k]?=v2.heap[k]?)->((eD a body=dl/\tt=dT)\/(∃H,eD a body=de ⟨(l,p),H⟩/\tt=dE/\fk w' g.heap.size (.slice a2 B z) H))from λw' hw=>b0.imp_right (λ⟨H,h1,h2,h3⟩=>⟨H,h1,h2,ew h3 (by show g.heap.size<=(World.alloc g _).heap.size;simp) (λk hk _=>hw k (by have h9:(World.alloc g _).heap.size<=k:=hk;simp at h9;omega))⟩));have h6:=ej T 0 rfl;have h7:=ej T 1 rfl;have h8:=ej T 2 rfl;have i0:=aO T;have ZA:=ae T;clear T a9 a3 b0)|(have d8:=ae (show∀w',dd v2.heap.size v2 w'->((eD a body=dl/\tt=dT)\/(∃H,eD a body=de ⟨(l,p),H⟩/\tt=dE/\fk w' g.heap.size (.slice a2 B z) H))from λw' hw=>b0.imp_right (λ⟨H,h1,h2,h3⟩=>⟨H,h1,h2,ew h3 (show g.heap.size<=g.heap.size from ag _) (λk _ hk=>hw.block k hk)⟩));clear a9 a3 b0)))
     all_goals
      first
      |(have zz:=ZA.o;have hx:(((v2.setCell ⟨g.heap.size,0,dl⟩ (.int .i64 l)).setCell ⟨g.heap.size,1,dl⟩ (.int .i64 p)).setCell ⟨g.heap.size,2,dl⟩ (.slice a2 B z)).heap[g.heap.size]?=de (.cells #[.int .i64 l,.int .i64 p,.slice a2 B z] 76 (0,0)):=aB (o:=2) (aB (o:=1) (aB (o:=0) zz _) _) _;have a4:dd g.heap.size g (((v2.setCell ⟨g.heap.size,0,dl⟩ (.int .i64 l)).setCell ⟨g.heap.size,1,dl⟩ (.int .i64 p)).setCell ⟨g.heap.size,2,dl⟩ (.slice a2 B z)):=((R.o.setCell (ag _) _).setCell (ag _) _).setCell (ag _) _;have hu:=d7.o (((v2.setCell ⟨g.heap.size,0,dl⟩ (.int .i64 l)).setCell ⟨g.heap.size,1,dl⟩ (.int .i64 p)).setCell ⟨g.heap.size,2,dl⟩ (.slice a2 B z)) (λk hk=>(aA 2 _ hk).t ((aA 1 _ hk).t (aA 0 _ hk)));generalize i:World.setCell _ _ _=w7 at hx a4 hu|-;obtain⟨q,hq⟩:∃b,b=g.heap.size:=⟨_,rfl⟩;have g9:g.heap.size<=q:=gi hq.symm;rw[<-hq]at hx|-;clear zz i hq ZA h6 h7 h8 i0 S2 c7 R d7)
      |(have hx:(v2.alloc (.cells #[.int .i64 l,.int .i64 p,.slice a2 B z] 76)).heap[v2.heap.size]?=de (.cells #[.int .i64 l,.int .i64 p,.slice a2 B z] 76 (0,0)):=aL _ _;have a4:dd g.heap.size g (v2.alloc (.cells #[.int .i64 l,.int .i64 p,.slice a2 B z] 76)):=R.o.alloc R.o.size _;have hu:=d8.o (v2.alloc (.cells #[.int .i64 l,.int .i64 p,.slice a2 B z] 76)) ((aj _ _).alloc (ag _) _);have c5:g.heap.size<=v2.heap.size:=R.o.size;generalize i:World.alloc _ _=w7 at hx a4 hu|-;obtain⟨q,hq⟩:∃b,b=v2.heap.size:=⟨_,rfl⟩;rw[<-hq]at hx c5|-;have g9:=c5;clear i hq S2 c7 R d8 c5)
      clear k0 k1 k2;have e7:=ae (f.o.stay a4);have b6:=ae hx;have HU:=ae hu;clear hx a4 hu f a7;have f:=e7;clear e7;cases tt with
      |false=>
       have A:eR a d=dl:=by
        have h:=b4.o;rw[b2.o]at h;have a8:eD a body=dl:=by rcases HU.o with⟨h1,-⟩|⟨_,-,h2,-⟩;exact h1;cases h2
        rw[eR,ak (by rw[G.o];omega),hK.o,ak (by rw[G.o];omega),ar (eE.1 h.symm),a6.o,<-d6.o,a8];rfl
       have r:=ae (show cE eL.zero D=(a,t) by rw[S.o,eK A];rfl);clear A;have c8:=ej f.o.c 0 rfl;have c9:=ej f.o.c 1 rfl;have d0:=ej f.o.c 2 rfl;have d1:=ej f.o.y 0 rfl;have d2:=ej f.o.y 1 rfl;have d3:=ej f.o.y 2 rfl;have d4:=aO f.o.y;have u:=f.o.o;have N:=ae u;clear u;go_wp2_with fail
       obtain⟨y,F,C⟩:=N.o;generalize i:World.setCell _ _ _=Q at F y C|-;have hl:=aU (P:=ed) Q (w.heap.size+1) 0 76 [a.p.1,a.p.2,.slice a1 j c1] _ (bu F) Tryz.underlying76 rfl oo;exact aH (v:= .tuple #[.agg #[a.p.1,a.p.2,.slice a1 j c1],(t:Int),(0:Int)]) (fW Tryz.results37 rfl hl) rfl ⟨y,a1,j,c1,by rw[r.o],by rw[r.o];exact C⟩
      |true=>
       obtain⟨I,a8,f5⟩:∃I,eD a body=de ⟨(l,p),I⟩/\fk w7 g.heap.size (.slice a2 B z) I:=by rcases HU.o with⟨-,h2⟩|⟨I,h1,-,h3⟩;cases h2;exact⟨I,h1,h3⟩
       have a5:eR a d=de (⟨(l,p),I⟩,k+4):=by
        have h:=b4.o;rw[b2.o]at h;rw[eR,ak (by rw[G.o];omega),hK.o,ak (by rw[G.o];omega),ar (eE.1 h.symm),a6.o,<-d6.o,a8];rfl
       have g2:=ae (f.o.put (c:=⟨(l,p),I⟩) (ew f5 (by omega) (λk _ _=>rfl)) (FZ f.o.ok a5));have f7:=ae (show cE eL.zero D=((cE ⟨(l,p),I⟩ (D.drop (t+(k+4)))).1,(t+(k+4))+(cE ⟨(l,p),I⟩ (D.drop (t+(k+4)))).2) by rw[S.o,ie a5,HD.o,iT];simp only[Prod.mk.injEq,true_and];omega);clear a5 a8 f5;have k3:=ej f.o.c 0 rfl;have k4:=ej f.o.c 1 rfl;have k5:=ej f.o.c 2 rfl;have k6:=aO f.o.c;have k7:=ej b6.o 0 rfl;have k8:=ej b6.o 1 rfl;have k9:=ej b6.o 2 rfl;have j6:¬(K=q):=by omega
       have j7:¬(q=K):=by omega
       go_wp2_with fail
       go_roundw
       case rel=>exact⟨t+(k+4),by omega,by go_num,ae ⟨_,_,_,_,g2.o,f7.o⟩⟩
       case measure=>simp[intOf];omega
  ·have h5:t=n:=by omega
   subst h5;have A:eR a (D.drop t)=dl:=by rw[eR,ar (by rw[U.o];simp)]
   have r:=ae (show cE eL.zero D=(a,t) by rw[S.o,eK A];rfl);clear A;have f2:decide ((t:Int)<t)=dT:=by rw[ah];omega
   have c8:=ej f.o.c 0 rfl;have c9:=ej f.o.c 1 rfl;have d0:=ej f.o.c 2 rfl;have d1:=ej f.o.y 0 rfl;have d2:=ej f.o.y 1 rfl;have d3:=ej f.o.y 2 rfl;have d4:=aO f.o.y;have u:=f.o.o;have N:=ae u;clear u;go_wp2_with fail
   obtain⟨y,F,C⟩:=N.o;generalize i:World.setCell _ _ _=Q at F y C|-;have hl:=aU (P:=ed) Q (w.heap.size+1) 0 76 [a.p.1,a.p.2,.slice a1 j c1] _ (bu F) Tryz.underlying76 rfl oo;exact aH (v:= .tuple #[.agg #[a.p.1,a.p.2,.slice a1 j c1],(t:Int),(0:Int)]) (fW Tryz.results37 rfl hl) rfl ⟨y,a1,j,c1,by rw[r.o],by rw[r.o];exact C⟩
theorem Be(v:bd)(D:List UInt8)(s m:Int)(w:ax)(hv:Rd w v D)(h0:0<=s)(h1:s<=D.length)(h2:D.length<=100000)(hk:Kn w)(hm:m=min s ((cE eL.zero D).2:Nat)):
  bl ed 36 #[.agg #[v,s]] w (mm w (D.take (cE eL.zero D).2) m 0):=by
 obtain⟨q,c,rfl,hc,a2⟩:=id hv.slice;have hle:=nw D.length eL.zero D (ag _);have r:=ae (λw h hk=>rU (.slice q D.length c) D s w h h0 h1 h2 hk);obtain⟨R,hR⟩:=aK (cE eL.zero D);unfold yx at r;rw[<-hR]at r hle hm|-;obtain⟨k,a3⟩:=aK R.2;rw[<-a3]at r hle hm|-;obtain⟨n,L⟩:=aK D.length;rw[<-L]at hv h1 h2 hc hle r|-;have Z:=ae hv;have V:=ae L;have HK:=ae hk;have U:=ae hm;have a6:=ae (show c<=9223372036854775807 from a2);clear hv L a2 hk hm hR a3;go_enter func36,ntmps36
 go_upto_region 1 with fail
 generalize i:World.alloc _ _=w1;obtain⟨X,Y,B,a4⟩:=lI i;have O:=ae B;have c0:=ej X 0 rfl;have c1:=ej X 1 rfl;have H:=ae (Z.o.below B Z.o.lt);have S:=ae (HK.o.stay B);have HZ:=ae a4;have I:=ae X;have J:=ae Y;clear i a4 X Y B;go_upto_region 2 with(go_at_call 37;refine(r.o _ H.o S.o).m ?_;rintro e w2 ⟨f,a1,n1,a7,rfl,a8⟩;have F:=ae f;clear f a8)
 have a:dd w1.heap.size w1 (w2.alloc (.cells #[R.1.p.1,R.1.p.2,.slice a1 n1 a7] 76)):=F.o.alloc F.o.size _;generalize i:w2.alloc _=w3 at a|-;have a5:=ae (H.o.stay a);have z:=(a.block _ (hF I.o)).t I.o;have N:=(a.block _ (hF J.o)).t J.o;have C:=ae a;have b3:=ae z;have a0:=ae N;clear i a c0 c1 F I J r H S;go_upto_region 4 with fail
 have E:=hF z;have YL:=hF N;have NE:w.heap.size≠w.heap.size+1:=by omega
 have g:w3.cell? (w.heap.size,0)=de (.slice q n c)/\w3.cell? (w.heap.size,1)=s:=⟨ej z 0 rfl,ej z 1 rfl⟩
 have b6:¬(c<k):=by omega
 clear z N;have T:=ae (show(D.take k).length=k by rw[aM,<-V.o];omega);have Q:=ae (λ(W:ax) (i:dd w3.heap.size w3 W)=>uP (.slice q k c) (D.take k) W ((a5.o.pre k (by rw[<-V.o];exact hle)).stay i) (by simp;omega));have b4:(0:Int)<=(k:Int):=by omega
 have f:(k:Int)<=(c:Int):=by omega
 have a:k<=c:=by omega
 have b5:c<=9223372036854775807:=a6.o;by_cases hlt:(k:Int)<s
 ·obtain rfl:m=(k:Int):=by have:=U.o;omega
  go_region_held3 (λw'=>w'.cell? (w.heap.size,0)=de (.slice q n c)/\w'.cell? (w.heap.size,1)=s) (first|with_reducible exact g|with_reducible exact u|with_reducible exact GL NE u|exact g) (first
   |(go_at_call 59;refine(Q.o _ ?hb).m ?_;(case hb=>(repeat (first|exact aj _ _|with_reducible refine eT ?_|with_reducible refine below_drewN ?_ _|with_reducible refine ei ?_)));rintro e v2 ⟨b0,rfl,l,f⟩;obtain⟨sa,b,rfl,_,_⟩:=l.rd.fB k T.o;have a:dd w3.heap.size w3 v2:=(by(refine gh ?_ f;(repeat (first|exact aj _ _|with_reducible refine eT ?_|with_reducible refine below_drewN ?_ _|with_reducible refine ei ?_))));have u:v2.cell? (w.heap.size,0)=de (.slice q n c)/\v2.cell? (w.heap.size,1)=s:=⟨(a.cell (p:=(w.heap.size,0)) E).t g.1,(a.cell (p:=(w.heap.size,1)) E).t g.2⟩;have d:=(a.block (w.heap.size+1) YL).t a0.o;have b1:=ej d 0 rfl;have b2:=ej d 1 rfl;have fy:=aO d;have K:=ae d;clear d;have G:=ae a;have t:=ae (show Own v2 w3.heap.size (.slice sa k b) (D.take k)from l);clear f a l))
  all_goals
   go_wp2_with fail
   have A:=aB (o:=1) (aB (o:=0) K.o (.slice sa k b)) (k:Int);have a9:w.heap.size+1+1<=w3.heap.size:=by have h1:=HZ.o;have h2:=C.o.size;omega
   have x:dd w.heap.size w ((v2.setCell (w.heap.size+1,0) (.slice sa k b)).setCell (w.heap.size+1,1) (k:Int)):=((gh (gh O.o C.o) G.o).setCell (by show w.heap.size<=w.heap.size+1;omega) _).setCell (by show w.heap.size<=w.heap.size+1;omega) _;have y:=(t.o.m (base':=w.heap.size) (by omega)).lE (w':=(v2.setCell (w.heap.size+1,0) (.slice sa k b)).setCell (w.heap.size+1,1) (k:Int)) (λj hj=>by
    have h3:=(t.o.lt j hj).1;exact(aA 1 _ (by omega)).t (aA 0 _ (by omega)))
   generalize i:World.setCell _ _ _=M at A x y|-;have hl:=aU (P:=ed) M (w.heap.size+1) 0 71 [.slice sa k b,(k:Int)] _ (bu A) Tryz.underlying71 rfl mP;exact aH (v:= .tuple #[.agg #[.slice sa k b,(k:Int)],(0:Int)]) (dC Tryz.results36 rfl hl) rfl ⟨_,rfl,y,x⟩
 ·obtain rfl:s=m:=by have:=U.o;omega
  go_region_held3 (λw'=>w'.cell? (w.heap.size,0)=de (.slice q n c)/\w'.cell? (w.heap.size,1)=s) (first|with_reducible exact g|with_reducible exact u|with_reducible exact GL NE u|exact g) (first
   |(go_at_call 59;refine(Q.o _ ?hb).m ?_;(case hb=>(repeat (first|exact aj _ _|with_reducible refine eT ?_|with_reducible refine below_drewN ?_ _|with_reducible refine ei ?_)));rintro e v2 ⟨b0,rfl,l,f⟩;obtain⟨sa,b,rfl,_,_⟩:=l.rd.fB k T.o;have a:dd w3.heap.size w3 v2:=(by(refine gh ?_ f;(repeat (first|exact aj _ _|with_reducible refine eT ?_|with_reducible refine below_drewN ?_ _|with_reducible refine ei ?_))));have u:v2.cell? (w.heap.size,0)=de (.slice q n c)/\v2.cell? (w.heap.size,1)=s:=⟨(a.cell (p:=(w.heap.size,0)) E).t g.1,(a.cell (p:=(w.heap.size,1)) E).t g.2⟩;have d:=(a.block (w.heap.size+1) YL).t a0.o;have b1:=ej d 0 rfl;have b2:=ej d 1 rfl;have fy:=aO d;have K:=ae d;clear d;have G:=ae a;have t:=ae (show Own v2 w3.heap.size (.slice sa k b) (D.take k)from l);clear f a l))
  all_goals
   go_wp2_with fail
   have A:=aB (o:=1) (aB (o:=0) K.o (.slice sa k b)) s;have a9:w.heap.size+1+1<=w3.heap.size:=by have h1:=HZ.o;have h2:=C.o.size;omega
   have x:dd w.heap.size w ((v2.setCell (w.heap.size+1,0) (.slice sa k b)).setCell (w.heap.size+1,1) s):=((gh (gh O.o C.o) G.o).setCell (by show w.heap.size<=w.heap.size+1;omega) _).setCell (by show w.heap.size<=w.heap.size+1;omega) _;have y:=(t.o.m (base':=w.heap.size) (by omega)).lE (w':=(v2.setCell (w.heap.size+1,0) (.slice sa k b)).setCell (w.heap.size+1,1) s) (λj hj=>by
    have h3:=(t.o.lt j hj).1;exact(aA 1 _ (by omega)).t (aA 0 _ (by omega)))
   generalize i:World.setCell _ _ _=M at A x y|-;have hl:=aU (P:=ed) M (w.heap.size+1) 0 71 [.slice sa k b,s] _ (bu A) Tryz.underlying71 rfl mP;exact aH (v:= .tuple #[.agg #[.slice sa k b,s],(0:Int)]) (dC Tryz.results36 rfl hl) rfl ⟨_,rfl,y,x⟩
end Go.Proofs.YtcdmenphjilnnaaGreatDoor
