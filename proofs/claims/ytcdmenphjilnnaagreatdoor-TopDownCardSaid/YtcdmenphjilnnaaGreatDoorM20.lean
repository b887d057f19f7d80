/-
  Parts of the proofs of the laws of the whole (what the functions compute, and plain laws of it); no conditions.
-/
import Derived.Test.YtcdmenphjilnnaaGreatDoorM14
import Derived.Test.YtcdmenphjilnnaaGreatDoorM15
import Derived.Test.YtcdmenphjilnnaaGreatDoorM16
import Derived.Test.YtcdmenphjilnnaaGreatDoorM17
import Derived.Test.YtcdmenphjilnnaaGreatDoorM18
set_option linter.unusedVariables false
set_option linter.unusedSimpArgs false
set_option maxRecDepth 100000
set_option maxHeartbeats 1000000
open Go.Proofs.Tryz
open Go renaming World->ax,Value->bd,Calls->bl
open Go.RowKit renaming Below->dd
open Option renaming some->de,none->dl
open Bool renaming true->dE,false->dT
open Go.Proofs.Tryz renaming prog->ed
namespace Go.Con
open Go.RowKit
set_option maxHeartbeats 400000
theorem MD{P:Program}{ops:Array Oper}{Q:Exit->Act->ax->Prop}{a ac:Act}{w:ax}{i:Nat}{R:bd->ax->Prop}{o:Oper}{j:Tmp}(ho:ops[i]?=de o)(hg:o.guard=dl)(hd:o.dst=de j)(he:execOp a.eval o=execOp ac.eval o)(hs:j<ac.tmps.size)
  (h:wpOp P ops (λ_ _ _=>False) i (λa' w'=>∃v,a'=ac.put (de j) v/\R v w') ac w):wpOp P ops Q i (λa' w'=>∃v,a'=a.put (de j) v/\R v w') a w:=by
 have inj:∀v g,ac.put (de j) v=ac.put (de j) g->v=g:=λv g e=>by
  have:=dz (λx:Act=>x.tmps[j]?) e;simpa[Act.put,hs]using this
 unfold wpOp at h|-;simp only[ho,Region.wanted,hg,if_true]at h|-;rcases h with h|⟨-,h⟩
 ·refine .inl ?_;unfold Oper.wp at h|-;rw[he];generalize (execOp ac.eval o).run P w=r at h|-;cases r with
  |ok n w'=>
   cases n with
   |value v=>
    obtain⟨g,e,hr⟩:=h;rw[hd]at e;exact⟨v,by rw[hd],by rw[inj _ _ e];exact hr⟩
   |skip=>
    obtain⟨g,e,hr⟩:=h;rw[hd]at e;exact⟨undef,by rw[hd],by rw[inj _ _ e];exact hr⟩
   |defer d=>
    obtain⟨g,e,hr⟩:=h;rw[hd]at e;have:=dz (λx:Act=>x.defers.length) e;simp[Act.put]at this
   |enter f args=>
    refine kB h λe k b=>?_;cases e with
    |returned v=>
     obtain⟨g,e,hr⟩:=b;rw[hd]at e;exact⟨v,by rw[hd],by rw[inj _ _ e];exact hr⟩
    |panicked c=>exact b.elim
    |outgrown=>obtain⟨_,_,b⟩:=b;exact b.elim
   |row r args=>
    refine Rows.mono h λv k b=>?_;obtain⟨g,e,hr⟩:=b;rw[hd]at e;exact⟨v,by rw[hd],by rw[inj _ _ e];exact hr⟩
   |_=>exact h.elim
  |halt x w'=>cases x<;>exact h.elim
 ·obtain⟨_,_,b⟩:=h;exact b.elim
theorem tE{a b:Act}{x:Operand}{v:bd}(c:a=b)(h:b.eval x=v):a.eval x=v:=by rw[c];exact h
def MP(ops:Array Oper)(d:List Nat)(sp:List Nat)(L:List RK)(sz:Nat):Bool:=
 JK ops d L sz&&(sp.all λk=>decide (k<L.length))&&decide sp.Nodup&&(List.range (sp.length-1)).all λt=>gM ops (L.length+1) (sp.getD (t+1) 0) (sp.getD t 0)
def Ld(ops:Array Oper)(sp:List Nat)(n j i:Nat):Bool:=sp.contains i||(List.range sp.length).any λt=>decide (t<j)&&gM ops (n+1) (sp.getD t 0) i
theorem jC{P:Program}{ops:Array Oper}{Q:Exit->Act->ax->Prop}{a0:Act}{J:ax}(L:(Nat->bd)->List RK)(d sp:List Nat)(R:Nat->(Nat->bd)->ax->Prop)(hc:∀V,MP ops d sp (L V) a0.tmps.size=dE)
  (F:∀V y,vS sp.contains 0 (L V) (L y))(hs:∀V,sp.map (kZ (L V))=sp.map λk=>.val (V k))
  (O:∀j V w,j<=sp.length->R j V w->ju P ops d (L V) (Ld ops sp (L V).length j) dE (eS (λ_=>0) d (L V) 0 a0) w 0 (L V))
  (Z:∀t V w a,t<sp.length->R t V w->a=eS (λ_=>0) d (L V) 0 a0->wpOp P ops (λ_ _ _=>False) (sp.getD t 0) (λa' w'=>∃v,a'=a.put (de (d.getD (sp.getD t 0) 0)) v/\R (t+1) (λi=>if i=sp.getD t 0 then v else V i) w') a w)
  (U:∀V w a,R sp.length V w->a=eS (λ_=>0) d (L V) 0 a0->wpOp P ops Q (L V).length (λa' w'=>Q .normal a' w') a w)(h0:R 0 (λ_=>undef) J):
  wpAny P .any ops Q ops.size (Array.replicate ops.size dT) a0 J:=by
 obtain⟨n,W⟩:=aK ((L λ_=>undef).length);have S:=λV y=>(F V y).at;have len:∀V,(L V).length=n:=λV=>by
  have:∀{D:Nat->Bool} {A B:List RK} {i:Nat},vS D i A B->A.length=B.length:=by
   intro D A B i h;induction h with
   |nil=>rfl
   |same _ u=>simp[u]
   |AK _ _ u=>simp[u]
  rw[W];exact this (F V _)
 have hC:∀V,ops.size=n+1/\d.length=n/\pK ops=dE/\((List.range n).map λk=>d.getD k 0).Nodup/\vL (L V)=List.range n/\(∀k,k<n->MC (kZ (L V) k)=dE/\gM ops (n+1) n k=dE/\∃o,ops[k]?=de o/\o.guard=dl/\o.dst=de (d.getD k 0)/\d.getD k 0<a0.tmps.size/\ux ops d (L V) k=dE)/\(∀k∈sp,k<n)/\sp.Nodup/\∀t,t+1<sp.length->gM ops (n+1) (sp.getD (t+1) 0) (sp.getD t 0)=dE:=λV=>by
  have h:=hc V;unfold MP JK at h;simp only[aP,eE,ap,gR,bj,len V]at h;obtain⟨⟨⟨⟨⟨⟨⟨h1,h2⟩,h3⟩,h4⟩,h5⟩,h6⟩,c⟩,C⟩:=h;have f:vL (L V)=List.range n:=by rw[FB (λk hk=>(h5 k (by rw[len V]at hk;exact hk)).1.1),len V]
  refine⟨h1,h2,h3,by rw[<-f];exact h4,f,λk hk=>⟨(h5 k hk).1.1,(h5 k hk).1.2,?_⟩,h6,c,λt b=>C t (by omega)⟩;have hv:=(h5 k hk).1.1;have h9:=(h5 k hk).2;unfold uI at h9;cases e:kZ (L V) k with
  |val v=>
   rw[e]at h9;cases ho:ops[k]? with
   |none=>rw[ho]at h9;cases h9
   |some o=>
    rw[ho]at h9;simp only[aP,eE,ap]at h9;exact⟨o,rfl,kz.1 h9.1.1.1,h9.1.1.2,h9.1.2,h9.2⟩
  |_=>rw[e]at hv;cases hv
 obtain⟨h1,h2,h3,h4,-,x,h6,c,C⟩:=hC λ_=>undef;have E:∀V k,tI (λk=>vZ (kZ (L λ_=>undef) k)) (λt=>sp.getD t 0) sp.length V k=vZ (kZ (L V) k):=λV k=>by
  by_cases hk:k∈sp
  ·obtain⟨t,b,rfl⟩:=fO hk;have e:sp.getD t 0=sp[t]:=by simp[b]
   have h9:kZ (L V) sp[t]= .val (V sp[t]):=by
    have:=dz (λl=>l[t]?) (hs V);simpa[b]using this
   rw[<-e,FC (sp:=λt=>sp.getD t 0) b,e,h9];rfl
  ·rw[AP λt b e=>hk (by rw[<-e];simp[b])];show vZ (kZ _ k)=_;rw[S (λ_=>undef) V k (by rw[ca];simpa using hk)]
 have ac:∀V,eS (λ_=>0) d (L V) 0 a0=fA a0 (λk=>d.getD k 0) (tI (λk=>vZ (kZ (L λ_=>undef) k)) (λt=>sp.getD t 0) sp.length V) (List.range n):=λV=>by
  have e:=oU (λ_=>0) (L V) d 0 [] [] a0 rfl rfl (by rw[len V,h2]);rw[cK,cK,<-jW]at e;rw[e,show(List.range (L V).length).filter (λk=>(kZ (L V) k).has)=List.range n from(hC V).2.2.2.2.1];refine tU _ _ _ λk hk=>?_;rw[E V k];have:=((hC V).2.2.2.2.2.1 k (bj.1 hk)).1;unfold lA;cases e:kZ (L V) k with
  |val v=>rfl
  |_=>rw[e]at this;cases this
 have ex:∀V (a:Act) k,k<n->(∀t,(∀j∈List.range n,d.getD j 0≠t)->a.eval (.tmp t)=a0.eval (.tmp t))->(∀j,j<n->ik ops k j=dE->a.eval (.tmp (d.getD j 0))=tI (λk=>vZ (kZ (L λ_=>undef) k)) (λt=>sp.getD t 0) sp.length V j)->∀o,ops[k]?=de o->execOp a.eval o=execOp (eS (λ_=>0) d (L V) 0 a0).eval o:=λV a k hk r q o ho=>by
  obtain⟨-,-,-,M,f,G,-⟩:=hC V;obtain⟨-,-,o',g1,-,-,-,K⟩:=G k hk;refine De ho (λj hj=>?_) (by rw[f];exact M) K (by rw[len V,h2]) (by rw[f];exact r) (λj v hj hd hv=>?_)
  ·rw[f]at hj;obtain⟨-,-,o2,-,-,-,g,-⟩:=G j (bj.1 hj);exact g
  ·rw[q j (by rw[len V]at hj;exact hj) hd,E V j,hv];rfl
 have sz:∀V,(eS (λ_=>0) d (L V) 0 a0).tmps.size=a0.tmps.size:=λV=>by
  rw[ac V];have:∀(l:List Nat) (v:Nat->bd) (a:Act),(fA a (λk=>d.getD k 0) v l).tmps.size=a.tmps.size:=by
   intro l v;induction l with
   |nil=>intro a;rfl
   |cons k l u=>
    intro a;show(fA (a.put (de (d.getD k 0)) (v k)) _ v l).tmps.size=_;rw[u];simp[Act.put]
  exact this _ _ _
 refine Bf (λk=>vZ (kZ (L λ_=>undef) k)) (λk=>d.getD k 0) (λt=>sp.getD t 0) sp.length n R h1 h3 (λi hi=>?_) h4 (λk hk=>(x k hk).2.1) (λt b=>h6 _ (by simp[b])) (λs t X b e=>?_) C (λi hi Y j V a w hj a1 p r q=>?_) (λt b V a w p r q=>?_) (λV a w p T _ _=>?_) h0
 ·obtain⟨-,-,o,g1,-,m,z,-⟩:=x i hi;exact⟨by rw[g1];exact m,z⟩
 ·have e1:sp.getD s 0=sp[s]:=by simp[X]
  have e2:sp.getD t 0=sp[t]:=by simp[b]
  have e:sp.getD s 0=sp.getD t 0:=e;rw[e1,e2]at e;exact(List.getElem_inj c).1 e
 ·obtain⟨-,-,o,g1,g2,m,-⟩:=x i hi;have he:=ex V a i hi r q o g1;obtain⟨N,h5⟩:=(O j V w hj p).at i (by rw[len V];exact hi);have hv:kZ (L V) i= .val (vZ (kZ (L V) i)):=by
   have:=((hC V).2.2.2.2.2.1 i hi).1;cases e:kZ (L V) i with
   |val v=>rfl
   |_=>rw[e]at this;cases this
  rw[hv,ca]at h5;generalize H:i=i' at h5;have h9:ops.getD i default=o:=by rw[bB,g1];rfl
  have I:∀t,t<sp.length->sp.getD t 0≠i:=Y;cases h5 with
  |skip _ h=>
   exfalso;subst H;unfold Ld at h;rw[dS]at h;rcases h with h|h
   ·have h:i∈sp:=by simpa using h
    obtain⟨t,b,e⟩:=fO h;exact I t b (by simp[b,e])
   ·obtain⟨t,b,h⟩:=gg.1 h;have b:=bj.1 b;rw[aP,ap,len V]at h;have:=a1 t b h.2;omega
  |run c _=>
   subst H;rw[h9]at c;rw[<-E V i,AP I]at c;exact ui g1 g2 m (by rw[he];exact c)
  |call _ _ _ hp=>cases hp
 ·obtain⟨-,-,o,g1,g2,m,z,-⟩:=x _ (h6 (sp.getD t 0) (by simp[b]));exact MD g1 g2 m (ex V a _ (h6 _ (by simp[b])) r q o g1) (by rw[sz V];exact z) (Z t V w _ b p rfl)
 ·rw[<-len V];exact U V w a p (by rw[T,ac V])
end Go.Con
namespace Go.Proofs.YtcdmenphjilnnaaGreatDoor
open Go.RowKit Go.Con
structure sG(n:dZ):Prop where
 known:∀s c,cd n.known s=de c->0<=s/\s<40/\cS c=0
 log:n.log.length<=40
section
variable{M1 M2 M3 M4 M5:aT}{i:Nat}{z:bk}{sn:dA}
theorem qG(h2:M2=M1.aX i {M1.nd i with log:=(M1.nd i).log++[z]})(h3:M3=M2.aX i {M2.nd i with store:=sn})(h4:M4=M3.aX i {M3.nd i with queue:=(M3.nd i).queue.filter (λx=>decide (x≠z))}):(M4.nd i).wait=(M1.nd i).wait:=by
 rw[h4,h3,h2];simp only[bf]
theorem LP(h2:M2=M1.aX i {M1.nd i with log:=(M1.nd i).log++[z]})(hs:sn=(M1.nd i).store.next z)(h3:M3=M2.aX i {M2.nd i with store:=sn})(h4:M4=M3.aX i {M3.nd i with queue:=(M3.nd i).queue.filter (λx=>decide (x≠z))})(hw:z∉(M1.nd i).wait):M4=M1.fX i z:=by
 rw[h4,h3,h2,hs];unfold aT.fX;dsimp only;rw[ak hw,ni hw];simp only[bf,eU]
theorem JN{k0:Nat}{a:Int×Int}(h2:M2=M1.aX i {M1.nd i with log:=(M1.nd i).log++[z]})(hs:sn=(M1.nd i).store.next z)(h3:M3=M2.aX i {M2.nd i with store:=sn})(h4:M4=M3.aX i {M3.nd i with queue:=(M3.nd i).queue.filter (λx=>decide (x≠z))})(hk:k0=(M4.nd i).wait.idxOf z)(h5:M5=M4.aX i {M4.nd i with wait:=(M4.nd i).wait.eraseIdx k0})(hw:z∈(M1.nd i).wait)(b:a=(M1.nd i).store.answer z):
  ({M5 with told:=M5.told++[⟨(i:Int),z.bD,z.seq,a⟩]}:aT)=M1.fX i z:=by
 rw[h5,hk,qG h2 h3 h4,h4,h3,h2,hs,b];unfold aT.fX;dsimp only;rw[ar hw,Hg,ar hw];simp only[bf,eU,wg]
theorem zM{g:Nat}{b:aT}(d:cd (M1.nd i).known ((M1.nd i).log.length:Int)=de z)(c:aT.jR (g+1) M1 i=b)(hk:41<=g+1+(M1.nd i).log.length)(e:sG (M1.nd i))(hl:(M1.nd i).log.length<40)(hlen:M1.told.length+(M1.nd i).wait.length<1000000000000):
  aT.jR g (M1.fX i z) i=b/\41<=g+((M1.fX i z).nd i).log.length/\sG ((M1.fX i z).nd i)/\(M1.fX i z).told.length+((M1.fX i z).nd i).wait.length<1000000000000:=by
 have a:(M1.fX i z).nd i={M1.nd i with log:=(M1.nd i).log++[z],store:=(M1.nd i).store.next z,queue:=(M1.nd i).queue.filter (λx=>decide (x≠z)),wait:=(M1.nd i).wait.erase z}:=by
  unfold aT.fX;dsimp only;split
  ·show(M1.aX i _).nd i=_;rw[bf]
  ·rw[bf]
 refine⟨by rw[<-c,uM d],?_,?_,?_⟩
 ·rw[a];dsimp only;rw[aD,jE];omega
 ·rw[a];refine⟨e.known,?_⟩;dsimp only;rw[aD,jE];omega
 ·rw[a];dsimp only;unfold aT.fX;dsimp only;split
  ·rename_i hw;have h1:=qp hw;have h2:0<(M1.nd i).wait.length:=List.length_pos_of_mem hw;simp only[aD,jE,wg];omega
  ·rename_i hw;rw[ni hw];exact hlen
end
def NB(hH:bI)(W:ax)(b:Nat)(G:Gh)(i:Nat)(a:aT)(k:Nat)(wr:ax):Prop:=
 ∃M',aW hH W b G i M' wr/\aT.jR k M' i=a/\41<=k+(M'.nd i).log.length/\sG (M'.nd i)/\M'.told.length+(M'.nd i).wait.length<1000000000000
theorem AR{W:ax}{a i:Nat}{g:GN}{n:dZ}{k:Nat}(h:W.heap[a]?=de (.cells (aN i g n).toArray 87 (0,0)))(hs:n.store.Ok)(hk:k=40):W.there a 12 k:=λj hj=>by
 refine⟨?_,aO h _⟩;have hl:(aN i g n).length=57:=by
  unfold aN;rw[aD,tD hs];rfl
 show(W.cell? (a,12+j)).isSome=dE;rw[aR h,aC (by omega)];rfl
theorem Md{H:Option Addr->Nat->Nat->ax->bI->Prop}{F:Option Addr->Nat->Nat->ax->Prop}{G:Prop}(h:Li (∀a c b w' d,H a c b w' d->F a c b w')->G)(t:∀a c b w' d,H a c b w' d->F a c b w'):G:=h ⟨t⟩
theorem wO{hH:bI}{W:ax}{E i:Nat}{G:Gh}{M:aT}(h:dB hH W E G M)(hi:i<5)(s:Int)(c:bk)(h0:0<=s)(h4:s<40)(hc:cS c=0)(hl:sG (M.nd i))(ht:M.told.length+(M.nd i).wait.length<1000000000000):
  bl ed 103 #[ptr E,ptr (G.n i).b,s,.agg (aQ c).toArray] W λe W'=>e= .returned (.tuple #[])/\aW hH W E G i (M.mH i s c) W':=by
 obtain⟨l,S⟩:=aK ((G.n i).b);obtain⟨MF,d0⟩:=aK (M.mH i s c);rw[<-S,<-d0];have g1:=(h.nd i hi).dM;rw[<-S]at g1;obtain⟨kn,hkn⟩:=aK ((G.n i).kn);have v10:(aN i (G.n i) (M.nd i))[10]?=de (.map (de kn)):=by rw[hkn];rfl
 obtain⟨CL,s2⟩:=aK (aN i (G.n i) (M.nd i));rw[<-s2]at g1 v10;have HK:=ae (λw1 (hb:dd W.heap.size W w1)=>by
  have h1:=(h.below hb).GK hi s c;rw[<-hkn]at h1;exact h1)
 obtain⟨c1,c2,c3,c4,c5⟩:=c;have q5:Hid (∀w1 W',dd W.heap.size W w1->aW hH w1 E G i (M.aX i {M.nd i with known:=di (M.nd i).known s ⟨c1,c2,c3,c4,c5⟩}) W'->NB hH W E G i MF 41 W'):=ae (λw1 W' hb hT=>by
  refine⟨_,hT.pre (j:=i) hb,by rw[d0];rfl,by omega,?_,?_⟩
  ·rw[bf];refine⟨λk x e=>?_,hl.log⟩;have e:cd (di (M.nd i).known s ⟨c1,c2,c3,c4,c5⟩) k=de x:=e;rw[fw]at e;split at e
   ·rename_i e2;injection e with e;rw[<-e2,<-e];exact⟨h0,h4,hc⟩
   ·exact hl.known k x e
  ·rw[bf];exact ht)
 unfold eG at HK;dsimp only at HK;show bl ed 103 #[.pointer (de ⟨E,0,dl⟩),.pointer (de ⟨l,0,dl⟩),.int .i64 s,.agg #[.int .i64 c1,.int .i64 c2,.int .i64 c3,.int .i64 c4,.int .i64 c5]] W _;have v0:=ae S;have o0:=ae g1;have x1:=ae v10;clear h S d0 g1 hkn v10 s2 h0 h4 hc hl ht;go_enter func103,ntmps103
 go_upto_region 1 with fail
 generalize r:World.alloc _ _=w1;have b4:=eZ r rfl;have BW:=ae (gv r);clear r;obtain⟨xb,u6⟩:=aK W.heap.size;rw[<-u6]at b4|-;have n3:=cZ BW.o (hF o0.o) ((aR o0.o 10).t x1.o);have a0:=ej b4 0 rfl;have a1:=ej b4 1 rfl;have a2:=ej b4 2 rfl;have a3:=ej b4 3 rfl;have a4:=ej b4 4 rfl;clear b4 u6;obtain⟨w2,x9,hT,-⟩:=HK.o w1.drew BW.o.drew;have HT:=ae (q5.o _ _ BW.o.drew hT);clear hT q5 HK;go_region
 clear x9 n3 a0 a1 a2 a3 a4;go_wp2_with fail
 go_loopg [] 41 (λk wr=>Hid (NB hH W E G i MF k wr))
 case atStart=>exact HT
 case round=>
  obtain⟨M1,hT,d0,hk,t3,hlen⟩:=hrel.o;obtain⟨a5,G1,hr,j8,s7⟩:=hT;have k9:l=(G1.n i).b:=by rw[v0.o,j8]
  have hN:=hr.nd i hi;have O:=hN.dM;rw[<-k9]at O;obtain⟨la,lc,g4,-⟩:=hN.pt.log.shape;obtain⟨a9,l5⟩:=aK ((G1.n i).kn);have g3:=hN.pt.kn;rw[<-l5]at g3;obtain⟨ln,l6⟩:=aK ((M1.nd i).log.length);rw[<-l6]at g4;obtain⟨f0,e0⟩:=aK (aN i (G1.n i) (M1.nd i));have v10:f0[10]?=de (.map (de a9)):=by rw[e0,l5];rfl
  have v11:f0[11]?=de (.slice la ln lc):=by rw[e0,<-g4];rfl
  rw[<-e0]at O;obtain⟨co,k8⟩:∃co,co=cd (M1.nd i).known (ln:Int):=⟨_,rfl⟩
  have n3:wr.cell? (l,10)=de (.map (de a9)):=(aR O 10).t v10;have y6:∀o,(wr.alloc o).cell? (l,10)=de (.map (de a9)):=gV O 10 v10;have n4:wr.cell? (l,11)=de (.slice la ln lc):=(aR O 11).t v11;have n5:∀o,(wr.alloc o).cell? (l,11)=de (.slice la ln lc):=gV O 11 v11;have e3:=λ(w:ax) (hw:w.heap[a9]?=wr.heap[a9]?)=>jx (dO.other g3 hw) (ln:Int);rw[<-k8]at e3;obtain⟨z,hz⟩:=aK (co.getD bk.zero);obtain⟨d,hd⟩:=aK co.isSome;rw[<-hz,<-hd]at e3;have HZ:=ae hz;have HD:=ae hd;obtain⟨u,m,n,B,D⟩:=z;have l1:∀o,(wr.alloc o).heap[a9]?=wr.heap[a9]?:=λo=>by
   obtain⟨es,ck,hb,-⟩:=g3;exact eF wr o a9 (hF hb)
  have k1:=e3 wr.drew rfl;have k2:=λo=>e3 (wr.alloc o).drew (l1 o);unfold eG at k1 k2;dsimp only at k1 k2;have HR:=ae hr;have i9:=ae s7;have i0:=ae j8;have b8:=ae k9;have f4:=ae O;have o5:=ae e0;have o6:=ae k8;have p5:=ae l6;have i5:=ae d0;have f1:=ae hk;have i6:=ae t3;have f3:=ae hlen;have i4:=ae g4;clear e3 g3 hN O hz hd l1 l5 k9 hr j8 s7 e0 k8 l6 d0 hk t3 hlen g4 v10 v11 hrel;go_wp2_with fail
  refine' Hw (λkey=>_) _;rotate_left 1
  ·skip;go_region
   all_goals exact key.o
  obtain⟨nb,O⟩:=aK wr.heap.size;rw[<-O];generalize r:World.drew _=w3;have k7:dd wr.heap.size wr w3:=by rw[<-r];first|exact((aj wr.heap.size wr).alloc (ag _) _).drew|exact(aj wr.heap.size wr).drew.alloc (ag _) _
  have u5:w3.heap[nb]?=de (.cells #[u,m,n,B,D] 54 (0,0)):=by rw[<-r,O];exact aL wr _
  have B3:=ae k7;have X3:=ae u5;have R3:=ae (HR.o.below k7);have v3:=ae O;clear r k7 O n3 y6 n4 n5 k1 k2 u5;cases d with
  |false=>
   have s8:co=dl:=by
    cases co with
    |none=>rfl
    |some x=>have:=HD.o;cases this
   have s9:MF=M1:=by rw[<-i5.o];exact uN (by rw[<-p5.o,<-o6.o,s8])
   have T3:=ae (show aW hH W E G i MF w3 from by rw[s9];exact⟨a5,G1,R3.o,i0.o,i9.o.t (cG.below B3.o)⟩);clear s8 s9;go_wp2_with fail
   refine aH (dY rfl _ _ _) rfl ⟨rfl,?_⟩;exact T3.o
  |true=>
   have x7:co=de ⟨u,m,n,B,D⟩:=by
    cases co with
    |none=>have:=HD.o;cases this
    |some x=>rw[HZ.o];rfl
   subst x7;have l3:cd (M1.nd i).known ((M1.nd i).log.length:Int)=de ⟨u,m,n,B,D⟩:=by rw[<-p5.o];exact o6.o.symm
   obtain⟨o1,o2,o3⟩:=i6.o.known _ _ l3;have p3:=ae l3;have d8:=ae (show(M1.nd i).log.length<40 by omega);have o4:=ae o3;clear l3 o1 o2 o3;have l7:=(B3.o.block l (hF f4.o)).t f4.o;have j7:f0[11]?=de (.slice la ln lc):=by
    rw[o5.o,<-i4.o];rfl
   have n4:w3.cell? (l,11)=de (.slice la ln lc):=(aR l7 11).t j7;have n5:∀o,(w3.alloc o).cell? (l,11)=de (.slice la ln lc):=gV l7 11 j7;have a0:=ej X3.o 0 rfl;have a1:=ej X3.o 1 rfl;have a2:=ej X3.o 2 rfl;have a3:=ej X3.o 3 rfl;have a4:=ej X3.o 4 rfl;clear l7 j7;have p4:=ae (show(M1.nd i).log.length<1000000000000 by have:=d8.o;omega);have nx:∀o,cG a5 w3 a5 (w3.drew.alloc o) (λ_=>False):=λo=>cG.below ((aj w3.heap.size w3).drew.alloc (ag _) o);have NX:=ae nx;have e5:∀o,jf a5 (i,2) (w3.drew.alloc o) (.slice la ln lc) (M1.nd i).log:=λo=>by
    have h1:=(R3.o.nd i hi).pt.log;rw[i4.o]at h1;exact h1.cB (nx o) id
   have q2:=ae e5;have d9:=ae (show a5 l=(i,0) by rw[b8.o];exact(HR.o.nd i hi).tb);have p8:=ae ((B3.o.block l (hF f4.o)).t f4.o);have r8:=ae (show f0[11]?=de (.slice la ln lc) by rw[o5.o,<-i4.o];rfl);clear nx e5;go_wp2_with fail
   refine' Md (H:=λI K J w' F=>Hid (jf F (i,2) w' (.slice I K J) ((M1.nd i).log++[⟨u,m,n,B,D⟩]))/\Hid (cG a5 w3 F w' (·=(i,2)))/\Hid (∀k,w'.heap.size<=k->F k=a5 k)) (λkey=>_) _;rotate_left 1
   ·skip;go_region_law (first
    |(refine qY rfl (.tmp 40) (.tmp 42) rfl (.slice la ln lc) (M1.nd i).log w3.heap.size ⟨u,m,n,B,D⟩ rfl rfl (q2.o _) (aL w3.drew _) p4.o ?_;intro I K J w' F e5 l9 t1;have Q:=l9.at (NX.o _|>.at p8.o id) (by rw[d9.o];simp);have d1:=(aR Q 11).t r8.o;have df:=aO Q;have b2:=ae e5;have b1:=ae (((NX.o _).m (λ_ h=>h.elim)).t l9);have b0:=ae t1;clear Q e5 l9 t1))
    all_goals exact key.o I K J w' F ⟨b2,b1,b0⟩
   rintro I K J w' F ⟨b2,b1,b0⟩;generalize r:World.setCell _ _ _=w4;have u1:=R3.o.LN hi b1.o b0.o b2.o;rw[<-b8.o,r]at u1;obtain⟨n0,G2,t6,s3,f8⟩:=u1;have R2:=ae t6;have o7:=ae (show∀j,(G2.n j).b=(G1.n j).b from s3);have q8:=ae (((cG.below (T:=λt=>t.1<6) B3.o)).t f8);obtain⟨M2,j9⟩:∃M2,M2=M1.aX i {M1.nd i with log:=(M1.nd i).log++[⟨u,m,n,B,D⟩]}:=⟨_,rfl⟩
   rw[<-j9]at R2;have Y:=ae j9;have q9:=ae (show∀k,k<w3.heap.size->n0 k=a5 k from f8.marks);have X6:=ae (show(a5 nb).1=6 from HR.o.hi nb (by rw[v3.o];exact ag _));have X4:=ae (f8.at X3.o (by rw[X6.o];decide));clear r t6 s3 f8 j9 b1 b0 b2 p8 r8 NX q2 d9 p4 n4 n5 a0 a1 a2 a3 a4;have l0:l=(G2.n i).b:=by rw[b8.o,o7.o]
   have g9:(M2.nd i).store.Ok:=(R2.o.nd i hi).pt.kl;obtain⟨st,h5⟩:=aK ((M2.nd i).store);have g5:=(R2.o.nd i hi).dM;rw[<-l0]at g5;have hrg:w4.rangeAt l 12 st.cells:=by
    rw[h5];exact tS (A:=lF i (G2.n i) (M2.nd i)) g5 rfl
   rw[<-h5]at g9;have p0:=ae l0;have q4:=ae g9;have i7:=ae h5;have q0:=ae hrg;have i3:=ae (hF g5);have d7:=ae (λw=>IM st g9 ⟨u,m,n,B,D⟩ o4.o w);clear l0 g9 h5 hrg g5;obtain⟨sn,a7⟩:=aK (st.next ⟨u,m,n,B,D⟩);obtain⟨an,hand⟩:=aK (st.answer ⟨u,m,n,B,D⟩);rw[<-a7,<-hand]at d7;obtain⟨L,N⟩:=an;have q3:=ae a7;have u9:=ae hand;have c7:=ae (show sn.Ok by rw[a7];exact dA.CU st q4.o _ o4.o);clear a7 hand;unfold eG at d7;dsimp only at d7;go_upto_region 5 with fail
   refine bh (by kernel_rfl) (λw5 hb5=>?_);have X5:=ae ((hb5.block nb (hF X4.o)).t X4.o);have q1:=ae (kD q0.o hb5 i3.o);have B5:=ae hb5;clear hb5;refine iH [RK.val (l,0),.val (l,0),.val (l,12),.val (.agg st.cells.toArray),.val (.agg #[u,m,n,B,D]),.val (.tuple #[.agg sn.cells.toArray,.agg #[L,N],(0:Int)]),.val (.tuple #[.agg sn.cells.toArray,.agg #[L,N],(0:Int)]),.val (.agg sn.cells.toArray),.val (.agg #[L,N]),.val (0:Int),.new 85 dA.zero.cells.toArray,.new 81 #[(0:Int),(0:Int)],.put 10 85 7 sn.cells.toArray,.put 11 81 8 #[L,N],.val (0:Int)] [47,48,49,50,51,52,46,53,54,55,10,11,0,0,12] (by kernel_rfl) (λw hb=>?_) (λw6 bs b3=>?_)
   ·have R:=(hb.block nb (hF X5.o)).t X5.o;have v4:=kD q1.o hb (ai i3.o B5.o.size);iterate 3 refine .run (by kernel_rfl) ?_
    refine NT 40 v4 (by kernel_rfl) (jd q4.o) ?_;refine mf ⟨ej R 0 rfl,ej R 1 rfl,ej R 2 rfl,ej R 3 rfl,ej R 4 rfl,⟨⟩⟩ (by kernel_rfl) ?_;refine .call (by kernel_rfl) (d7.o w) ?_;iterate 4 refine .run (by kernel_rfl) ?_
    refine .new (λ_ _=>rfl) ?_;refine .new (λ_ _=>rfl) ?_;refine .put _ rfl (by rw[iW c7.o];rfl) rfl (λa w b C h1 h2 h3 h4=>mN rfl rfl 85 (.tmp 10) (.tmp 53) rfl b 0 sn.cells.toArray h1 h2 (dr h3 h4) (by rw[iW c7.o];exact oz) (oA _) ⟨rfl,rfl⟩) ?_;refine tW rfl rfl rfl (by kernel_rfl) ?_;refine .run (by kernel_rfl) ?_;exact .nil
   have i10:=b3.new 10 _ _ (show 10<15 by decide) rfl rfl;have i11:=b3.new 11 _ _ (show 11<15 by decide) rfl rfl;have n1:=(b3.put 12 _ _ _ _ (show 12<15 by decide) rfl rfl).2;have n2:=(b3.put 13 _ _ _ _ (show 13<15 by decide) rfl rfl).2;have B6:=ae (B5.o.t (b3.below.m B5.o.size));have n9:=ae (show w4.heap.size<=bs 10 from aE B5.o.size i10.1);have h9:=ae (show w4.heap.size<=bs 11 from aE B5.o.size i11.1);obtain⟨sb,g8⟩:=aK (bs 10);obtain⟨ab,f9⟩:=aK (bs 11);rw[<-g8]at n1 n9;rw[<-f9]at n2 h9;simp only[eS,Act.put,aq,aF,aG];rw[<-g8,<-f9];have r3:=ae n1;have j4:=ae n2;have j0:=ae (show sb≠ab by rw[g8,f9];exact b3.ne 10 11 _ _ _ _ (show 10<15 by decide) (show 11<15 by decide) rfl rfl rfl rfl (by decide));clear i10 i11 n1 n2 g8 f9 b3;have R6:=ae (R2.o.below B6.o);have j6:=ae ((B6.o.block nb (hF X4.o)).t X4.o);have j1:=ae (show(n0 ab).1=6 from R2.o.hi ab h9.o);have j2:=ae (show(n0 nb).1=6 by rw[q9.o nb (hF X3.o)];exact X6.o);have l8:=(R6.o.nd i hi).dM;rw[<-p0.o]at l8;have r7:=ae (show w6.there l 12 sn.cells.toArray.size from AR l8 (R6.o.nd i hi).pt.kl (by rw[iW c7.o]));have r5:=ae (bu (cs:=sn.cells) r3.o);have r1:=ae (show(prog.info? 85).map (λx=>x.size)=de sn.cells.length by rw[jd c7.o];exact oz);have r6:=ae (show(prog.info? 85).map (λx=>x.size)=de sn.cells.toArray.size by rw[iW c7.o];exact oz);clear l8;go_upto_region 7 with(first
    |(refine cM rfl 85 (.tmp 10) rfl sb 0 rfl sn.cells _ ?_ Tryz.underlying85 rfl r1.o ?_;(with_reducible exact r5.o))
    |(refine bz rfl 85 (.tmp 59) (.tmp 57) rfl l 12 sn.cells.toArray rfl rfl ?_ r6.o (oA _) ?_;(exact r7.o);generalize r:World.setCells _ _ _ _=w7))
   have u2:=R6.o.Lv hi c7.o;rw[<-p0.o,show w6.setCells l 12 sn.cells=w7 from r]at u2;obtain⟨h7,G3,m3,s4,d2⟩:=u2;obtain⟨M3,k3⟩:∃M3,M3=M2.aX i {M2.nd i with store:=sn}:=⟨_,rfl⟩
   rw[<-k3]at m3;have R7:=ae m3;have b9:=ae k3;have o8:=ae (show∀j,(G3.n j).b=(G1.n j).b from λj=>(s4 j).t (o7.o j));have N7:=ae ((q8.o.t (cG.below B6.o)).t d2);have X7:=ae (d2.at j6.o (by rw[j2.o];decide));have A7:=ae (d2.at j4.o (by rw[j1.o];decide));have f6:=ae (show(h7 nb).1=6 by rw[d2.marks nb (hF j6.o)];exact j2.o);have j3:=ae (show(h7 ab).1=6 by rw[d2.marks ab (hF j4.o)];exact j1.o);clear m3 s4 d2 k3 r R6 j6 j1 j2 r7 r5 r1 r6 r3 j4 q8 q9 B6 n9 h9 j0 X5 q1 B5 X4 X6 q0 i3 d7;obtain⟨qa,qc,hq,-⟩:=(R7.o.nd i hi).pt.ja.shape;obtain⟨ql,t4⟩:=aK ((M3.nd i).queue.length);rw[<-t4]at hq;have g6:=(R7.o.nd i hi).dM;have g2:l=(G3.n i).b:=by rw[b8.o,o8.o]
   rw[<-g2]at g6;have y7:w7.cell? (l,52)=de (.slice qa ql qc):=(aR g6 52).t ((dj (R7.o.nd i hi).pt.kl 0).t (by show de (G3.n i).ja=_;rw[hq]));have a6:=Hp (hH:=h7) (tg:=(i,3)) (nb:=nb) (R7.o.nd i hi).pt.ja (y:=⟨u,m,n,B,D⟩) X7.o (by intro e;have:=f6.o;rw[e]at this;simp at this;omega);rw[hq]at a6;unfold ptr at a6;have d6:=ae a6;have p9:=ae g6;have p1:=ae g2;have q6:=ae (show h7 l=(i,0) by rw[g2];exact(R7.o.nd i hi).tb);have r9:=ae (show∃v,(aN i (G3.n i) (M3.nd i))[52]?=de v from⟨_,dj (R7.o.nd i hi).pt.kl 0⟩);clear g6 g2 a6 hq t4;go_upto_region 9 with(go_at_call 127;refine d6.o.m ?_;rintro e w8 ⟨a8,n8,c8,rfl,t7,m9⟩;have Q:=m9.at p9.o (by rw[q6.o];simp);obtain⟨ov,e4⟩:=r9.o;have d1:=(aR Q 52).t e4;have df:=aO Q;have R8:=ae t7;have r0:=ae m9;clear t7 m9 Q e4)
   generalize r:World.setCell _ _ _=P;have u3:=R7.o.LB hi r0.o (λ_ _=>rfl) R8.o;rw[<-p1.o,r]at u3;obtain⟨e8,G4,m4,s5,d3⟩:=u3;obtain⟨M4,k4⟩:∃M4,M4=M3.aX i {M3.nd i with queue:=(M3.nd i).queue.filter (λx=>decide (x≠⟨u,m,n,B,D⟩))}:=⟨_,rfl⟩
   rw[<-k4]at m4;have R9:=ae m4;have c0:=ae k4;have i1:=ae (show∀j,(G4.n j).b=(G1.n j).b from λj=>(s5 j).t (o8.o j));have N9:=ae (N7.o.t d3);have R:=ae (d3.at X7.o (by rw[f6.o];decide));have A9:=ae (d3.at A7.o (by rw[j3.o];decide));have w0:=ae (show(e8 nb).1=6 by rw[d3.marks nb (hF X7.o)];exact f6.o);have v9:=ae (show(e8 ab).1=6 by rw[d3.marks ab (hF A7.o)];exact j3.o);clear m4 s5 d3 k4 r d6 p9 p1 q6 r9 y7 d1 df R8 r0 X7 A7 f6 j3 N7;obtain⟨wa,wc,e7,m7,y3⟩:=(R9.o.nd i hi).pt.mO.shape;obtain⟨wl,m6⟩:=aK ((M4.nd i).wait.length);rw[<-m6]at e7 m7;have g7:=(R9.o.nd i hi).dM;have l2:l=(G4.n i).b:=by rw[b8.o,i1.o]
   rw[<-l2]at g7;have n6:P.cell? (l,53)=de (.slice wa wl wc):=(aR g7 53).t ((dj (R9.o.nd i hi).pt.kl 1).t (by show de (G4.n i).mO=_;rw[e7]));have Z:=uD _ _ ⟨u,m,n,B,D⟩ nb P (R9.o.nd i hi).pt.mO.rd R.o;rw[e7]at Z;unfold ptr at Z;have f5:=ae g7;have p2:=ae l2;have v8:=ae e7;have v7:=ae m6;have z1:=ae m7;clear g7 l2 e7 m6 m7 y3;by_cases hw:(⟨u,m,n,B,D⟩:bk)∈(M4.nd i).wait
   ·have hp:lY (M4.nd i).wait ⟨u,m,n,B,D⟩=(((M4.nd i).wait.idxOf ⟨u,m,n,B,D⟩:Nat):Int):=by unfold lY;rw[if_pos hw]
    rw[hp]at Z;have hlt:=eB hw;obtain⟨k0,l4⟩:=aK ((M4.nd i).wait.idxOf ⟨u,m,n,B,D⟩);rw[<-l4]at Z hlt;have v1:=ae l4;have i2:=ae hlt;have HW:=ae hw;have f2:=ae Z;have z5:(0:Int)<=(k0:Int):=by omega
    clear hp l4 hlt hw Z;go_upto_region 11 with(go_at_call 128;refine f2.o.m ?_;rintro e u8 ⟨rfl,hb⟩;have X:=ae hb;clear hb)
    have j5:=ae (R9.o.below X.o);have s1:=ae ((X.o.block nb (hF R.o)).t R.o);have n7:=ae ((X.o.block ab (hF A9.o)).t A9.o);have r2:=ae (N9.o.t (cG.below X.o));have t2:=(X.o.block l (hF f5.o)).t f5.o;have s0:=ae (show∃v,(aN i (G4.n i) (M4.nd i))[53]?=de v from⟨_,dj (R9.o.nd i hi).pt.kl 1⟩);have d9:=ae (show e8 l=(i,0) by rw[p2.o];exact(R9.o.nd i hi).tb);replace n6:u8.cell? (l,53)=de (.slice wa wl wc):=(X.o.cell (p:=(l,53)) (hF f5.o)).t n6;have a6:=Ad (hH:=e8) (tg:=(i,4)) (j5.o.nd i hi).pt.mO k0 i2.o;rw[v8.o]at a6;have d6:=ae a6;have p7:=ae t2;have z7:(k0:Int)<(wl:Int):=by have:=i2.o;have:=v7.o;omega
    have z6:(k0:Int)+1<=9223372036854775807:=by
     have h1:=i2.o;have h2:=f3.o;rw[qG Y.o b9.o c0.o]at h1;omega
    clear t2 a6;go_upto_region 12 with(go_at_call 129;refine d6.o.m ?_;rintro e z9 ⟨z2,z8,z3,rfl,t5,m8,y2⟩;have Q:=m8.at p7.o (by rw[d9.o];simp);obtain⟨ov,e4⟩:=s0.o;have d1:=(aR Q 53).t e4;have df:=aO Q;have r4:=ae t5;have q7:=ae m8;clear t5 m8 y2 Q e4)
    generalize r:World.setCell _ _ _=b5;have t9:=j5.o.FA hi q7.o (λ_ _=>rfl) r4.o;rw[<-p2.o,r]at t9;obtain⟨e9,G5,m1,s6,f7⟩:=t9;obtain⟨M5,k5⟩:∃M5,M5=M4.aX i {M4.nd i with wait:=(M4.nd i).wait.eraseIdx k0}:=⟨_,rfl⟩
    rw[<-k5]at m1;have c6:=ae m1;have p6:=ae k5;have o9:=ae (show∀j,(G5.n j).b=(G1.n j).b from λj=>(s6 j).t (i1.o j));have j0:=ae (r2.o.t f7);have c9:=ae (f7.at s1.o (by rw[w0.o];decide));have b6:=ae (f7.at n7.o (by rw[v9.o];decide));clear m1 s6 f7 k5 r d6 p7 d1 df r4 q7 s1 n7 R A9 n6 f5 d9 s0 r2 f2 j5;obtain⟨ta,tc,d5,-⟩:=c6.o.told.shape;obtain⟨tl,m5⟩:=aK M5.told.length;rw[<-m5]at d5;have h6:=c6.o.dM;have S:=(c6.o.nd i hi).dM;have t0:l=(G5.n i).b:=by rw[b8.o,o9.o]
    rw[<-t0]at S;have u7:b5.cell? (E,14)=de (.slice ta tl tc):=(aR h6 14).t (show de G5.told=_ by rw[d5]);have y8:∀o,(b5.alloc o).cell? (E,14)=de (.slice ta tl tc):=gV h6 14 (show de G5.told=_ by rw[d5]);have g0:b5.cell? (l,0)=i:=(aR S 0).t rfl;have x3:∀o,(b5.alloc o).cell? (l,0)=i:=gV S 0 rfl;have e1:=ej c9.o 1 rfl;have e2:=ej c9.o 2 rfl;have y0:=ej b6.o 0 rfl;have y1:=ej b6.o 1 rfl;have v5:=ae (λP (hb:dd b5.heap.size b5 P)=>show ev e9 (5,3) 137 5 P (.slice ta tl tc) M5.told.length (M5.told.flatMap ee) by
     have h1:=c6.o.told;rw[d5]at h1;exact h1.cB (cG.below (T:=λ_=>False) hb) id)
    have i8:=ae h6;have v6:=ae (show M5.told.length<1000000000000 by
     have h1:=f3.o;rw[show M5.told=M1.told by rw[p6.o,c0.o,b9.o,Y.o];rfl];omega)
    have z0:=ae d5;have y9:=ae m5;have v2:=ae (hF S);have x0:=ae u7;have G0:=ae g0;clear h6 S d5 m5 t0 u7 y8 g0 x3 e1 e2 y0 y1;go_upto_region 12 with fail
    refine' Dg (H:=λI K J w' F=>Hid (ev F (5,3) 137 5 w' (.slice I K J) (M5.told++[(⟨(i:Int),m,n,(L,N)⟩:vj)]).length ((M5.told++[(⟨(i:Int),m,n,(L,N)⟩:vj)]).flatMap ee))/\Hid (cG e9 b5 F w' (·=(5,3)))/\Hid (∀k,w'.heap.size<=k->F k=e9 k)) (λkey=>_) _;rotate_left 1
    ·refine bh (by kernel_rfl) (λw5 hb5=>?_);have b7:=ae hb5;clear hb5;refine jC (λV=>[RK.val (E,0),.val (E,0),.val (E,0),.val (E,2),.val (E,14),.val (.slice ta tl tc),.val (l,0),.val (l,0),.val (l,0),.val i,.val (nb,1),.val m,.val (nb,2),.val n,.val (.agg #[L,N]),.val (.agg #[i,m,n,L,N]),.val (V 16),.val (V 17),.val (E,0),.val (E,2),.val (E,14)]) [89,90,91,92,93,94,95,96,97,98,99,100,101,102,103,104,105,106,107,108,109] [16,17] (λj V w=>(j<=1->dd w5.heap.size w5 w)/\(1<=j->∃U,V 16= .slice (U,0) 1 1/\(j=1->w.heap[U]?=de (.cells (ee (⟨(i:Int),m,n,(L,N)⟩:vj)).toArray 137 (0,0))/\w5.heap.size<=U))/\(j=2->∃I K J F,V 17= .slice I K J/\ev F (5,3) 137 5 w (.slice I K J) (M5.told++[(⟨(i:Int),m,n,(L,N)⟩:vj)]).length ((M5.told++[(⟨(i:Int),m,n,(L,N)⟩:vj)]).flatMap ee)/\cG e9 w5 F w (·=(5,3))/\(∀k,w.heap.size<=k->F k=e9 k))) (λ_=>by kernel_rfl) (λ_ _=>by repeat first|exact .nil|refine .same ?_|refine .AK (by kernel_rfl) ?_) (λ_=>rfl) (λj V P hj hR=>?_) ?_ ?_ ?_
     ·have d4:=λh=>b7.o.t ((hR.1 h).m b7.o.size);obtain rfl|rfl|rfl:j=0\/j=1\/j=2:=by have:j<=2:=hj;omega
      all_goals
       refine .run (by kernel_rfl) ?_;iterate 4 refine .run (by kernel_rfl) ?_
       first|refine jh (cZ (d4 (by omega)) (hF i8.o) x0.o) (by kernel_rfl) ?_|refine .skip ?_ (by kernel_rfl)
       iterate 3 refine .run (by kernel_rfl) ?_
       first|refine jh (cZ (d4 (by omega)) v2.o G0.o) (by kernel_rfl) ?_|refine .skip ?_ (by kernel_rfl)
       refine .run (by kernel_rfl) ?_;first|refine jh (cZ (d4 (by omega)) (hF c9.o) (ej c9.o 1 rfl)) (by kernel_rfl) ?_|refine .skip ?_ (by kernel_rfl)
       refine .run (by kernel_rfl) ?_;first|refine jh (cZ (d4 (by omega)) (hF c9.o) (ej c9.o 2 rfl)) (by kernel_rfl) ?_|refine .skip ?_ (by kernel_rfl)
       first|refine mf ⟨cZ (d4 (by omega)) (hF b6.o) (ej b6.o 0 rfl),cZ (d4 (by omega)) (hF b6.o) (ej b6.o 1 rfl),⟨⟩⟩ (by kernel_rfl) ?_|refine .skip ?_ (by kernel_rfl)
       refine .run (by kernel_rfl) ?_;refine .skip ?_;refine .skip ?_;iterate 3 refine .run (by kernel_rfl) ?_
       exact .nil
     ·intro t V P a ht hR ha;obtain rfl|rfl:t=0\/t=1:=by have:t<2:=ht;omega
      ·have hb:=hR.1 (by omega);have u0:a.eval (.tmp 104)= .agg #[i,m,n,L,N]:=tE ha (by kernel_rfl);rw[gm]at u0;refine jK rfl rfl (.slice (P.heap.size,0) 1 1) (w':=P.alloc (.cells (ee (⟨(i:Int),m,n,(L,N)⟩:vj)).toArray 137 (0,0))) ?_ ⟨_,rfl,λ_=>hb.alloc hb.size _,λ_=>⟨_,ar rfl,λ_=>⟨aL _ _,hb.size⟩⟩,λh=>by cases h⟩;simp[execOp,go_sem,u0]
       <;>rfl
      ·have hb:=hR.1 (by omega);obtain⟨U,hv,hl⟩:=hR.2.1 (by omega);obtain⟨x6,z4⟩:=hl rfl;have u0:a.eval (.tmp 94)= .slice ta tl tc:=tE ha (by kernel_rfl);have x8:a.eval (.tmp 105)= .slice (U,0) 1 1:=(tE ha (by kernel_rfl)).t hv;refine wpOp_step rfl (λK9 x4=>rQ rfl (.tmp 94) (.tmp 105) rfl (.slice ta tl tc) M5.told U (⟨(i:Int),m,n,(L,N)⟩:vj) u0 x8 (v5.o P (b7.o.t (hb.m b7.o.size))) x6 v6.o (λI K J w8 y4 hr hn hh=>x4 _ _ ⟨_,rfl,λh=>absurd h (by omega),λ_=>⟨U,(ak (by decide)).t hv,λh=>by cases h⟩,λ_=>⟨I,K,J,y4,ar rfl,hr,(cG.below (T:=(·=(5,3))) hb).t hn,hh⟩⟩))
     ·intro V P a hR ha;obtain⟨U,hv,-⟩:=hR.2.1 (by decide);obtain⟨I,K,J,y5,t8,hr,hn,hh⟩:=hR.2.2 rfl;have u4:=hn.at ((b7.o.block E (hF i8.o)).t i8.o) (by rw[c6.o.tw];decide);have d1:=(aR u4 14).t (show _=de (G5.told)from rfl);have df:=aO u4;have e1:a.eval (.tmp 109)= (E,14):=tE ha (by kernel_rfl);have e2:a.eval (.tmp 106)= .slice I K J:=(tE ha (by kernel_rfl)).t t8;refine fh (λa8 w8 h8=>?_) (kq rfl rfl rfl 32 (.tmp 109) (.tmp 106) rfl e1 e2 (iG I K J d1 (df 14) (by kernel_rfl)));obtain⟨rfl,rfl⟩:=h8;subst ha;simp only[eS,Act.put,aq,aF,aG];rw[hv,t8];exact key.o U I K J P y5 ⟨ae hr,ae ((cG.below b7.o).t hn),ae hh⟩
     ·exact⟨λ_=>aj _ _,λh=>absurd h (by decide),λh=>by cases h⟩
    rintro U I K J w' F ⟨b2,b1,b0⟩;generalize r:World.setCell _ _ _=A0;obtain⟨m2,k6⟩:=c6.o.CH b2.o b1.o b0.o;rw[r]at m2 k6;have w9:=ae m2;have x2:=ae k6;clear m2 k6 r b2 b1 b0;obtain⟨g',rfl⟩:∃g',gk=g'+1:=⟨gk-1,by have:=f1.o;have:=d8.o;omega⟩
    go_wp2_with fail
    go_roundg g'
    case measure=>omega
    case rel=>
     have e6:=HW.o;rw[qG Y.o b9.o c0.o]at e6;have x5:(L,N)=(M1.nd i).store.answer ⟨u,m,n,B,D⟩:=by
      rw[u9.o,i7.o,Y.o,bf]
     have a7:sn=(M1.nd i).store.next ⟨u,m,n,B,D⟩:=by
      rw[q3.o,i7.o,Y.o,bf]
     have m0:=JN Y.o a7 b9.o c0.o v1.o p6.o e6 x5;refine ae ⟨_,⟨F,_,w9.o,λj=>(o9.o j).t (i0.o j),(i9.o.t j0.o).t (x2.o.m (λt ht=>by rcases ht with rfl|rfl<;>decide))⟩,?_⟩;rw[m0];exact zM p3.o i5.o f1.o i6.o d8.o f3.o
   ·have hp:lY (M4.nd i).wait ⟨u,m,n,B,D⟩=-1:=by unfold lY;rw[if_neg hw]
    rw[hp]at Z;have f2:=ae Z;have HW:=ae hw;clear hp Z hw;go_wp2_with (go_at_call 128;refine f2.o.m ?_;rintro e u8 ⟨rfl,hb⟩;have X:=ae hb;clear hb)
    obtain⟨g',rfl⟩:∃g',gk=g'+1:=⟨gk-1,by have:=f1.o;have:=d8.o;omega⟩
    go_roundg g'
    case measure=>omega
    case rel=>
     have e6:=HW.o;rw[qG Y.o b9.o c0.o]at e6;have a7:sn=(M1.nd i).store.next ⟨u,m,n,B,D⟩:=by
      rw[q3.o,i7.o,Y.o,bf]
     have m0:=LP Y.o a7 b9.o c0.o e6;refine ae ⟨M4,⟨e8,G4,R9.o.below X.o,λj=>(i1.o j).t (i0.o j),(i9.o.t N9.o).t (cG.below X.o)⟩,?_⟩;rw[m0];exact zM p3.o i5.o f1.o i6.o d8.o f3.o
theorem Bx{hH:bI}{W:ax}{b i:Nat}{G:Gh}{M:aT}(h:dB hH W b G M)(hi:i<5)(l:dK)(p:Option Addr)(ln q:Nat)(h0:0<=l.cP.slot)(h4:l.cP.slot<40)(hc:cS l.cP.cW=0)(hl:sG (M.nd i))(a:M.told.length+(M.nd i).wait.length<1000000000000):
  bl ed 80 #[ptr b,ptr (G.n i).b,.agg (bP l (.slice p ln q)).toArray] W λe t=>e= .returned (.tuple #[])/\aW hH W b G i (M.mH i l.cP.slot l.cP.cW) t:=by
 obtain⟨k,v,u,⟨b1,b2⟩,⟨s,⟨y,z⟩,⟨c1,f,g,m,c5⟩⟩,A⟩:=l;have c:=ae (λx (hb:dd W.heap.size W x)=>wO (h.below hb) hi s ⟨c1,f,g,m,c5⟩ h0 h4 hc hl a);unfold ptr aQ at c;obtain⟨w,n⟩:=aK ((G.n i).b);rw[<-n]at c|-;show bl ed 80 #[.pointer (de ⟨b,0,dl⟩),.pointer (de ⟨w,0,dl⟩),.agg #[.int .i64 k,.int .i64 v,.int .i64 u,.int .i64 b1,.int .i64 b2,.int .i64 s,.int .i64 y,.int .i64 z,.int .i64 c1,.int .i64 f,.int .i64 g,.int .i64 m,.int .i64 c5,.slice p ln q]] W _;have d:=ae (λo=>(aj W.heap.size W).alloc (ag _) o);clear h n h0 h4 hc hl a;go_enter func80,ntmps80
 go_wp2_with (go_at_call 103;refine(c.o _ (d.o _)).m ?_;rintro e B ⟨rfl,a⟩;have r:=ae (a.pre (j:=i) (d.o _));clear a)
 refine gw (dY rfl _ _ _) rfl ⟨rfl,r.o⟩
structure IL(r:eW):Prop where
 keys:(r.prom.map (·.1)).Nodup
 tJ:(r.aV.map (·.1)).Nodup
 aV:∀p∈r.aV,0<=p.1/\p.2.Nodup/\p.2.length<=5
theorem Iq(b1 b2 r1 a:Int):(b1=r1/\b2=a)\/(b1≠r1)\/(b1=r1/\b2≠a):=by omega
theorem IS(w:ax):(zeroValue 185).run ed w= .ok (.map dl) w:=Tryz.zeroValue185 w
theorem EF(w:ax):(binOp BinOp.eql 185 (.map dl) (.map dl)).run ed w= .ok (.bool dE) w:=by kernel_rfl
theorem EE(b:Nat)(w:ax):(binOp BinOp.eql 185 (.map (de b)) (.map dl)).run ed w= .ok (.bool dT) w:=by kernel_rfl
theorem pQ{W:ax}{b:Nat}{m:List (Int×bd)}(h:dO W b m)(t ty:TypeId){g c:TypeId}(f:prog.underlying t=de (.map g c)):
  (Builtin.len_ #[t] ty #[.map (de b)]).run ed W= .ok m.length W:=by
 obtain⟨es,a,d,e⟩:=dO.len h;have hg:(getObj b).run ed W= .ok (.map es a) W:=by simp[getObj,Sem.run,d]
 have hu:=dt (w:=W) f;rw[<-e];unfold Builtin.len_;simp[go_sem,hu,hg]
theorem nV{W:ax}{b:Nat}{m:List (Int×List Int)}{f:Int->Nat}(h:dO W b (m.map λp=>(p.1,Value.map (de (f p.1)))))(k:Int):
  (Instr.lookup 141 (.map (de b)) k dT).run ed W= .ok (.map ((cd m k).map λ_=>f k)) W:=by
 rw[re h Tryz.underlying141 Tryz.underlying3 _ (IS W) k];have e:cd (m.map λp=>(p.1,Value.map (de (f p.1)))) k=(cd m k).map λ_=>Value.map (de (f k)):=by
  clear h;induction m with
  |nil=>rfl
  |cons p m a=>
   unfold cd;simp only[dm];by_cases hk:p.1=k
   ·rw[ar hk,ar hk,hk];rfl
   ·rw[ak hk,ak hk];exact a
 rw[e];cases cd m k<;>rfl
theorem Bv{W:ax}{a:GR}{r:eW}(h:dO W a.prom (r.prom.map λp=>(p.1,a.pv p.1)))(m:Nat):
  (Instr.lookup 140 (.map (de a.prom)) (m:Int) dE).run ed W= .ok (.tuple #[pF a r m,.bool (cd r.prom (m:Int)).isSome]) W:=by
 rw[pP h Tryz.underlying140 Tryz.underlying3 _ (Fx W) (m:Int),uF];unfold pF;cases cd r.prom (m:Int)<;>rfl
def iO(M:aT)(i:Nat)(ks:List Int)(l:dK)(m:Nat):aT:=(List.range m).foldl (λM (m:Nat)=>if(m:Int)∈ks then M else M.send i (m:Int) l) M
theorem jD(M:aT)(i:Nat)(ks:List Int)(l:dK)(m:Nat):iO M i ks l (m+1)=if(m:Int)∈ks then iO M i ks l m else(iO M i ks l m).send i (m:Int) l:=by
 unfold iO;rw[ly,iw];rfl
theorem pX(M:aT)(i:Nat)(ks:List Int)(l:dK)(m:Nat):(iO M i ks l m).cz.length<=M.cz.length+m:=by
 induction m with
 |zero=>exact ag _
 |succ m a=>
  rw[jD];split
  ·omega
  ·unfold aT.send;simp only[aD,jE];omega
theorem oZ(M:aT)(i:Nat)(ks:List Int)(l:dK)(m:Nat):(iO M i ks l m).nd=M.nd:=by
 induction m with
 |zero=>rfl
 |succ m a=>
  rw[jD];split
  ·exact a
  ·exact a
theorem ED{α:Type}(m:List (Int×α))(k:Int):(cd m k).isSome=dE<->k∈m.map (·.1):=by
 induction m with
 |nil=>simp[cd]
 |cons p m a=>
  unfold cd;split
  ·rename_i e;simp[e]
  ·rename_i e;rw[a,dm,dF];exact⟨.inr,λh=>h.resolve_left (λe2=>e e2.symm)⟩
structure Kx(hH:bI)(W:ax)(wb i:Nat)(G:Gh)(M:aT)(ks:List Int)(l:dK)(m:Nat)(wr:ax):Prop where
 sJ:∃hO fly',dB hO wr wb {G with cz:=fly'} (iO M i ks l m)/\cG hH W hO wr (λt=>t=(5,0)\/t=(5,2))
theorem DU{hH:bI}{W:ax}{f i:Nat}{G:Gh}{M:aT}{j:GR}{r:eW}(h:dB hH W f G M)(hi:i<5)(hg:(G.n i).rg=de j)(hr:(M.nd i).rg=de r)(a0:later r.bG (M.nd i).p=dT)(b5:lG r.prom.length=dT)(hlen:r.prom.length<1000000)(hf:M.cz.length+5<1000000000000):
  bl ed 83 #[ptr f,ptr (G.n i).b,ptr j.b] W λe W'=>e= .returned (.tuple #[])/\aW hH W f G i (M.each i (r.prom.map (·.1)) {dK.zero with kind:=0,bG:=r.bG}) W':=by
 obtain⟨n,K⟩:=aK ((G.n i).b);obtain⟨b,l⟩:=aK j.b;have H:=(h.nd i hi).dM;obtain⟨d2,J,X⟩:=h.wo hi hr;rw[hg]at J;injection J with J;subst J;have I:=X.dM;rw[<-K]at H;rw[<-l]at I;rw[<-K,<-l];obtain⟨s,u,L⟩:∃s u,(M.nd i).p=(s,u):=⟨_,_,rfl⟩
 obtain⟨r1,c,w⟩:∃r1 c,r.bG=(r1,c):=⟨_,_,rfl⟩
 rw[L,w]at a0;obtain⟨pm,a1⟩:=aK j.prom;have q4:(aN i (G.n i) (M.nd i))[4]?=s:=by show de (Value.int .i64 (M.nd i).p.1)=_;rw[L]
 have q5:(aN i (G.n i) (M.nd i))[5]?=u:=by show de (Value.int .i64 (M.nd i).p.2)=_;rw[L]
 have u0:(gP j r)[0]?=r1:=by show de (Value.int .i64 r.bG.1)=_;rw[w]
 have u1:(gP j r)[1]?=c:=by show de (Value.int .i64 r.bG.2)=_;rw[w]
 have u2:(gP j r)[2]?=de (.map (de pm)):=by rw[a1];rfl
 obtain⟨CL,b0⟩:=aK (aN i (G.n i) (M.nd i));obtain⟨RL,b1⟩:=aK (gP j r);rw[<-b0]at H q4 q5;rw[<-b1]at I u0 u1 u2;have a4:=ae H;have a5:=ae I;have V4:=ae q4;have V5:=ae q5;have U0:=ae u0;have U1:=ae u1;have U2:=ae u2;have Q:=ae h;have b9:=ae K;have c6:=ae l;have HG:=ae hg;have c5:=ae hr;have c0:=ae a0;have c2:=ae b5;have c1:=ae hlen;have HF:=ae hf;have P:=ae a1;have R:=ae w;have c7:=ae X;clear h K l hg hr a0 b5 hlen hf a1 w X q4 q5 u0 u1 u2 H I b0 b1 L;show bl ed 83 #[.pointer (de ⟨f,0,dl⟩),.pointer (de ⟨n,0,dl⟩),.pointer (de ⟨b,0,dl⟩)] W _;go_enter func83,ntmps83
 go_upto_region 1 with fail
 generalize hW:World.alloc _ _=w4;obtain⟨y4,y5,F,-⟩:=yp hW;obtain⟨x4,q⟩:=aK W.heap.size;obtain⟨x5,o⟩:=aK (W.heap.size+1);rw[<-q]at y4;rw[<-o]at y5;rw[<-o,<-q];have T:=ae y4;have U:=ae y5;have B4:=ae F;have C:=ae ((F.block n (hF a4.o)).t a4.o);have p:=ae ((F.block b (hF a5.o)).t a5.o);have O6:=ae (show(hH x4).1=6/\(hH x5).1=6 from⟨Q.o.hi x4 (by omega),Q.o.hi x5 (by omega)⟩);clear hW y4 y5 F q o;refine bh (by kernel_rfl) (λw5 hb5=>?_);have z:=ae hb5;clear hb5;refine iH [RK.val (b,0),.val (b,0),.val (b,0),.val (.agg #[r1,c]),.val (n,0),.val (n,0),.val (n,4),.val (n,4),.val (.agg #[s,u]),.val (.bool (later (r1,c) (s,u)))] [26,27,28,29,30,31,32,33,34,35] (by kernel_rfl) (λv hb=>?_) (λw6 bs a8=>?_)
 ·have a:=z.o.t (hb.m z.o.size);refine jh (cA a U 0 rfl) (by kernel_rfl) ?_;iterate 2 refine .run (by kernel_rfl) ?_
  refine mf ⟨cZ a (hF p.o) ((aR p.o 0).t U0.o),cZ a (hF p.o) ((aR p.o 1).t U1.o),⟨⟩⟩ (by kernel_rfl) ?_;refine jh (cA a T 0 rfl) (by kernel_rfl) ?_;iterate 3 refine .run (by kernel_rfl) ?_
  refine mf ⟨cZ a (hF C.o) ((aR C.o 4).t V4.o),cZ a (hF C.o) ((aR C.o 5).t V5.o),⟨⟩⟩ (by kernel_rfl) ?_;refine .call (by kernel_rfl) (lQ (r1,c) (s,u) v) ?_;exact .nil
 simp only[eS,Act.put,aq,aF,aG];have A:=ae (z.o.t (a8.below.m z.o.size));clear a8;rw[c0.o];have O:=ae (B4.o.t (A.o.m B4.o.size));have d0:=ae ((A.o.block x4 (hF T.o)).t T.o);have a9:=ae ((A.o.block x5 (hF U.o)).t U.o);have c4:=ae ((A.o.block b (hF p.o)).t p.o);have R6:=ae (Q.o.below O.o);have g5:=ej a9.o 0 rfl;have g2:=(aR c4.o 2).t U2.o;have N:=c7.o.prom;rw[<-P.o]at N;have hlen:=pQ (dO.other N (show w6.heap[pm]?=W.heap[pm]? by
  obtain⟨es,ck,hb,-⟩:=id N;exact O.o.block _ (hF hb))) 140 3 Tryz.underlying140
 rw[aY]at hlen;have a7:=ae (uo r.prom.length c1.o w6);rw[c2.o]at a7;clear N;go_wp2_with (go_at_call 102;refine a7.o.m ?_;rintro e x ⟨rfl,rfl⟩)
 have d3:=ae (show Kx hH x f i G M (r.prom.map (·.1)) {dK.zero with kind:=0,bG:=r.bG} 0 x from⟨hH,G.cz,R6.o,cG.refl _ _ _⟩);go_loopg [78] 5 (λk d5 wr=>∃m:Nat,m+k=5/\d5= .int .i64 m/\Hid (Kx hH x f i G M (r.prom.map (·.1)) {dK.zero with kind:=0,bG:=r.bG} m wr))
 case atStart=>exact⟨0,rfl,rfl,d3⟩
 case round=>
  obtain⟨m,hmk,rfl,HS⟩:=hrel;by_cases h5:¬(m:Int)<5
  ·have b4:m=5:=by omega
   subst b4;obtain⟨a3,V,k1,k2⟩:=HS.o.sJ;have HT:=ae (show aW hH W f G i (M.each i (r.prom.map (·.1)) {dK.zero with kind:=0,bG:=r.bG}) wr from⟨a3,_,k1,λ_=>rfl,(cG.below O.o).t (k2.m (λt ht=>by rcases ht with rfl|rfl<;>decide))⟩);clear k1 k2 h5;go_wp2_with fail
   first|refine mh rfl rfl ⟨rfl,?_⟩|refine jH rfl rfl ⟨rfl,?_⟩
   exact HT.o
  ·replace h5:=cN h5;have b4:m<5:=by omega
   obtain⟨a3,V,k1,k2⟩:=HS.o.sJ;have b7:(iO M i (r.prom.map (·.1)) {dK.zero with kind:=0,bG:=r.bG} m).nd=M.nd:=oZ ..;obtain⟨d2,e1,Y⟩:=k1.wo hi (r:=r) (by rw[b7];exact c5.o);rw[show({G with cz:=V}:Gh).n=G.n from rfl,HG.o]at e1;injection e1 with e1;subst e1;have o:=k2.at a9.o (λe=>by have h6:=O6.o.2;rcases e with e|e<;>rw[e]at h6<;>cases h6);have q:=k2.at d0.o (λe=>by have h6:=O6.o.1;rcases e with e|e<;>rw[e]at h6<;>cases h6);have l:=Y.dM;rw[<-c6.o]at l;have lk:=Bv Y.prom m;rw[<-P.o]at lk;have g5:=ej o 0 rfl;have g2:wr.cell? (b,2)=de (.map (de pm)):=by rw[P.o];exact ej l 2 rfl
   obtain⟨d,hd⟩:∃d,d=(cd r.prom (m:Int)).isSome:=⟨_,rfl⟩
   rw[<-hd]at lk;obtain⟨pv,b8⟩:=aK (pF j r m);rw[<-b8]at lk;have Z:=ED r.prom (m:Int);rw[<-hd]at Z;have a6:=ae Z;have c8:=ae q;have c9:=ae o;have D:=ae l;have K1:=ae k1;have K2:=ae k2;obtain⟨g,hg⟩:∃g,gk=g+1:=⟨gk-1,by omega⟩
   have B:=ae (show g<gk/\(m+1)+g=5 from⟨by omega,by omega⟩);clear Z q o l k1 k2 hd b8 Y b7 hg hmk;cases d with
   |true=>
    have S:=ae (show Kx hH x f i G M (r.prom.map (·.1)) {dK.zero with kind:=0,bG:=r.bG} (m+1) wr from⟨a3,V,by rw[jD,ar (a6.o.1 rfl)];exact K1.o,K2.o⟩);go_wp2_with fail
    go_roundg g
    ·exact⟨m+1,B.o.2,by go_num,S.o⟩
    ·exact B.o.1
   |false=>
    go_upto_region 13 with fail
    have Y0:=ae (show wr.cell? (b,0)=r1 from(ej D.o 0 rfl).t (by show de (Value.int .i64 r.bG.1)=_;rw[R.o]));have Y1:=ae (show wr.cell? (b,1)=c from(ej D.o 1 rfl).t (by show de (Value.int .i64 r.bG.2)=_;rw[R.o]));have b3:(iO M i (r.prom.map (·.1)) {dK.zero with kind:=0,bG:=r.bG} m).cz.length<1000000000000:=by
     have h1:=pX M i (r.prom.map (·.1)) {dK.zero with kind:=0,bG:=r.bG} m;have h2:=HF.o;omega
    have E:=ae (λv (hb:dd wr.heap.size wr v)=>jN (K1.o.below hb) hi (m:Int) {dK.zero with kind:=0,bG:=(r1,c)} (.slice dl 0 0) (jm _ _) b3);dsimp only at E;rw[<-b9.o]at E;unfold ptr at E;have c3:=ae (show¬(m:Int)∈r.prom.map (·.1)from λe=>by have:=a6.o.2 e;cases this);clear b3;refine bh (by kernel_rfl) (λd6 b2=>?_);have y:=ae b2;clear b2;refine dN [RK.val (f,0),.val (n,0),.val (m:Int),.val (b,0),.val (b,0),.val (b,0),.val (.agg #[r1,c]),.val (.agg #[(0:Int),(0:Int),(0:Int),r1,c,(0:Int),(0:Int),(0:Int),(0:Int),(0:Int),(0:Int),(0:Int),(0:Int),.slice dl 0 0])] [92,93,94,95,96,97,98,99] (by kernel_rfl) (λv hb=>?_) (λv hb=>?_)
    ·have a:=y.o.t (hb.m y.o.size);refine .run (by kernel_rfl) ?_;refine jh (cA a c8 0 rfl) (by kernel_rfl) ?_;refine .run (by kernel_rfl) ?_;refine jh (cA a c9 0 rfl) (by kernel_rfl) ?_;iterate 2 refine .run (by kernel_rfl) ?_
     refine mf ⟨cZ a (hF D.o) Y0.o,cZ a (hF D.o) Y1.o,⟨⟩⟩ (by kernel_rfl) ?_;refine .run (by kernel_rfl) ?_;exact .nil
    have a:=y.o.t (hb.m y.o.size);refine mK rfl rfl (by kernel_rfl) ((E.o v a).m λe w8 hh=>?_);obtain⟨d4,d1,rfl,a2,b6⟩:=hh;refine⟨_,rfl,?_⟩;have S:=ae (show Kx hH x f i G M (r.prom.map (·.1)) {dK.zero with kind:=0,bG:=r.bG} (m+1) w8 from⟨d4,d1,by rw[jD,ak c3.o];rw[<-R.o]at a2;exact a2,K2.o.t ((cG.below a).t b6)⟩);clear a2 b6 a hb;simp only[eS,Act.put,aq,aF,aG];go_wp2_with fail
    go_roundg g
    ·exact⟨m+1,B.o.2,by go_num,S.o⟩
    ·exact B.o.1
theorem qJ{hH:bI}{W:ax}{Z i:Nat}{G:Gh}{M:aT}(h:dB hH W Z G M)(hi:i<5)(hp:(M.nd i).cI=dl)(l:dK)(la:Option Addr)(ln lc:Nat)(i2:dG hH W (.slice la ln lc) l.aV)(hk:l.kind=1\/l.kind=3)
  (hv:l.kind=3->0<=l.cP.slot/\l.cP.slot<40/\cS l.cP.cW=0)(h9:∀r,(M.nd i).rg=de r->IL r)(hl:sG (M.nd i))(ht:M.told.length+(M.nd i).wait.length<1000000000000):
  bl ed 76 #[ptr Z,ptr (G.n i).b,.agg (bP l (.slice la ln lc)).toArray] W λe W'=>e= .returned (.tuple #[])/\aW hH W Z G i (M.fC i l) W':=by
 obtain⟨lk,a,ds,⟨b1,b2⟩,⟨s,⟨v,y⟩,⟨c1,c2,c3,c4,c5⟩⟩,vo⟩:=l;obtain⟨gb,e6⟩:=aK ((G.n i).b);have b9:=(h.nd i hi).dM;rw[<-e6]at b9|-;show bl ed 76 #[.pointer (de ⟨Z,0,dl⟩),.pointer (de ⟨gb,0,dl⟩),.agg #[.int .i64 lk,.int .i64 a,.int .i64 ds,.int .i64 b1,.int .i64 b2,.int .i64 s,.int .i64 v,.int .i64 y,.int .i64 c1,.int .i64 c2,.int .i64 c3,.int .i64 c4,.int .i64 c5,.slice la ln lc]] W _;obtain⟨MF,e0⟩:=aK (M.fC i ⟨lk,a,ds,(b1,b2),⟨s,(v,y),⟨c1,c2,c3,c4,c5⟩⟩,vo⟩);rw[<-e0];have d6:=ae e0;have i9:=ae e6;have HV:=ae hv;have f7:=ae h9;have f8:=ae hl;have j5:=ae ht;have HP:=ae hp;have j2:=ae i2;have S:=ae h;have HK:=ae hk;obtain⟨d0,hrg⟩:=aK ((M.nd i).rg);have K:=ae hrg;have k0:(G.n i).rg.map (λx=>((x.b,0):Addr))=dl/\d0=dl\/∃q r,(G.n i).rg=de q/\d0=de r/\jt hH W i q r:=by
  have h1:=(h.nd i hi).pt.rg;rw[<-hrg]at h1;cases e1:(G.n i).rg with
  |none=>
   cases e2:d0 with
   |none=>exact .inl ⟨rfl,rfl⟩
   |some r=>rw[e1,e2]at h1;exact h1.elim
  |some q=>
   cases e2:d0 with
   |none=>rw[e1,e2]at h1;exact h1.elim
   |some r=>rw[e1,e2]at h1;exact .inr ⟨q,r,rfl,rfl,h1⟩
 have D:(aN i (G.n i) (M.nd i))[9]?=de (.pointer ((G.n i).rg.map λr=>(r.b,0))):=rfl;obtain⟨CL,h4⟩:=aK (aN i (G.n i) (M.nd i));rw[<-h4]at b9 D;have b6:=ae b9;clear h e0 e6 hv h9 hl ht hp i2 hk hrg b9 h4;rcases k0 with⟨hg,rfl⟩|⟨q,r,hg,rfl,e3⟩
 ·rw[hg]at D;have Q9:=ae D;have h8:MF=M:=by rw[d6.o];unfold aT.fC;rw[<-K.o]
  have R:=ae h8;clear D hg h8;go_enter func76,ntmps76
  go_upto_region 1 with fail
  generalize B:World.alloc _ _=O;have c:=ae (gv B);clear B;have D:=cZ c.o (hF b6.o) ((aR b6.o 9).t Q9.o);go_wp2_with fail
  first|refine aH (dY rfl _ _ _) rfl ⟨rfl,?_⟩|refine gw (dY rfl _ _ _) rfl ⟨rfl,?_⟩|trace_state
  rw[R.o];exact⟨hH,G,S.o.below c.o,λ_=>rfl,cG.below c.o⟩
 ·rw[hg]at D;obtain⟨n,c7⟩:=aK q.b;have Q9:=ae (show CL[9]?=(n,0) by rw[c7];exact D);obtain⟨⟨r1,N⟩,pm,bg,z,gO⟩:=r;have f1:=e3.dM;rw[<-c7]at f1;have g3:=ae f1;have d3:=ae hg;have g2:=ae c7;have j3:=ae e3;clear D hg c7 f1 e3;obtain⟨k7,i3⟩:=aK q.prom;obtain⟨E,i6⟩:=aK q.ps;have g1:=ae i3;have a1:=ae i6;go_enter func76,ntmps76
  go_upto_region 1 with fail
  generalize B:World.alloc _ _=O;have C:=eZ B rfl;have c:=ae (gv B);clear B i3 i6;obtain⟨F,f2⟩:=aK W.heap.size;rw[<-f2]at C|-;have X1:=ae C;have O6:=ae (show(hH F).1=6 from S.o.hi F (by rw[f2];exact ag _));have R1:=ae (S.o.below c.o);have a5:=ae ((c.o.block n (hF g3.o)).t g3.o);have D:=cZ c.o (hF b6.o) ((aR b6.o 9).t Q9.o);have y0:=ej C 0 rfl;have y1:=ej C 1 rfl;have y3:=ej C 3 rfl;have y4:=ej C 4 rfl;have y5:=ej C 5 rfl;have y6:=ej C 6 rfl;have y7:=ej C 7 rfl;have k8:=ej C 13 rfl;have z0:O.cell? (n,0)=r1:=ej a5.o 0 rfl;have z1:O.cell? (n,1)=N:=ej a5.o 1 rfl;have z2:O.cell? (n,2)=de (.map (de k7)):=by rw[g1.o];exact ej a5.o 2 rfl
  have P:O.cell? (n,5)=de (.map (de E)):=by rw[a1.o];exact ej a5.o 5 rfl
  clear C f2;by_cases a8:lk=1
  ·subst a8;have a7:MF=if(b1,b2)=(r1,N)then M.aX i {M.nd i with rg:=de {(⟨(r1,N),pm,bg,z,gO⟩:eW)with prom:=di pm a vo}}else M:=by
    rw[d6.o];unfold aT.fC;rw[<-K.o];rfl
   have a3:=ae a7;clear a7 y5 y6 y7 P;go_upto_region 4 with fail
   rcases Iq b1 b2 r1 N with⟨rfl,rfl⟩|J|⟨rfl,J⟩
   ·obtain⟨d,c8,hT⟩:=(S.o.below (c.o.drew.drew)).CP hi HP.o d3.o K.o.symm (f7.o _ K.o.symm).keys a (.slice la ln lc) vo (j2.o.cB (cG.below (T:=λ_=>False) c.o.drew.drew) (λ_ h=>h.elim));rw[<-g1.o]at c8;have HT:=ae (hT.pre (j:=i) c.o.drew.drew);have R:=ae (a3.o.t (ar rfl));clear hT;go_region
    go_wp2_with fail
    go_region
    go_wp2_with fail
    first|refine mh rfl rfl ⟨rfl,?_⟩|refine jH rfl rfl ⟨rfl,?_⟩
    rw[R.o];exact HT.o
   all_goals
    have e1:=aJ.2 J;have R:=ae (show MF=M by rw[a3.o,ak (λe=>J (by first|exact dz Prod.fst e|exact dz Prod.snd e))]);clear J;go_region
    go_wp2_with fail
    first|refine aH (dY rfl _ _ _) rfl ⟨rfl,?_⟩|refine gw (dY rfl _ _ _) rfl ⟨rfl,?_⟩|trace_state
    rw[R.o];exact⟨hH,G,S.o.below (by first|exact c.o.drew|exact c.o),λ_=>rfl,cG.below (by first|exact c.o.drew|exact c.o)⟩
  ·have l3:(lk==1)=dT:=by rw[aJ];exact a8
   have j1:=ae a8;have a7:MF=if(v,y)=(r1,N)then
     (if lG (iA ((cd gO s).getD []) a).length then(M.aX i {M.nd i with rg:=de {(⟨(r1,N),pm,bg,z,gO⟩:eW)with aV:=di gO s (iA ((cd gO s).getD []) a)}}).mH i s ⟨c1,c2,c3,c4,c5⟩else M.aX i {M.nd i with rg:=de {(⟨(r1,N),pm,bg,z,gO⟩:eW)with aV:=di gO s (iA ((cd gO s).getD []) a)}})else M:=by
    rw[d6.o];unfold aT.fC;rw[<-K.o];dsimp only;rw[ak a8]
   have a3:=ae a7;clear a7 a8 y3 y4 k8 z2;go_upto_region 6 with fail
   rcases Iq v y r1 N with⟨rfl,rfl⟩|J|⟨rfl,J⟩
   ·have b7:=ae (HV.o (HK.o.resolve_left j1.o));have Q:=ae (f7.o _ K.o.symm);go_region
    generalize B:World.drew O=d;have B2:=ae (show dd W.heap.size W d by rw[<-B];exact c.o.drew);have R2:=ae (S.o.below B2.o);have X2:=ae ((show d.heap[F]?=O.heap[F]? by rw[<-B];rfl).t X1.o);have j7:=ae ((show d.heap[n]?=O.heap[n]? by rw[<-B];rfl).t a5.o);clear B y0 y1 y5 y6 y7 z0 z1 P D;have y5:=ej X2.o 5 rfl;have P:d.cell? (n,5)=de (.map (de E)):=by rw[a1.o];exact ej j7.o 5 rfl
    have h6:=j3.o.cB (cG.below (T:=λ_=>False) B2.o) (λ_ h=>h.elim) (λ_ _=>id);have L:=nV (W:=d) h6.ps s;rw[<-a1.o]at L;obtain⟨ko,e8⟩:=aK (cd gO s);rw[show(⟨(v,y),pm,bg,z,gO⟩:eW).aV=gO from rfl,<-e8]at L;have a0:=ae e8;clear e8 h6;cases ko
    case' none=>
     have L:(Instr.lookup 141 (.map (de E)) s dT).run ed d= .ok (.map dl) d:=L;obtain⟨o,k5,GV,c8,c9,i1,i0,c6⟩:=R2.o.Ln hi HP.o d3.o K.o.symm Q.o.tJ s a0.o.symm;rw[<-a1.o]at c8;have k4:=@run_makeMap ed;have e5:=EF d;have RV:=ae c9;have b5:=ae i1;have f4:=ae i0;have NV:=ae ((cG.below (T:=λt=>t.1<6) B2.o).t c6);have XV:=ae (c6.at X2.o (by rw[O6.o];decide));have g8:=ae (show(k5 F).1=6 by rw[c6.marks F (hF X2.o)];exact O6.o);clear c9 i1 i0 c6;go_upto_region 10 with fail
     clear c8 k4 L y5 P e5;obtain⟨H,I⟩:∃g:GR,g={q with kG:=λx=>if x=s then d.heap.size else q.kG x}:=⟨_,rfl⟩
     obtain⟨b,u⟩:∃r:eW,r={(⟨(v,y),pm,bg,z,gO⟩:eW)with aV:=di gO s []}:=⟨_,rfl⟩
     obtain⟨f,A⟩:∃m,m=M.aX i {M.nd i with rg:=de {(⟨(v,y),pm,bg,z,gO⟩:eW)with aV:=di gO s []}}:=⟨_,rfl⟩
     obtain⟨ks,a9⟩:∃k:List Int,k=[]:=⟨_,rfl⟩
     rw[<-A]at RV;have d1:=ae (show(GV.n i).rg=de H by rw[I];exact f4.o);have d8:=ae (show(f.nd i).rg=de b by rw[A,bf,u]);have g6:=ae (show(f.nd i).cI=dl by rw[A,bf];exact HP.o);have f3:=ae (show H.b=n by rw[I,g2.o]);have a2:=ae (show H.ps=E by rw[I,a1.o]);have d4:=ae (show cd b.aV s=de ks by rw[u,a9];show cd (di gO s []) s=_;rw[fw,ar rfl]);have g5:=ae (show ks.Nodup by rw[a9];exact jX);have g4:=ae (show ks.length<=5 by rw[a9];exact bX _);have a4:=ae (show(cd gO s).getD []=ks by rw[<-a0.o,a9];rfl);have h3:=ae (show(b.aV.map (·.1)).Nodup by rw[u];exact km Q.o.tJ _ _);have h0:=ae (show∀p∈b.aV,0<=p.1 by
      rw[u];intro p hp;rcases lX (show p∈di gO s []from hp)with e|hp
      ·rw[e];exact b7.o.1
      ·exact(Q.o.aV p hp).1)
     have g7:=ae (show f.aX i {f.nd i with rg:=de {b with aV:=di b.aV s (iA ks a)}}=M.aX i {M.nd i with rg:=de {(⟨(v,y),pm,bg,z,gO⟩:eW)with aV:=di gO s (iA ((cd gO s).getD []) a)}} by
      rw[a4.o,A,eU,bf,u];show M.aX i {M.nd i with rg:=de {(⟨(v,y),pm,bg,z,gO⟩:eW)with aV:=di (di gO s []) s (iA ks a)}}=_;rw[Ea])
     clear I u A a9 f4
    case' some ks=>
     have L:(Instr.lookup 141 (.map (de E)) s dT).run ed d= .ok (.map (de (q.kG s))) d:=L;have e5:=EE (q.kG s) d;obtain⟨o,b4⟩:=aK d;obtain⟨H,I⟩:∃g:GR,g=q:=⟨_,rfl⟩
     obtain⟨b,u⟩:∃r:eW,r=(⟨(v,y),pm,bg,z,gO⟩:eW):=⟨_,rfl⟩
     obtain⟨f,A⟩:=aK M;obtain⟨GV,b8⟩:=aK G;have RV:=ae (show dB hH o Z GV f by rw[b4,A,b8];exact R2.o);have b5:=ae (show∀j,(GV.n j).b=(G.n j).b by rw[b8];exact λ_=>rfl);have NV:=ae (show cG hH W hH o (λt=>t.1<6) by rw[b4];exact cG.below B2.o);have XV:=ae ((show o.heap[F]?=d.heap[F]? by rw[b4]).t X2.o);have g8:=O6;have d1:=ae (show(GV.n i).rg=de H by rw[I,b8];exact d3.o);have d8:=ae (show(f.nd i).rg=de b by rw[A,u];exact K.o.symm);have g6:=ae (show(f.nd i).cI=dl by rw[A];exact HP.o);have f3:=ae (show H.b=n by rw[I,g2.o]);have a2:=ae (show H.ps=E by rw[I,a1.o]);have d4:=ae (show cd b.aV s=de ks by rw[u];exact a0.o.symm);have g5:=ae (show ks.Nodup from(Q.o.aV _ (kQ a0.o.symm)).2.1);have g4:=ae (show ks.length<=5 from(Q.o.aV _ (kQ a0.o.symm)).2.2);have a4:=ae (show(cd gO s).getD []=ks by rw[<-a0.o];rfl);have h3:=ae (show(b.aV.map (·.1)).Nodup by rw[u];exact Q.o.tJ);have h0:=ae (show∀p∈b.aV,0<=p.1 by rw[u];exact λp hp=>(Q.o.aV p hp).1);have g7:=ae (show f.aX i {f.nd i with rg:=de {b with aV:=di b.aV s (iA ks a)}}=M.aX i {M.nd i with rg:=de {(⟨(v,y),pm,bg,z,gO⟩:eW)with aV:=di gO s (iA ((cd gO s).getD []) a)}} by
      rw[a4.o,A,u])
     go_upto_region 10 with fail
     clear L y5 P e5;rw[<-b4];clear b4 I u A b8
    all_goals
     have c9:=RV.o.wo hi d8.o;obtain⟨l0,V,U⟩:=c9;rw[d1.o]at V;injection V with V;subst V;have X:=U.dM;have f5:=ae (show H.b=n from f3.o);rw[f5.o]at X;have P:o.cell? (n,5)=de (.map (de E)):=(ej X 5 rfl).t (by rw[<-a2.o];rfl);have y1:=ej XV.o 1 rfl;have Y:=U.ps;rw[a2.o]at Y;have b0:=nV (W:=o.drew) (dO.other Y rfl) s;rw[d4.o]at b0;obtain⟨ib,e7⟩:=aK (H.kG s);obtain⟨w4,i5,j9,d9,G4,V,i4,h5,e4⟩:=(RV.o.below (aj o.heap.size o).drew).Lm hi g6.o d1.o d8.o h3.o h0.o s ks d4.o g5.o a;rw[<-e7]at b0 i5 d9;have b0:(Instr.lookup 141 (.map (de E)) s dT).run ed o.drew= .ok (.map (de ib)) o.drew:=b0;have R4:=ae i4;have i7:=ae V;have d2:=ae h5;have N4:=ae ((cG.below (T:=λt=>t.1<6) (aj o.heap.size o).drew).t e4);have I4:=ae d9;have j0:=ae e7;have a6:=ae (e4.at ((show o.drew.heap[F]?=o.heap[F]? from rfl).t XV.o) (by rw[g8.o];decide));clear U X Y j9 d9 V i4 h5 e4 e7;go_region
     clear b0 i5 P y1;have j8:=R4.o.wo hi (show((f.aX i {f.nd i with rg:=de {b with aV:=di b.aV s (iA ks a)}}).nd i).rg=de {b with aV:=di b.aV s (iA ks a)} by rw[bf]);obtain⟨l1,c0,U⟩:=j8;rw[i7.o]at c0;injection c0 with c0;subst c0;have X:=U.dM;rw[f5.o]at X;have P:w4.cell? (n,5)=de (.map (de E)):=(ej X 5 rfl).t (by rw[<-a2.o];rfl);have Y:=U.ps;rw[a2.o]at Y;have e9:=nV (W:=w4) Y s;rw[show({b with aV:=di b.aV s (iA ks a)}:eW).aV=di b.aV s (iA ks a)from rfl,fw,ar rfl,<-j0.o]at e9;have e9:(Instr.lookup 141 (.map (de E)) s dT).run ed w4= .ok (.map (de ib)) w4:=e9;obtain⟨es,k9,l2,h7⟩:=dO.len I4.o;rw[aY]at h7;obtain⟨nn,b3⟩:=aK ((iA ks a).length);rw[<-b3]at h7;have g0:=ae b3;have hlen:=pQ I4.o 185 3 Tryz.underlying185;rw[aY,<-b3]at hlen;have d7:=ae (λw=>uo nn (by
      rw[b3];have h1:(iA ks a).length<=ks.length+1:=by unfold iA;split<;>simp
      have h2:=g4.o;omega) w)
     obtain⟨mo,f0⟩:=aK (lG nn);rw[<-f0]at d7;have f9:=ae f0;clear U X Y b3 f0;have x8:=ej a6.o 8 rfl;have x9:=ej a6.o 9 rfl;have l4:=ej a6.o 10 rfl;have l5:=ej a6.o 11 rfl;have l6:=ej a6.o 12 rfl;have j6:=ae (show f.aX i {f.nd i with rg:=de {b with aV:=di b.aV s (iA ks a)}}=M.aX i {M.nd i with rg:=de {(⟨(v,y),pm,bg,z,gO⟩:eW)with aV:=di gO s (iA ((cd gO s).getD []) a)}}from g7.o);have g9:=ae (show dB _ w4 Z G4 (M.aX i {M.nd i with rg:=de {(⟨(v,y),pm,bg,z,gO⟩:eW)with aV:=di gO s (iA ((cd gO s).getD []) a)}}) by rw[<-j6.o];exact R4.o);have f6:=ae (a3.o.t (ar rfl));have d5:=ae (wO g9.o hi s ⟨c1,c2,c3,c4,c5⟩ (b7.o).1 (b7.o).2.1 (b7.o).2.2 (by rw[bf];exact⟨f8.o.known,f8.o.log⟩) (by rw[bf];exact j5.o));have i8:=ae (show gb=(G4.n i).b by rw[d2.o,b5.o,i9.o]);rw[<-i8.o]at d5;unfold ptr aQ at d5;cases mo with
     |false=>
      go_wp2_with (go_at_call 102;refine(d7.o _).m ?_;rintro e _ ⟨rfl,rfl⟩)
      first|refine mh rfl rfl ⟨rfl,?_⟩|refine jH rfl rfl ⟨rfl,?_⟩
      have hm:lG (iA ((cd gO s).getD []) a).length=dT:=by rw[a4.o,<-g0.o];exact f9.o.symm
      rw[f6.o,hm];exact⟨_,G4,g9.o,λj=>(d2.o j).t (b5.o j),NV.o.t N4.o⟩
     |true=>
      go_wp2_with (first
       |(go_at_call 102;refine(d7.o _).m ?_;rintro e _ ⟨rfl,rfl⟩)
       |(go_at_call 103;refine d5.o.m ?_;rintro e w6 ⟨rfl,k6,G6,k1,k2,k3⟩;have j4:=ae (show aW hH W Z G i _ w6 from⟨k6,G6,k1,λj=>(k2 j).t ((d2.o j).t (b5.o j)),(NV.o.t N4.o).t k3⟩);clear k1 k2 k3))
      first|refine mh rfl rfl ⟨rfl,?_⟩|refine jH rfl rfl ⟨rfl,?_⟩
      have hm:lG (iA ((cd gO s).getD []) a).length=dE:=by rw[a4.o,<-g0.o];exact f9.o.symm
      rw[f6.o,hm];exact j4.o
   all_goals
    have e1:=aJ.2 J;have R:=ae (show MF=M by rw[a3.o,ak (λe=>J (by first|exact dz Prod.fst e|exact dz Prod.snd e))]);clear J;go_region
    go_wp2_with fail
    first|refine aH (dY rfl _ _ _) rfl ⟨rfl,?_⟩|refine gw (dY rfl _ _ _) rfl ⟨rfl,?_⟩|trace_state
    rw[R.o];exact⟨hH,G,S.o.below (by first|exact c.o.drew|exact c.o),λ_=>rfl,cG.below (by first|exact c.o.drew|exact c.o)⟩
theorem dB.Mh{hH:bI}{W:ax}{f i:Nat}{G:Gh}{M:aT}(h:dB hH W f G M)(hi:i<5)(h5:M.bad.length=5)(x:Int):aW hH W f G i {M with bad:=M.bad.set i x} (W.setCell (f,9+i) x):=by
 have k:cG hH W hH (W.setCell (f,9+i) x) (·=(5,0)):=
  ⟨rfl,rfl,rfl,by simp[World.setCell],λq hq o=>aA _ _ (λe=>o (by rw[e];exact h.tw)),λ_ _=>rfl⟩
 have d:Fair (·=(5,0)):=λt g e=>by rw[g]at e;cases e
 have n:(jw G M).set (9+i) x=jw G {M with bad:=M.bad.set i x}:=by
  unfold jw;obtain⟨a,b1,b2,b,c,hb⟩:∃a b1 b2 b c,M.bad=[a,b1,b2,b,c]:=by
   revert h5;cases M.bad with
   |nil=>intro h;cases h
   |cons a l=>match l with
    |[b1,b2,b,c]=>intro _;exact⟨a,b1,b2,b,c,rfl⟩
    |[]=>intro h;cases h
    |[_]=>intro h;cases h
    |[_,_]=>intro h;cases h
    |[_,_,_]=>intro h;cases h
    |_::_::_::_::_::_=>intro h;simp at h
  rw[hb];have hc:i=0\/i=1\/i=2\/i=3\/i=4:=by omega
  rcases hc with rfl|rfl|rfl|rfl|rfl<;>rfl
 refine⟨hH,G,⟨?_,h.tw,h.nodes.cB k (by intro e;cases e),h.cz.cB k d (by intro e;cases e),h.told.cB k (by intro e;cases e),λj hj=>(h.nd j hj).cB k d (λm e=>by injection e with e _;omega),λq hq=>h.hi q (by simpa[World.setCell]using hq),Kn.cB h.kn k d,Nd.cB h.ne k d⟩,λ_=>rfl,k.m (λt g=>by rw[g];decide)⟩;rw[aB h.dM];show de (Obj.cells ((jw G M).toArray.setIfInBounds (9+i) _) _ _)=_;rw[aq,n]
theorem DK{hH:bI}{W:ax}{q i:Nat}{G:Gh}{M:aT}(h:dB hH W q G M)(hi:i<5)(dv:bd)(D:List UInt8)(hd:Rd W dv D)(hD:D.length<=2000)(hu:(M.nd i).up=dE)(h5:M.bad.length=5)(i9:0<=M.bad.getD i 0/\M.bad.getD i 0<1000000000000)(j9:M.told.length<1000000000000)(j4:(M.nd i).queue.length<1000000000000)(k1:(M.nd i).wait.length<1000000000000):
  bl ed 30 #[ptr q,ptr (G.n i).b,dv] W λe W'=>e= .returned (.tuple #[])/\aW hH W q G i (M.fQ i (iD D ((M.nd i).log.length:Int))) W':=by
 obtain⟨p,f3⟩:=aK ((G.n i).b);have a2:=(h.nd i hi).dM;have b8:=(h.nd i hi).pt.log;rw[<-f3]at a2|-;obtain⟨la,lc,b9,j2,j3⟩:=b8.shape;rw[b9]at b8;obtain⟨ln,d6⟩:=aK ((M.nd i).log.length);rw[<-d6]at b9 j2 b8;have c1:=Ct D (ln:Int) dv W hd hD h.kn.1 h.ne.1;obtain⟨⟨⟨l,f,g,m,n⟩,er⟩,c0⟩:∃o,o=iD D (ln:Int):=⟨_,rfl⟩
 rw[<-d6,<-c0];rw[<-c0]at c1;have a4:er=0->cS ⟨l,f,g,m,n⟩=0:=λe=>by
  have h1:=zx (D:=D) (now:=(ln:Int)) (by rw[<-c0];exact e);rw[<-c0]at h1;exact h1
 unfold eG at c1;dsimp only at c1;obtain⟨da,dc,rfl,-,-⟩:=hd.slice;have e0:W.cell? (p,0)=i:=(aR a2 0).t rfl;have e1:W.cell? (p,1)=de (.bool dE):=(aR a2 1).t (by show de (Value.bool (M.nd i).up)=_;rw[hu]);have i6:W.cell? (p,11)=de (.slice la ln lc):=(aR a2 11).t (by rw[<-b9];rfl);have q3:(ln:Int)<=(lc:Int):=by omega
 have q4:(lc:Int)<=9223372036854775807:=by have:lc<=9223372036854775807:=j3;omega
 have l6:=ae c1;have n1:=ae a4;have HR:=ae h;have c5:=ae a2;have a1:=ae f3;have o7:=ae d6;have l2:=ae b8;have HU:=ae hu;have E0:=ae e0;have k4:=ae i6;have o8:=ae b9;have l5:=ae h.hi;have m7:=ae j9;have l7:=ae j4;have n0:=ae k1;have H5:=ae h5;have k8:=ae i9;clear h5 i9 j9 j4 k1;clear c1 a4 h a2 f3 d6 b8 b9 j2 j3 hu hd c0 e0;show bl ed 30 #[.pointer (de ⟨q,0,dl⟩),.pointer (de ⟨p,0,dl⟩),.slice da D.length dc] W _;go_enter func30,ntmps30
 go_upto_region 2 with(go_at_call 49;refine l6.o.m ?_;rintro e w1 ⟨rfl,i8⟩;have c3:=ae i8;clear i8)
 generalize hW:World.alloc _ _=w2;have B:=ae (show dd W.heap.size W w2 by rw[<-hW];exact c3.o.alloc c3.o.size _);obtain⟨nb,d7⟩:=aK w1.heap.size;have y:=ae (eZ hW d7);have X6:=ae (show(hH nb).1=6 from l5.o nb (by rw[d7];exact c3.o.size));rw[<-d7];clear hW d7 c3 e1 i6;have R2:=ae (HR.o.below B.o);have o9:=ae ((B.o.block p (hF c5.o)).t c5.o);by_cases d3:er=0
 ·have R:=ae d3;clear d3;have n6:(er !=0)=dT:=by rw[kI];exact R.o
  obtain⟨zc,a4⟩:∃c:bk,c=⟨l,f,g,m,n⟩:=⟨_,rfl⟩
  obtain⟨px,f5⟩:=aK (lY (M.nd i).log zc);have b7:=λw (hb:dd W.heap.size W w)=>uC (.slice la ln lc) (M.nd i).log zc w ((l2.o.cB (cG.below (T:=λ_=>False) hb) id).rd);rw[<-f5,a4]at b7;unfold aQ at b7;dsimp only at b7;have l1:=ae b7;have HZ:=ae a4;have h9:=ae f5;clear b7 a4 f5;have o3:=EW B.o (hF c5.o) k4.o;have b0:=od (hF y.o) (ej y.o 0 rfl);have b1:=od (hF y.o) (ej y.o 1 rfl);have b2:=od (hF y.o) (ej y.o 2 rfl);have b3:=od (hF y.o) (ej y.o 3 rfl);have b4:=od (hF y.o) (ej y.o 4 rfl);go_upto_region 4 with fail
  refine ct (by kernel_rfl) (by kernel_rfl) ?_;repeat (go_big_quiet_step ((go_at_call 50;exact fD (l1.o _ (B.o.t ((ox.kj _).m B.o.size))))))
  refine IR λw4 g3=>?_;clear o3 b0 b1 b2 b3 b4;have B4:=ae (B.o.t (g3.o.m B.o.size));have F:=ae ((g3.o.block nb (hF y.o)).t y.o);have R4:=ae (HR.o.below B4.o);by_cases d5:(⟨l,f,g,m,n⟩:bk)∈(M.nd i).log
  ·have a7:=ae d5;clear d5;have o1:decide (0<=px)=dE:=by rw[h9.o,tq];exact fG (by rw[HZ.o];exact a7.o)
   have j0:p=(G.n i).b:=a1.o;have e4:(M.nd i).store.Ok:=(R4.o.nd i hi).pt.kl;obtain⟨st,e5⟩:=aK ((M.nd i).store);have d8:=(R4.o.nd i hi).dM;rw[<-j0]at d8;have hrg:w4.rangeAt p 12 st.cells:=by
    rw[e5];exact tS (A:=lF i (G.n i) (M.nd i)) d8 rfl
   rw[<-e5]at e4;have i1:=ae e4;have m3:=ae e5;have l9:=ae hrg;have h0:=ae (hF d8);have g7:=ae (n1.o R.o);have c6:=ae (λw=>IM st e4 ⟨l,f,g,m,n⟩ g7.o w);clear j0 e4 e5 hrg d8;obtain⟨sn,e3⟩:=aK (st.next ⟨l,f,g,m,n⟩);obtain⟨an,hand⟩:=aK (st.answer ⟨l,f,g,m,n⟩);rw[<-e3,<-hand]at c6;obtain⟨r,s⟩:=an;have p5:=ae e3;have k6:=ae hand;have i5:=ae (show sn.Ok by rw[e3];exact dA.CU st i1.o _ g7.o);clear e3 hand;unfold eG at c6;dsimp only at c6;go_upto_region 6 with fail
   refine bh (by kernel_rfl) (λw5 hb5=>?_);have X5:=ae ((hb5.block nb (hF F.o)).t F.o);have i0:=ae (kD l9.o hb5 h0.o);have B5:=ae hb5;clear hb5;refine iH [RK.val (p,0),.val (p,0),.val (p,12),.val (.agg st.cells.toArray),.val (.agg #[l,f,g,m,n]),.val (.tuple #[.agg sn.cells.toArray,.agg #[r,s],(0:Int)]),.val (.tuple #[.agg sn.cells.toArray,.agg #[r,s],(0:Int)]),.val (.agg sn.cells.toArray),.val (.agg #[r,s]),.val (0:Int),.new 85 dA.zero.cells.toArray,.new 81 #[(0:Int),(0:Int)],.put 10 85 7 sn.cells.toArray,.put 11 81 8 #[r,s],.val (0:Int)] [53,54,55,56,57,58,52,59,60,61,9,10,0,0,11] (by kernel_rfl) (λw hb=>?_) (λw6 bs I=>?_)
   ·have X9:=(hb.block nb (hF X5.o)).t X5.o;have m0:=kD i0.o hb (ai h0.o B5.o.size);iterate 3 refine .run (by kernel_rfl) ?_
    refine NT 40 m0 (by kernel_rfl) (jd i1.o) ?_;refine mf ⟨ej X9 0 rfl,ej X9 1 rfl,ej X9 2 rfl,ej X9 3 rfl,ej X9 4 rfl,⟨⟩⟩ (by kernel_rfl) ?_;refine .call (by kernel_rfl) (c6.o w) ?_;iterate 4 refine .run (by kernel_rfl) ?_
    refine .new (λ_ _=>rfl) ?_;refine .new (λ_ _=>rfl) ?_;refine .put _ rfl (by rw[iW i5.o];rfl) rfl (λa w b C h1 h2 h3 h4=>mN rfl rfl 85 (.tmp 9) (.tmp 59) rfl b 0 sn.cells.toArray h1 h2 (dr h3 h4) (by rw[iW i5.o];exact oz) (oA _) ⟨rfl,rfl⟩) ?_;refine tW rfl rfl rfl (by kernel_rfl) ?_;refine .run (by kernel_rfl) ?_;exact .nil
   have i10:=I.new 10 _ _ (show 10<15 by decide) rfl rfl;have i11:=I.new 11 _ _ (show 11<15 by decide) rfl rfl;have g1:=(I.put 12 _ _ _ _ (show 12<15 by decide) rfl rfl).2;have g2:=(I.put 13 _ _ _ _ (show 13<15 by decide) rfl rfl).2;have B6:=ae (B5.o.t (I.below.m B5.o.size));have g5:=ae (show w4.heap.size<=bs 10 from aE B5.o.size i10.1);have g6:=ae (show w4.heap.size<=bs 11 from aE B5.o.size i11.1);obtain⟨sb,d9⟩:=aK (bs 10);obtain⟨ab,c9⟩:=aK (bs 11);rw[<-d9]at g1 g5;rw[<-c9]at g2 g6;simp only[eS,Act.put,aq,aF,aG];rw[<-d9,<-c9];have n3:=ae g1;have i4:=ae g2;have n2:=ae (show sb≠ab by rw[d9,c9];exact I.ne 10 11 _ _ _ _ (show 10<15 by decide) (show 11<15 by decide) rfl rfl rfl rfl (by decide));clear i10 i11 g1 g2 d9 c9 I;have R6:=ae (R4.o.below B6.o);have a9:=ae ((B6.o.block nb (hF F.o)).t F.o);have a6:=i4;have S:=R6;obtain⟨a5,e7⟩:=aK w6;rw[<-e7]at S a9 a6;have k3:=ae (show dd W.heap.size W a5 by rw[e7];exact B4.o.t (B6.o.m B4.o.size));rw[<-e7];clear n3 n2 g5 g6 R6 B6 e7 B5 i0 X5 i4;obtain⟨ta,tc,e6,-⟩:=S.o.told.shape;obtain⟨tl,j8⟩:=aK M.told.length;rw[<-j8]at e6;have Z:=S.o.dM;have d4:=(S.o.nd i hi).dM;rw[<-a1.o]at d4;have k2:a5.cell? (q,14)=de (.slice ta tl tc):=(aR Z 14).t (show de G.told=_ by rw[e6]);have g0:a5.cell? (p,0)=i:=(aR d4 0).t rfl;have m2:=ae (λN (hb:dd a5.heap.size a5 N)=>show ev hH (5,3) 137 5 N (.slice ta tl tc) M.told.length (M.told.flatMap ee) by
    have h1:=S.o.told;rw[e6]at h1;exact h1.cB (cG.below (T:=λ_=>False) hb) id)
   have e9:=ae Z;have m6:=ae (show M.told.length<1000000000000 from m7.o);have l3:=ae (hF d4);have n4:=ae k2;have G0:=ae g0;clear Z d4 e6 j8 k2 g0;go_upto_region 7 with fail
   refine' Dg (H:=λu x v w' K=>Hid (ev K (5,3) 137 5 w' (.slice u x v) (M.told++[(⟨(i:Int),f,g,(r,s)⟩:vj)]).length ((M.told++[(⟨(i:Int),f,g,(r,s)⟩:vj)]).flatMap ee))/\Hid (cG hH a5 K w' (·=(5,3)))/\Hid (∀k,w'.heap.size<=k->K k=hH k)) (λkey=>_) _;rotate_left 1
   ·refine bh (by kernel_rfl) (λw5 hb5=>?_);have a0:=ae hb5;clear hb5;refine jC (λV=>[RK.val (q,0),.val (q,0),.val (q,0),.val (q,2),.val (q,14),.val (.slice ta tl tc),.val (p,0),.val (p,0),.val (p,0),.val i,.val (nb,1),.val f,.val (nb,2),.val g,.val (.agg #[r,s]),.val (.agg #[i,f,g,r,s]),.val (V 16),.val (V 17),.val (q,0),.val (q,2),.val (q,14)]) [62,63,64,65,66,67,68,69,70,71,72,73,74,75,76,77,78,79,80,81,82] [16,17] (λj V w=>(j<=1->dd w5.heap.size w5 w)/\(1<=j->∃J,V 16= .slice (J,0) 1 1/\(j=1->w.heap[J]?=de (.cells (ee (⟨(i:Int),f,g,(r,s)⟩:vj)).toArray 137 (0,0))/\w5.heap.size<=J))/\(j=2->∃u x v K,V 17= .slice u x v/\ev K (5,3) 137 5 w (.slice u x v) (M.told++[(⟨(i:Int),f,g,(r,s)⟩:vj)]).length ((M.told++[(⟨(i:Int),f,g,(r,s)⟩:vj)]).flatMap ee)/\cG hH w5 K w (·=(5,3))/\(∀k,w.heap.size<=k->K k=hH k))) (λ_=>by kernel_rfl) (λ_ _=>by repeat first|exact .nil|refine .same ?_|refine .AK (by kernel_rfl) ?_) (λ_=>rfl) (λj V N hj P=>?_) ?_ ?_ ?_
    ·have X:=λh=>a0.o.t ((P.1 h).m a0.o.size);obtain rfl|rfl|rfl:j=0\/j=1\/j=2:=by have:j<=2:=hj;omega
     all_goals
      refine .run (by kernel_rfl) ?_;iterate 4 refine .run (by kernel_rfl) ?_
      first|refine jh (cZ (X (by omega)) (hF e9.o) n4.o) (by kernel_rfl) ?_|refine .skip ?_ (by kernel_rfl)
      iterate 3 refine .run (by kernel_rfl) ?_
      first|refine jh (cZ (X (by omega)) l3.o G0.o) (by kernel_rfl) ?_|refine .skip ?_ (by kernel_rfl)
      refine .run (by kernel_rfl) ?_;first|refine jh (cZ (X (by omega)) (hF a9.o) (ej a9.o 1 rfl)) (by kernel_rfl) ?_|refine .skip ?_ (by kernel_rfl)
      refine .run (by kernel_rfl) ?_;first|refine jh (cZ (X (by omega)) (hF a9.o) (ej a9.o 2 rfl)) (by kernel_rfl) ?_|refine .skip ?_ (by kernel_rfl)
      first|refine mf ⟨cZ (X (by omega)) (hF a6.o) (ej a6.o 0 rfl),cZ (X (by omega)) (hF a6.o) (ej a6.o 1 rfl),⟨⟩⟩ (by kernel_rfl) ?_|refine .skip ?_ (by kernel_rfl)
      refine .run (by kernel_rfl) ?_;refine .skip ?_;refine .skip ?_;iterate 3 refine .run (by kernel_rfl) ?_
      exact .nil
    ·intro t V N a L P U;obtain rfl|rfl:t=0\/t=1:=by have:t<2:=L;omega
     ·have hb:=P.1 (by omega);have u0:a.eval (.tmp 77)= .agg #[i,f,g,r,s]:=tE U (by kernel_rfl);rw[gm]at u0;refine jK rfl rfl (.slice (N.heap.size,0) 1 1) (w':=N.alloc (.cells (ee (⟨(i:Int),f,g,(r,s)⟩:vj)).toArray 137 (0,0))) ?_ ⟨_,rfl,λ_=>hb.alloc hb.size _,λ_=>⟨_,ar rfl,λ_=>⟨aL _ _,hb.size⟩⟩,λh=>by cases h⟩;simp[execOp,go_sem,u0]
      <;>rfl
     ·have hb:=P.1 (by omega);obtain⟨J,hv,hl⟩:=P.2.1 (by omega);obtain⟨n7,q2⟩:=hl rfl;have u0:a.eval (.tmp 67)= .slice ta tl tc:=tE U (by kernel_rfl);have o0:a.eval (.tmp 78)= .slice (J,0) 1 1:=(tE U (by kernel_rfl)).t hv;refine wpOp_step rfl (λK9 n5=>rQ rfl (.tmp 67) (.tmp 78) rfl (.slice ta tl tc) M.told J (⟨(i:Int),f,g,(r,s)⟩:vj) u0 o0 (m2.o N (a0.o.t (hb.m a0.o.size))) n7 m6.o (λu x v w8 o5 hr hn hh=>n5 _ _ ⟨_,rfl,λh=>absurd h (by omega),λ_=>⟨J,(ak (by decide)).t hv,λh=>by cases h⟩,λ_=>⟨u,x,v,o5,ar rfl,hr,(cG.below (T:=(·=(5,3))) hb).t hn,hh⟩⟩))
    ·intro V N a P U;obtain⟨J,hv,-⟩:=P.2.1 (by decide);obtain⟨u,x,v,f9,j6,hr,hn,hh⟩:=P.2.2 rfl;have k0:=hn.at ((a0.o.block q (hF e9.o)).t e9.o) (by rw[S.o.tw];decide);have d1:=(aR k0 14).t (show _=de (G.told)from rfl);have df:=aO k0;have e1:a.eval (.tmp 82)= (q,14):=tE U (by kernel_rfl);have e2:a.eval (.tmp 79)= .slice u x v:=(tE U (by kernel_rfl)).t j6;refine fh (λa8 w8 h8=>?_) (kq rfl rfl rfl 32 (.tmp 82) (.tmp 79) rfl e1 e2 (iG u x v d1 (df 14) (by kernel_rfl)));obtain⟨rfl,rfl⟩:=h8;subst U;simp only[eS,Act.put,aq,aF,aG];rw[hv,j6];exact key.o J u x v N f9 ⟨ae hr,ae ((cG.below a0.o).t hn),ae hh⟩
    ·exact⟨λ_=>aj _ _,λh=>absurd h (by decide),λh=>by cases h⟩
   rintro J u x v w' K ⟨c8,h7,c7⟩;generalize hW:World.setCell _ _ _=o6;obtain⟨f6,f1⟩:=S.o.CH c8.o h7.o c7.o;rw[hW]at f6 f1;have Y:M.fQ i (⟨l,f,g,m,n⟩,er)={M with told:=M.told++[(⟨(i:Int),f,g,(r,s)⟩:vj)]}:=by
    unfold aT.fQ;dsimp only;rw[ar HU.o,ak (by rw[R.o];simp),ar a7.o,k6.o,m3.o]
   have HT:=ae (show aW hH W q G i (M.fQ i (⟨l,f,g,m,n⟩,er)) o6 from⟨K,{G with told:= .slice u x v},by rw[Y];exact f6,λ_=>rfl,(cG.below k3.o).t (f1.m (λt L=>by rcases L with rfl|rfl<;>decide))⟩);clear f6 f1 hW c8 h7 c7 Y;go_wp2_with fail
   first|refine mh rfl rfl ⟨rfl,?_⟩|refine jH rfl rfl ⟨rfl,?_⟩
   exact HT.o
  ·have a7:=ae d5;clear d5;have o1:decide (0<=px)=dT:=by rw[h9.o,tq];exact gE (by rw[HZ.o];exact a7.o)
   have b5:=Dp R4.o hi ⟨l,f,g,m,n⟩ l7.o;rw[<-a1.o]at b5;unfold ptr aQ at b5;dsimp only at b5;have k5:=ae b5;have p0:=ej F.o 0 rfl;have p1:=ej F.o 1 rfl;have p2:=ej F.o 2 rfl;have p3:=ej F.o 3 rfl;have p4:=ej F.o 4 rfl;clear b5;go_upto_region 9 with(go_at_call 52;refine k5.o.m ?_;rintro e w8 ⟨rfl,L⟩;have m4:=ae L;clear L)
   clear p0 p1 p2 p3 p4;obtain⟨e8,G1,r8,g8,n8⟩:=m4.o;obtain⟨E,f0⟩:=aK ((M.nd i).add ⟨l,f,g,m,n⟩);rw[<-f0]at r8;have d0:=(r8.nd i hi).dM;have f7:=(r8.nd i hi).pt.kl;have a3:=(r8.nd i hi).pt.mO;rw[g8 i,<-a1.o]at d0;rw[bf]at a3;obtain⟨wa,wc,c2,o2,q7⟩:=a3.shape;obtain⟨wl,f8⟩:=aK E.wait.length;rw[<-f8]at c2 o2;rw[c2]at a3;have i7:w8.cell? (p,53)=de (.slice wa wl wc):=(aR d0 53).t ((dj f7 1).t (by show de (G1.n i).mO=_;rw[c2]));have x8:=n8.at F.o (by rw[X6.o];decide);obtain⟨d,hd⟩:∃d,d=decide ((⟨l,f,g,m,n⟩:bk)∈E.wait):=⟨_,rfl⟩
   have b6:=λw (hb:dd w8.heap.size w8 w)=>uE (.slice wa wl wc) E.wait ⟨l,f,g,m,n⟩ w ((a3.cB (cG.below (T:=λ_=>False) hb) id).rd);rw[<-hd]at b6;unfold aQ at b6;dsimp only at b6;have l0:=ae b6;have HD:=ae hd;have h6:=ae f0;have R8:=ae r8;have G8:=ae g8;have N8:=ae ((cG.below (T:=λt=>t.1<6) B4.o).t n8);have c4:=ae d0;have m8:=ae a3;have p6:=ae f8;have z:=ae x8;have g4:=ae i7;have i3:=ae (show(aN i (G1.n i) ((M.aX i E).nd i))[53]?=de (.slice wa wl wc)from(dj f7 1).t (by show de (G1.n i).mO=de (.slice wa wl wc);rw[c2]));have o4:=od (hF c4.o) g4.o;have b0:=od (hF z.o) (ej z.o 0 rfl);have b1:=od (hF z.o) (ej z.o 1 rfl);have b2:=od (hF z.o) (ej z.o 2 rfl);have b3:=od (hF z.o) (ej z.o 3 rfl);have b4:=od (hF z.o) (ej z.o 4 rfl);have i2:=ae (show M.fQ i (⟨l,f,g,m,n⟩,er)=M.aX i {E with wait:=if(⟨l,f,g,m,n⟩:bk)∈E.wait then E.wait else E.wait++[⟨l,f,g,m,n⟩]} by
    unfold aT.fQ;dsimp only;rw[ar HU.o,ak (by rw[R.o];simp),ak a7.o,<-h6.o])
   clear d0 f7 a3 c2 f8 x8 hd b6 f0 r8 g8 n8 i7;refine ct (by kernel_rfl) (by kernel_rfl) ?_;repeat (go_big_quiet_step ((go_at_call 53;exact fD (l0.o _ (ox.kj _)))))
   refine IR λQ O=>?_;clear o4 b0 b1 b2 b3 b4;cases d with
   |true=>
    have HT:=ae (show aW hH W q G i (M.fQ i (⟨l,f,g,m,n⟩,er)) Q from⟨e8,G1,by
     rw[i2.o,ar (fF HD.o.symm)];exact R8.o.below O.o,G8.o,N8.o.t (cG.below O.o)⟩)
    go_wp2_with fail
    first|refine mh rfl rfl ⟨rfl,?_⟩|refine jH rfl rfl ⟨rfl,?_⟩
    exact HT.o
   |false=>
    have l8:=ae (R8.o.below O.o);have XA:=ae ((O.o.block nb (hF z.o)).t z.o);have f2:=(O.o.block p (hF c4.o)).t c4.o;have k7:=ae f2;have q0:=cZ O.o (hF c4.o) g4.o;have q1:∀o,(Q.alloc o).cell? (p,53)=de (.slice wa wl wc):=gV f2 53 i3.o;have y0:=ej XA.o 0 rfl;have y1:=ej XA.o 1 rfl;have y2:=ej XA.o 2 rfl;have y3:=ej XA.o 3 rfl;have y4:=ej XA.o 4 rfl;have nx:∀o,cG e8 Q e8 (Q.drew.alloc o) (λ_=>False):=λo=>cG.below ((aj Q.heap.size Q).drew.alloc (ag _) o);have NX:=ae nx;have m1:=ae (λo=>(m8.o.cB (cG.below (T:=λ_=>False) O.o) id).cB (nx o) id);have j7:e8 p=(i,0):=by rw[a1.o,<-G8.o i];exact(R8.o.nd i hi).tb
    have m5:=ae j7;have m9:=ae (show E.wait.length<1000000000000 by rw[h6.o,(mj _ _).2.2.1];exact n0.o);clear f2 nx j7;go_upto_region 10 with fail
    go_region_law (first
     |(refine qY rfl (.tmp 97) (.tmp 99) rfl (.slice wa wl wc) E.wait Q.heap.size ⟨l,f,g,m,n⟩ rfl rfl (m1.o _) (aL Q.drew _) m9.o ?_;intro u x v w' K j5 f4 j1;have xw:=f4.at (NX.o _|>.at k7.o id) (by rw[m5.o];simp);have d1:=(aR xw 53).t i3.o;have df:=aO xw;have XW:=ae xw;have c8:=ae j5;have l4:=ae (((NX.o _).m (λ_ h=>h.elim)).t f4);have c7:=ae j1;clear xw j5 f4 j1))
    all_goals (
     go_wp2_with fail
     first|refine mh rfl rfl ⟨rfl,?_⟩|refine jH rfl rfl ⟨rfl,?_⟩
     have Y:=i2.o;rw[ak (fY HD.o.symm)]at Y;rw[Y];have L:=l8.o.FA hi l4.o c7.o c8.o;rw[G8.o i,<-a1.o,eU,bf]at L;obtain⟨f9,G9,r9,g9,n9⟩:=L;exact⟨f9,G9,r9,λj=>(g9 j).t (G8.o j),(N8.o.t (cG.below O.o)).t n9⟩)
 ·have R:=ae d3;clear d3;have n6:(er !=0)=dE:=by rw[eP];exact R.o
  have q5:=cZ B.o (hF c5.o) E0.o;have Z:=R2.o.dM;obtain⟨bi,d2⟩:=aK (M.bad.getD i 0);have X:w2.cell? (q,9+i)=bi:=(aR Z (9+i)).t (by
   have hc:i=0\/i=1\/i=2\/i=3\/i=4:=by omega
   rw[d2];rcases hc with rfl|rfl|rfl|rfl|rfl<;>rfl)
  have p7:=aO Z;have p9:(i:Int)<5:=by omega
  have p8:(0:Int)<=(i:Int):=by omega
  have q6:wrap64 (bi+1)=bi+1:=by
   have:=k8.o;rw[<-d2]at this;unfold wrap64;omega
  have k9:=ae d2;clear Z d2;go_upto_region 3 with fail
  go_region
  go_wp2_with fail
  first|refine mh rfl rfl ⟨rfl,?_⟩|refine jH rfl rfl ⟨rfl,?_⟩
  have Y:M.fQ i (⟨l,f,g,m,n⟩,er)={M with bad:=M.bad.set i (bi+1)}:=by
   unfold aT.fQ;dsimp only;rw[ar HU.o,ar R.o,<-k9.o]
  rw[Y];exact((R2.o.below (aj w2.heap.size w2).drew).Mh hi H5.o (bi+1)).pre (B.o.t ((aj w2.heap.size w2).drew.m B.o.size))
theorem yZ{hH:bI}{W:ax}{a i:Nat}{G:Gh}{M:aT}(h:dB hH W a G M)(hi:i<5)(c:Option Addr)(f d:Nat)(o:bk×Int)(hu:(M.nd i).up=dT):
  bl ed 30 #[ptr a,ptr (G.n i).b,.slice c f d] W λe m=>e= .returned (.tuple #[])/\aW hH W a G i (M.fQ i o) m:=by
 obtain⟨g,j⟩:=aK ((G.n i).b);have b:=(h.nd i hi).dM;rw[<-j]at b|-;have e1:W.cell? (g,1)=de (.bool dT):=(aR b 1).t (by show de (Value.bool (M.nd i).up)=_;rw[hu]);have k:M.fQ i o=M:=by unfold aT.fQ;dsimp only;rw[if_neg (by rw[hu];decide)]
 have l:=ae (show aW hH W a G i (M.fQ i o) W by rw[k];exact⟨hH,G,h,λ_=>rfl,cG.refl _ _ _⟩);show bl ed 30 #[.pointer (de ⟨a,0,dl⟩),.pointer (de ⟨g,0,dl⟩),.slice c f d] W _;clear h j b hu k;go_enter func30,ntmps30
 go_wp2_with fail
 first|refine mh rfl rfl ⟨rfl,?_⟩|refine jH rfl rfl ⟨rfl,?_⟩
 exact l.o
theorem AS{hH:bI}{W:ax}{a i:Nat}{G:Gh}{M:aT}(h:dB hH W a G M)(hi:i<5)(dv:bd)(D:List UInt8)(hd:Rd W dv D)(f:D.length<=2000)(h5:M.bad.length=5)(g:0<=M.bad.getD i 0/\M.bad.getD i 0<1000000000000)(k:M.told.length<1000000000000)(j:(M.nd i).queue.length<1000000000000)(l:(M.nd i).wait.length<1000000000000):
  bl ed 30 #[ptr a,ptr (G.n i).b,dv] W λe b=>e= .returned (.tuple #[])/\aW hH W a G i (M.fQ i (iD D ((M.nd i).log.length:Int))) b:=by
 cases hu:(M.nd i).up with
 |false=>
  obtain⟨c,d,rfl,-,-⟩:=hd.slice;exact yZ h hi c D.length d _ hu
 |true=>
  exact DK h hi dv D hd f hu h5 g k j l
end Go.Proofs.YtcdmenphjilnnaaGreatDoor
