/-
  TopDown holds: for every input the law returns true, and its input reads as it did.
-/
import Derived.Test.YtcdmenphjilnnaaGreatDoorM30
import Derived.DeepKeys
import Derived.Stop.LaidErr
import Derived.Test.YtcdmenphjilnnaaGreatDoorTie
import Derived.Test.YtcdmenphjilnnaaGreatDoorCards
set_option linter.unusedVariables false
set_option linter.unusedSimpArgs false
set_option maxRecDepth 100000
set_option maxHeartbeats 4000000
open Go.Proofs.Tryz
open Go renaming World->ax,Value->bd,Calls->bl
open Go.RowKit renaming Below->dd
open Option renaming some->de,none->dl
open Bool renaming true->dE,false->dT
open Go.Proofs.Tryz renaming prog->ed
namespace Go.Proofs.YtcdmenphjilnnaaGreatDoor
open Go.RowKit Go.Con
set_option maxHeartbeats 400000
theorem rdK_at{w w':ax}{i:Option Addr}{n c:Nat}{l:List mE}(h:lm w (.slice i n c) l)(hb:dd w.heap.size w w'){k:Nat}(hk:k<n):∃a d,i=(a,d)/\a<w.heap.size/\w'.cell? (a,d+k*5)=(l.getD k mE.zero).k/\w'.cell? (a,d+k*5+1)=(l.getD k mE.zero).n:=by
 obtain⟨a',m,h0,h1,h2,h3⟩:=h.1;injection h0 with e1 e2 e3;subst e1 e3;have j:l≠[]:=λe=>by rw[e]at e2;simp at e2;omega
 obtain⟨b,off,rfl,f,hc⟩:=h3 j;have g:k<l.length:=by omega
 refine⟨b,off,rfl,f,?_,?_⟩
 ·have h:=hc k g 0 (by omega);exact(hb.cell (p:=(b,off+k*5)) f).t (by rw[<-show off+(5*k+0)=off+k*5 by omega];exact h)
 ·have h:=hc k g 1 (by omega);exact(hb.cell (p:=(b,off+k*5+1)) f).t (by rw[<-show off+(5*k+1)=off+k*5+1 by omega];exact h)
theorem runX_grows{l:List mE}(h:oP l){i:Nat}(hi:i<l.length):nJ (ow (l.take i)) (ow (l.take (i+1))) (Mj (l.getD i mE.zero)):=by
 have hS:=FV h.1 (λx hx=>yl (h.2 x hx)) i;obtain⟨S,a⟩:=hS.inv;have hx:l.getD i mE.zero∈l:=by rw[au,aC hi];exact dW _
 rw[DR hi];exact Fk (pY l) a (Dk (yl (h.2 _ hx)) hx) hS.Oc
def OwnX(w:ax)(base:Nat)(v:bd)(l:List mE):Prop:=w.ownsRow base 26 5 v l.length (l.flatMap vg)
theorem OwnX.row{w:ax}{base:Nat}{v:bd}{l:List mE}(h:OwnX w base v l):gN 5 vg mE.zero w v l:=gN.zB (λ_=>rfl) h
theorem infoActT:(prog.info? 26).map (λi=>(i.zero,i.size,i.bytes))=de (de (.agg #[(0:Int),(0:Int),(0:Int),(0:Int),.slice dl 0 0]),5,56):=by kernel_rfl
theorem rowX_cells{w:ax}{ea:Option Addr}{k c:Nat}{m:List mE}(h:gN 5 vg mE.zero w (.slice ea k c) m)(ad:Addr)(he:ea=de ad):∀j u,(m.flatMap vg)[j]?=de u->w.cell? (ad.add j)=de u:=by
 intro j u hu;obtain⟨hk,e,a⟩:=h.cells;have hj:j<m.length*5:=by
  have:=(cX.1 hu).1;rwa[fg vg 5 (λ_=>rfl)]at this
 obtain⟨b,off,d,-,hc⟩:=a (j/5) (by omega);obtain rfl:=fT (he.symm.t d);have h2:=hc (j%5) (fm _ (by decide));have h3:=iN vg mE.zero 5 (λ_=>rfl) m (j/5) (by omega) (j%5) (fm _ (by decide));rw[Nat.div_add_mod]at h2 h3;rw[gY];exact h2.t (h3.symm.t hu)
theorem rowX_lit{w:ax}{g:Nat}{m:List mE}{t:TypeId}{f:Nat×Nat}(h:w.heap[g]?=de (.cells (m.flatMap vg).toArray t f))(hm:m.length<=1000):gN 5 vg mE.zero w (.slice (g,0) m.length m.length) m:=by
 refine⟨_,_,rfl,Nat.le_refl _,by unfold maxLen;omega,λ_=>⟨g,0,rfl,hF h,λi hi j hj=>?_⟩⟩;rw[<-iN vg mE.zero 5 (λ_=>rfl) m i hi j hj,ca];simp[World.cell?,h]
section
variable{ops:Array Oper}{rest:List Oper}{o:Oper}{a:Act}{Q:Exit->Act->ax->Prop}{w:ax}
theorem apX(g:o.guard=dl)(s x:Operand)(ho:o.op= .call {callee:= .builtin .append,args:=#[s,x],argTypes:=#[27,27]})
  (base:Nat)(v:bd)(l m:List mE)(ea:Option Addr)(k c:Nat)(hs:a.eval s=v)(f:OwnX w base v l)(hx:a.eval x= .slice ea k c)(j:gN 5 vg mE.zero w (.slice ea k c) m)(r:ea=dl->c=0)(t:∀x∈m,x.dv.oneCell'=dE)(hlen:l.length+m.length<=1000000)(n:base<=w.heap.size)
  (h:∀d w',OwnX w' base d (l++m)->w.grownBy w' v.ownBlock->(d.ownBlock=v.ownBlock\/d.ownBlock=de w.heap.size)->wpList ed ops Q rest (a.put o.dst d) w'):wpList ed ops Q (o::rest) a w:=by
 obtain⟨i,hi,z,y,hb⟩:=gD infoActT;obtain⟨hk,A,p⟩:=j.cells;cases ea with
 |none=>
  have q:k=0:=by
   rcases pj k with h|h
   ·exact h
   ·obtain⟨b,off,he,-⟩:=p 0 h;cases he
  have hm:m=[]:=bq (by omega);rw[q,r rfl]at hx;subst hm;refine mY g s x 27 ho base 26 i 5 Tryz.underlying27 hi v l.length _ hs f hx ?_;exact h v w (by simpa using f) ⟨rfl,rfl,rfl,ag _,λ_ _ _=>rfl⟩ (.inl rfl)
 |some ad=>
  refine wpList_append_own_at w g s x 27 ho base 26 i _ 5 56 Tryz.underlying27 hi z y hb rfl (by decide) v l.length (l.flatMap vg) hs f ad k c (m.flatMap vg) hx (by rw[fg vg 5 (λ_=>rfl),hk]) (rowX_cells j ad rfl) (λu hu=>by
   obtain⟨e,he,hu⟩:=List.mem_flatMap.1 hu;simp[vg]at hu;rcases hu with rfl|rfl|rfl|rfl|rfl
   ·rfl
   ·rfl
   ·rfl
   ·rfl
   ·exact t e he) (by unfold maxLen;omega) (by omega) n ?_
  intro d w' h1 h2 _ h4;refine h d w' ?_ h2 h4;unfold OwnX;rw[aD,dP,<-hk];exact h1
end
theorem putCs{w:ax}{b:Nat}{c d:Array bd}{t:TypeId}(h:w.heap[b]?=de (.cells c t (0,0)))(hs:d.size=c.size):(w.setCells b 0 d.toList).heap[b]?=de (.cells d t (0,0)):=by
 obtain⟨a,h1,h2,h3⟩:=eC b t (0,0) d.toList 0 c w h (by simp;omega);rw[h1];have e:a=d:=by
  apply Array.ext_getElem?;intro j;rw[h3 j];simp;intro hj;rw[Array.getElem?_eq_none (by omega),Array.getElem?_eq_none (by omega)]
 rw[e]
structure AllX(w:ax)(base:Nat)(v:bd)(l:List mE):Prop where
 hH:OwnX w base v l
 each:∀x∈l,Own w base x.dv x.d/\sM x=0
theorem typ_act8:(26:TypeId)≠5:=by decide
theorem AllX.Mo{w:ax}{base:Nat}{v:bd}{l:List mE}(h:AllX w base v l):lm w v l:=⟨h.hH.row,λx hx=>(h.each x hx).1.rd⟩
theorem AllX.nil(w:ax)(base:Nat):AllX w base (.slice dl 0 0) []:=⟨World.ownsRow_nil _ _ _ _,λx hx=>by cases hx⟩
theorem AllX.heap{w w':ax}{base:Nat}{v:bd}{l:List mE}(h:AllX w base v l)(a:∀k,base<=k->k<w.heap.size->w'.heap[k]?=w.heap[k]?):AllX w' base v l:=
 ⟨tQ h.hH (λk hk=>a k (lV h.hH k hk).1 (lV h.hH k hk).2),λx hx=>⟨Own.lE (h.each x hx).1 (λk hk=>a k (lV (h.each x hx).1 k hk).1 (lV (h.each x hx).1 k hk).2),(h.each x hx).2⟩⟩
theorem AllX.stay{w w':ax}{base:Nat}{v:bd}{l:List mE}(h:AllX w base v l)(hb:dd w.heap.size w w'):AllX w' base v l:=h.heap (λk _ hk=>hb.block k hk)
theorem AllX.m{w:ax}{base base':Nat}{v:bd}{l:List mE}(h:AllX w base v l)(hb:base'<=base):AllX w base' v l:=⟨zi h.hH hb,λx hx=>⟨(h.each x hx).1.m hb,(h.each x hx).2⟩⟩
theorem AllX.grown{w w':ax}{base:Nat}{v b:bd}{l m:List mE}(h:AllX w base v l)(j:OwnX w' base b (l++m))(hg:w.grownBy w' v.ownBlock)(hc:∀c∈m,Own w base c.dv c.d/\sM c=0):AllX w' base b (l++m):=by
 refine⟨j,λx hx=>?_⟩;have a:Own w base x.dv x.d/\sM x=0:=(dR.1 hx).elim (h.each x) (hc x);refine⟨Own.lE a.1 (λk hk=>?_),a.2⟩;refine hg.block k (lV a.1 k hk).2 (λe=>?_);obtain⟨-,h2⟩:=a.1;obtain⟨-,h3⟩:=id h.hH;rcases h2 with⟨h4,-⟩|⟨g,cap,o,h4,-,h5,-⟩
 ·rw[h4]at hk;cases hk
 ·rw[h4]at hk;have i:g=k:=fT hk;rcases h3 with⟨h6,-⟩|⟨g2,n,p,h6,-,d,-⟩
  ·rw[h6]at e;cases e
  ·rw[h6]at e;have f:k=g2:=fT e;rw[i,f,d]at h5;injection (fT h5)with q h9;exact typ_act8 h9
end Go.Proofs.YtcdmenphjilnnaaGreatDoor
namespace Go.Con
set_option maxHeartbeats 4000000
theorem pick_nonneg(n m:Int)(h:0<m):0<=pick n m:=Int.emod_nonneg _ (by omega)
theorem pick_lt(n m:Int)(h:0<m):pick n m<m:=Int.emod_lt_of_pos _ h
end Go.Con
namespace Go.Proofs.YtcdmenphjilnnaaGreatDoor
open Go.RowKit Go.Con
set_option maxHeartbeats 4000000
theorem ret_int{k:IntKind}{a b:Int}(h:a=b):Ending.returned (.int k a)= .returned (.int k b):=by rw[h]
end Go.Proofs.YtcdmenphjilnnaaGreatDoor
namespace Go.Con.Cha
set_option maxHeartbeats 4000000
theorem mix_length(key:List UInt8)(c:Nat)(a data:List UInt8):(KR key c a data).length=data.length:=by simp[KR]
end Go.Con.Cha
namespace Go.Proofs.YtcdmenphjilnnaaGreatDoor
open Go.RowKit Go.Con
set_option maxHeartbeats 4000000
theorem picked_any(n m:Int)(w:ax)(h1:-9223372036854775808<=n)(h2:n<=9223372036854775807)(h3:0<m):
  bl ed 14 #[n,m] w λe w'=>e= .returned (pick n m)/\w=w':=by
 by_cases a:n<0
 ·go_enter func14,ntmps14
  go_wp2
  go_ret
  exact⟨ret_int (by rw[pick,ar a,<-Int.neg_tmod,Int.tmod_eq_emod_of_nonneg (by omega)]),rfl⟩
 ·go_enter func14,ntmps14
  go_wp2
  go_ret
  exact⟨ret_int (by rw[pick,ak (by omega)]),rfl⟩
end Go.Proofs.YtcdmenphjilnnaaGreatDoor
namespace Go.Con
set_option maxHeartbeats 4000000
def cmdOf(x:bk):bk:=
 let k:=1+pick x.kind 5/2
 ⟨k,pick x.bD 4,pick x.seq 6,pick x.name 4,if k=1 then pick x.value 1000 else 0⟩
theorem cmdOf_check(x:bk):cS (cmdOf x)=0:=by
 have h1:=pick_nonneg x.kind 5 (by omega);have h2:=pick_lt x.kind 5 (by omega);have h3:=pick_nonneg x.bD 4 (by omega);have h4:=pick_lt x.bD 4 (by omega);have h5:=pick_nonneg x.seq 6 (by omega);have h6:=pick_lt x.seq 6 (by omega);have b:=pick_nonneg x.name 4 (by omega);have d:=pick_lt x.name 4 (by omega);have h9:=pick_nonneg x.value 1000 (by omega);have c:=pick_lt x.value 1000 (by omega);unfold cS;have hk:1<=(cmdOf x).kind/\(cmdOf x).kind<=3:=by simp only[cmdOf];omega
 rw[ak (by omega),ar hk];have hr:mI (cmdOf x)=dE:=by
  unfold mI;rw[ap];simp only[cmdOf];refine⟨h3,by omega,h5,by omega,b,by omega,?_⟩;split<;>omega
 rw[ak (by rw[hr];decide),ak];intro⟨a,hb⟩;apply hb;simp only[cmdOf]at a|-;rw[ak a]
end Go.Con
namespace Go.Proofs.YtcdmenphjilnnaaGreatDoor
open Go.RowKit Go.Con
set_option maxHeartbeats 4000000
theorem Command_any(x:bk)(w:ax)(hx:Mp x):
  bl ed 17 #[eG x] w λe w'=>e= .returned (eG (cmdOf x))/\dd w.heap.size w w':=by
 obtain⟨k,cl,c,b,d⟩:=x;obtain⟨⟨a1,a2⟩,⟨b1,b2⟩,⟨c1,l⟩,⟨d1,d2⟩,⟨e1,e2⟩⟩:=hx;dsimp only at a1 a2 b1 b2 c1 l d1 d2 e1 e2;have k0:=pick_nonneg k 5 (by omega);have k1:=pick_lt k 5 (by omega);have i:cmdOf ⟨k,cl,c,b,d⟩=⟨1+pick k 5/2,pick cl 4,pick c 6,pick b 4,if 1+pick k 5/2=1 then pick d 1000 else 0⟩:=rfl;have f:=ae i;have hq:IntKind.i64.wrap ((pick k 5).tdiv 2)=pick k 5/2:=by rw[Int.tdiv_eq_ediv_of_nonneg k0];exact IntWalk.i64_in _ (by omega)
 obtain⟨q,j⟩:=aK (pick k 5/2);have n:0<=q:=by omega
 have o:q<=2:=by omega
 rw[<-j]at hq f;clear i j k0 k1;obtain⟨r,hr⟩:∃r:Int,r=if 1+q=1 then pick d 1000 else 0:=⟨_,rfl⟩
 rw[f.o,<-hr];have h:=ae hr;clear f hr;unfold eG;dsimp only;go_enter func17,ntmps17
 go_wp2
 go_region_held3 (λw'=>w'.cell? (w.heap.size,0)=k/\w'.cell? (w.heap.size,1)=cl/\w'.cell? (w.heap.size,2)=c/\w'.cell? (w.heap.size,3)=b) (go_keep) (first|(go_at_call 14;refine(picked_any _ _ _ (by assumption) (by assumption) (by decide)).m ?_;rintro e w' ⟨rfl,rfl⟩))
 all_goals by_cases a:1+q=1
 all_goals first
  |(have m:(1+q==1)=dE:=by simpa using a
    have g:=ae a;clear a;go_wp2_with (go_at_call 14;refine(picked_any _ _ _ (by assumption) (by assumption) (by decide)).m ?_;rintro e w' ⟨rfl,rfl⟩)
    refine aH (v:= .agg #[(1+q:Int),(pick cl 4),(pick c 6),(pick b 4),(pick d 1000)]) ?_ rfl ⟨by rw[h.o,ar g.o],?_⟩
    ·simp[results,Tryz.results17,go_sem]
    ·exact below_drewN ((((aj _ _).alloc (ag _) _).alloc (by simp) _).alloc (by simp;omega) _) 1)
  |(have m:(1+q==1)=dT:=by simpa using a
    have g:=ae a;clear a;go_wp2
    refine aH (v:= .agg #[(1+q:Int),(pick cl 4),(pick c 6),(pick b 4),(0:Int)]) ?_ rfl ⟨by rw[h.o,ak g.o],?_⟩
    ·simp[results,Tryz.results17,go_sem]
    ·exact below_drewN ((((aj _ _).alloc (ag _) _).alloc (by simp) _).alloc (by simp;omega) _) 1)
theorem four4(n:Nat)(f:n<=1073741824)(W:ax)(a b c d:Int)(h0:a=(n:Int)/16777216)(h1:b=(n:Int)/65536%256)(h2:c=(n:Int)/256%256)(h3:d=(n:Int)%256):
  Own (W.alloc (.cells #[.int .u8 a,.int .u8 b,.int .u8 c,.int .u8 d] 5)) W.heap.size (.slice (W.heap.size,0) 4 4) [UInt8.ofNat (n/16777216),UInt8.ofNat (n/65536),UInt8.ofNat (n/256),UInt8.ofNat n]:=by
 have h:=xK W W.heap.size [UInt8.ofNat (n/16777216),UInt8.ofNat (n/65536),UInt8.ofNat (n/256),UInt8.ofNat n] 4 rfl (ag _) (by decide);have e:a=((UInt8.ofNat (n/16777216)).toNat:Int):=by rw[h0,bM];omega
 have e1:b=((UInt8.ofNat (n/65536)).toNat:Int):=by rw[h1,bM];omega
 have e2:c=((UInt8.ofNat (n/256)).toNat:Int):=by rw[h2,bM];omega
 have e3:d=((UInt8.ofNat n).toNat:Int):=by rw[h3,bM];omega
 rw[e,e1,e2,e3];exact h
def fourN(n:Nat):List UInt8:=[UInt8.ofNat (n/16777216),UInt8.ofNat (n/65536),UInt8.ofNat (n/256),UInt8.ofNat n]
theorem lineFour_any(n:Nat)(w:ax)(a:n<=1073741824):
  bl ed 45 #[n] w λe w'=>∃g,e= .returned (.slice (g,0) 4 4)/\w.heap.size<=g/\Own w' w.heap.size (.slice (g,0) 4 4) (fourN n)/\dd w.heap.size w w':=by
 go_enter func45,ntmps45
 go_wp2
 go_ret
 exact⟨_,rfl,ag _,four4 n a w _ _ _ _ (by first|rfl|omega) (by first|rfl|omega) (by first|rfl|omega) (by first|rfl|omega),(aj _ _).alloc (ag _) _⟩
end Go.Proofs.YtcdmenphjilnnaaGreatDoor
namespace Go.Con
set_option maxHeartbeats 4000000
def bodyB(t:T0k):List UInt8:=[UInt8.ofNat t.bD.toNat,UInt8.ofNat t.mS.toNat]++gx t.KH.toNat
theorem bodyB_length(t:T0k):(bodyB t).length=6:=rfl
theorem proofB_length(key body:List UInt8):(nS key body).length=16:=by rw[nS,aM,Sha.uw];rfl
def tokenB(key:List UInt8)(t:T0k):List UInt8:=bodyB t++nS key (bodyB t)
theorem tokenB_length(key:List UInt8)(t:T0k):(tokenB key t).length=22:=by rw[tokenB,aD,bodyB_length,proofB_length]
end Go.Con
namespace Go.Proofs.YtcdmenphjilnnaaGreatDoor
open Go.RowKit Go.Con
set_option maxHeartbeats 4000000
theorem newO2(W:ax)(base:Nat)(a b:Int)(b0 b1:UInt8)(h0:a=b0.toNat)(h1:b=b1.toNat)(hb:base<=W.heap.size):
  Own (W.alloc (.cells #[.int .u8 a,.int .u8 b] 5)) base (.slice (W.heap.size,0) 2 2) [b0,b1]:=by
 subst h0 h1;exact Own.newRow W base [b0,b1] 2 rfl hb (by decide)
theorem Grant_ok(K:bd)(k:List UInt8)(t:Con.T0k)(w:ax)(s:Rd w K k)(hkl:k.length=32)(H:t.Ok)(hk:Kn w):
  bl ed 23 #[K,ou t] w (KD w (tokenB k t) 0):=by
 obtain⟨a,c,rfl,a2,Z⟩:=s.fB 32 hkl;have Q:=ae s;have P:=ae hk;have m:=λw=>yU t w H;obtain⟨c0,c1,r0,r1,u0,u1⟩:=H;obtain⟨cl,r,u⟩:=t;dsimp only at c0 c1 r0 r1 u0 u1;unfold ou at m|-;dsimp only at m|-;have T:=ae m;have e1:cl=((UInt8.ofNat cl.toNat).toNat:Int):=by rw[bM];omega
 have e2:r=((UInt8.ofNat r.toNat).toNat:Int):=by rw[bM];omega
 have E:∀(W:ax) base,base<=W.heap.size->Own (W.alloc (.cells #[.int .u8 cl,.int .u8 r] 5)) base (.slice (de ⟨W.heap.size,0,dl⟩) 2 2) [UInt8.ofNat cl.toNat,UInt8.ofNat r.toNat]:=λW base hb=>
  newO2 W base cl r _ _ e1 e2 hb
 have R:=ae E;obtain⟨B,g⟩:=aK (bodyB ⟨cl,r,u⟩);have A:[UInt8.ofNat cl.toNat,UInt8.ofNat r.toNat]++gx u.toNat=B:=g.symm;have z:B.length=6:=by rw[g];rfl
 have N:=ae A;have f:=ae z;have I:tokenB k ⟨cl,r,u⟩=B++nS k B:=by rw[g];rfl
 rw[I];clear s hk m e1 e2 E g A z I;go_enter func23,ntmps23
 go_wp2_with fail
 refine(T.o _).m ?_;rintro e b ⟨rfl,i⟩;have s1:w.heap.size+1<=b.heap.size:=by simpa using i.size
 have q:=ae ((i.block w.heap.size (by simp)).t (aL w _));have M:=ae (((aj w.heap.size w).alloc (ag _) _).t (i.m (by simp)));have d0:=ej q.o 0 rfl;have d1:=ej q.o 1 rfl;have d2:∀o,(b.alloc o).cell? ⟨w.heap.size,2,dl⟩=de (.int .i64 u):=λo=>by
  rw[((aj b.heap.size b).alloc (ag _) o).cell (p:=⟨w.heap.size,2,dl⟩) (by show w.heap.size<_;omega)];exact ej q.o 2 rfl
 clear i;go_wp2_with fail
 refine(Hf _ _ u b.heap.size _ (R.o b b.heap.size (ag _)) (by simp) u0 (by simp)).m ?_;rintro e w2 ⟨v2,rfl,l,D⟩;rw[N.o]at l;obtain⟨g2,Y,J,a0,a1,V,a3⟩:=l.shape (by intro h;have:=f.o;rw[h]at this;cases this);rw[f.o]at J V;subst J;have y:=ae (((aj b.heap.size b).alloc (ag _) _).t ((D.m (B':=b.heap.size) (S':=λ_=>False) (by simp) (λk hk h=>absurd (show b.heap.size=k by simpa[Value.ownBlock]using h) (by omega))).below (λ_ _ h=>h)));have d:=ae (M.o.t (y.o.m (by omega)));have n:=ae l;clear l D d0 d1 d2;go_wp2_with fail
 refine(Eb _ _ k B _ (Q.o.stay d.o) n.o.rd (by omega) (by rw[f.o];decide) (P.o.stay d.o)).m ?_;rintro e w3 ⟨v3,rfl,G,X,j⟩;have U:=ae G;have v:=ae (d.o.t (j.m d.o.size));have x:=ae (n.o.below j (λk hk=>(n.o.lt k hk).2));have L:=v.o.size;have a4:b.heap.size<=w3.heap.size:=aE y.o.size j.size;clear G X j;go_wp2_with (at_builtin;refine uZ rfl (.tmp 26) (.tmp 29) rfl w.heap.size _ v3 B (nS k B) rfl (x.o.m (by omega)) rfl U.o (by rw[f.o,proofB_length];decide) L ?_;intro v4 w4 F C;have S:=ae F;have O:=ae C;clear F C)
 go_ret2
 exact⟨_,rfl,S.o,v.o.grown O.o L (λk hk=>by have:=(x.o.lt k hk).1;omega)⟩
end Go.Proofs.YtcdmenphjilnnaaGreatDoor
namespace Go.Con.Pol
set_option maxHeartbeats 4000000
theorem tag_length(key data:List UInt8):(tag key data).length=16:=jy _ _
end Go.Con.Pol
namespace Go.Con.Sea
set_option maxHeartbeats 4000000
theorem tag_length(key a known b:List UInt8):(tag key a known b).length=16:=Pol.tag_length _ _
def boxed(key a known plain:List UInt8):List UInt8:=Cha.KR key 1 a plain++tag key a known (Cha.KR key 1 a plain)
theorem boxed_length(key a known plain:List UInt8):(boxed key a known plain).length=plain.length+16:=by simp[boxed,Cha.mix_length,tag_length]
end Go.Con.Sea
namespace Go.Proofs.YtcdmenphjilnnaaGreatDoor
open Go.RowKit Go.Con
set_option maxHeartbeats 4000000
theorem Seal_ok(b c f pv:bd)(key a known plain:List UInt8)(w:ax)(hk:Rd w b key)(q:Rd w c a)(l:Rd w f known)(hp:Rd w pv plain)(hkl:key.length=32)(h:a.length=12)(u:known.length<=256)(hpl:plain.length<=2000):
  bl ed 46 #[b,c,f,pv] w (mM w (Sea.boxed key a known plain) 0):=by
 obtain⟨X,g⟩:=aK (Cha.KR key 1 a plain);have N:X.length=plain.length:=by rw[g];exact Cha.mix_length _ _ _ _
 have x:Sea.boxed key a known plain=X++Sea.tag key a known X:=by rw[g];rfl
 have p:=λb c pv w h1 h2 h3=>KA b c pv key a plain 1 1 w h1 h2 h3 hkl h (by decide) hpl rfl;rw[<-g]at p;have D:=λb c f O w h1 h2 h3 h4=>zg b c f O key a known X w h1 h2 h3 h4 hkl h u (by omega);obtain⟨n,z⟩:∃n,known.length=n:=⟨_,rfl⟩
 obtain⟨m,hm⟩:∃m,plain.length=m:=⟨_,rfl⟩
 obtain⟨P,ac,rfl,_,_⟩:=l.fB n z;obtain⟨pa,W,rfl,_,_⟩:=hp.fB m hm;have R:n<=256:=by omega
 have Q:m<=2000:=by omega
 obtain⟨S,T,rfl,_,_⟩:=hk.fB 32 hkl;obtain⟨U,V,rfl,_,_⟩:=q.fB 12 h;have s:=ae hk;have t:=ae q;have L:=ae l;have M:=ae hp;have I:=ae (show X.length<=2000 by omega);have F:=ae x;have G:=ae p;have H:=ae D;clear hk q l hp hkl h u hpl g N x p D z hm;go_enter func46,ntmps46
 go_wp2_with fail
 refine(xE _ _ _ _ _ _ _ _ n m 2000 _ (by omega) (by omega)).m ?_;rintro e _ ⟨rfl,rfl⟩;go_wp2_with fail
 refine(G.o _ _ _ _ s.o t.o M.o).m ?_;rintro e Y ⟨v1,rfl,A,v⟩;have d:=ae v;have i:=ae A;clear v A;go_wp2_with fail
 refine(H.o _ _ _ _ _ (s.o.stay d.o) (t.o.stay d.o) (L.o.stay d.o) i.o.rd).m ?_;rintro e Z ⟨v2,rfl,B,o⟩;have j:=ae (d.o.t (o.m d.o.size));have r:=ae (i.o.below o (λk hk=>(i.o.lt k hk).2));have J:=ae B;clear o B;go_wp2_with (at_builtin;refine uZ rfl (.tmp 28) (.tmp 33) rfl w.heap.size _ _ X _ rfl r.o rfl J.o.rd (by have:=I.o;rw[Sea.tag_length];omega) j.o.size ?_;intro v3 w3 C y;have K:=ae C;have E:=ae y;clear C y)
 have h3:=K.o;rw[<-F.o]at h3;go_ret2
 exact⟨_,rfl,h3,j.o.grown E.o j.o.size (λk hk=>(r.o.lt k hk).1)⟩
end Go.Proofs.YtcdmenphjilnnaaGreatDoor
namespace Go.Con
set_option maxHeartbeats 4000000
def recB(key:List UInt8)(s:Nat)(plain:List UInt8):List UInt8:=Go.Proofs.YtcdmenphjilnnaaGreatDoor.fourN s++Sea.boxed key (Go.Proofs.YtcdmenphjilnnaaGreatDoor.kr (Go.Proofs.YtcdmenphjilnnaaGreatDoor.fourN s)) (Go.Proofs.YtcdmenphjilnnaaGreatDoor.fourN s) plain
theorem recB_length(key:List UInt8)(s:Nat)(plain:List UInt8):(recB key s plain).length=plain.length+20:=by
 simp[recB,Sea.boxed_length,Go.Proofs.YtcdmenphjilnnaaGreatDoor.fourN]
end Go.Con
namespace Go.Proofs.YtcdmenphjilnnaaGreatDoor
open Go.RowKit Go.Con
set_option maxHeartbeats 4000000
theorem grown_other{w w':ax}{g n c b:Nat}{v:bd}{o:Obj}(h:w.grownBy w' v.ownBlock)(hv:v= .slice (g,0) n c)(a:g≠b)(ho:w.heap[b]?=de o):w'.heap[b]?=de o:=by
 subst hv;exact(h.block b (hF ho) (λe=>a (fT e).symm)).t ho
def SendPost(w:ax)(key:List UInt8)(s t:Nat)(f:Nat->Bool)(r:List UInt8)(e:Ending)(w':ax):Prop:=
 ∃a b,e= .returned (.tuple #[.agg (kS a (s:Nat) t f).toArray,b,(0:Int)])/\Own w' w.heap.size a key/\Own w' w.heap.size b r/\dd w.heap.size w w'
theorem Send_ok(a:Addr)(c:Nat)(pv:bd)(key plain:List UInt8)(s t:Nat)(f:Nat->Bool)(w:ax)(hv:Rd w (.slice (de a) 32 c) key)(hp:Rd w pv plain)(hkl:key.length=32)(hpl:plain.length<=2000)(hs:s<1073741824)(ht:t<=1073741824)(hf:qj t f):
  bl ed 27 #[.agg #[.slice (de a) 32 c,.int .i64 s,.int .i64 t,.bool (f 0),.bool (f 1),.bool (f 2),.bool (f 3),.bool (f 4),.bool (f 5),.bool (f 6),.bool (f 7)],pv] w (SendPost w key (s+1) t f (recB key s plain)):=by
 obtain⟨m,hm⟩:∃m,plain.length=m:=⟨_,rfl⟩
 obtain⟨pa,pc,rfl,_,_⟩:=hp.fB m hm;have i4:m<=2000:=by omega
 have c3:=λw=>qF (de a) c s t f w (by omega) ht hf;have b0:=ae c3;obtain⟨H,hH⟩:=aK (fourN s);obtain⟨N,C⟩:=aK (kr H);have hHl:H.length=4:=by rw[hH];rfl
 have b9:N.length=12:=by rw[C,hH];rfl
 obtain⟨X,D⟩:=aK (Sea.boxed key N H plain);have c2:X.length=m+16:=by rw[D,Sea.boxed_length,hm]
 have d7:recB key s plain=H++X:=by rw[recB,D,C,hH]
 have a8:=λz nv av pv w h1 h2 h3 h4=>Seal_ok z nv av pv key N H plain w h1 h2 h3 h4 hkl b9 (by omega) hpl;rw[<-D]at a8;have a5:=λw=>lineFour_any s w (by omega);rw[<-hH]at a5;have a6:=λv w h=>vG v H w h hHl;rw[<-C]at a6;rw[d7];have g2:∀(W:ax) (z:bd),(kS z ((s+1:Nat):Int) t f)=[z,.int .i64 ((s:Int)+1),.int .i64 t,.bool (f 0),.bool (f 1),.bool (f 2),.bool (f 3),.bool (f 4),.bool (f 5),.bool (f 6),.bool (f 7)]:=λ_ _=>rfl;unfold SendPost;unfold kS;obtain⟨f0,c4⟩:=aK (f 0);obtain⟨f1,c5⟩:=aK (f 1);obtain⟨f2,c6⟩:=aK (f 2);obtain⟨f3,c7⟩:=aK (f 3);obtain⟨f4,c8⟩:=aK (f 4);obtain⟨f5,c9⟩:=aK (f 5);obtain⟨f6,d0⟩:=aK (f 6);obtain⟨f7,d1⟩:=aK (f 7);rw[<-c4,<-c5,<-c6,<-c7,<-c8,<-c9,<-d0,<-d1]at b0|-;have HV:=ae hv;have HP:=ae hp;have R:=ae hkl;have e7:=ae a8;have e0:=ae a5;have e5:=ae a6;have e3:=ae hHl;have e9:=ae c2;have i1:decide ((2000:Int)<(m:Int))=dT:=by rw[ah];omega
 have i5:((s:Int)==1073741824)=dT:=by rw[aJ];omega
 clear hv hp hkl hpl hm c3 hH C hHl b9 D c2 d7 a8 a5 a6 g2 hf c4 c5 c6 c7 c8 c9 d0 d1;go_enter func27,ntmps27
 go_wp2_with fail
 refine(b0.o _).m ?_;rintro e I ⟨rfl,E⟩;have x1:=(E.block w.heap.size (by simp;omega)).t (gT w (.cells #[.slice (de a) 32 c,.int .i64 s,.int .i64 t,.bool f0,.bool f1,.bool f2,.bool f3,.bool f4,.bool f5,.bool f6,.bool f7] 94) _);have y1:=(E.block (w.heap.size+1) (by simp)).t (gl w _ (.cells #[.slice dl 0 0,.int .i64 0,.int .i64 0,.bool dT,.bool dT,.bool dT,.bool dT,.bool dT,.bool dT,.bool dT,.bool dT] 94));have b1:=(((aj w.heap.size w).alloc (ag _) _).alloc (by simp) _).t (E.m (by simp;omega));have z1:=hF y1;have X1:=ae x1;have Y1:=ae y1;have B1:=ae b1;have c1:=ej x1 1 rfl;clear E x1 y1 b1;go_wp2_with fail
 refine(e0.o _).m ?_;rintro e J ⟨g,rfl,hg,G,y⟩;have M:=(y.block w.heap.size (by omega)).t X1.o;have X2:=ae M;have Y2:=ae ((y.block (w.heap.size+1) z1).t Y1.o);have A:=ae (B1.o.t (y.m B1.o.size));have Z:=ae G.rd;have T:=ae G;have b5:=ae (HP.o.stay A.o);have a0:=ae (HV.o.stay A.o);have k0:=ej M 0 rfl;have s2:=y.size;have G2:=ae hg;have GL:=ae (G.lt g rfl).2;have S:=ae (hF M);clear y M G c1 X1 Y1;go_wp2_with fail
 go_region_held3 (λw'=>w'.cell? ⟨w.heap.size,0,dl⟩=de (.slice (de a) 32 c)) (first|exact k0|assumption) (first
  |(go_at_call 47;refine(e5.o _ _ (Z.o.drewN 1)).m ?_;rintro e w3 ⟨vn,rfl,d5,a3⟩;have b4:=ae d5.rd;have x:=ae a3;have k3:w3.cell? ⟨w.heap.size,0,dl⟩=de (.slice (de a) 32 c):=(a3.cell (p:=⟨w.heap.size,0,dl⟩) S.o).t k0;clear d5 a3)
  |(go_at_call 46;refine(e7.o _ _ _ _ _ ((a0.o.drewN 1).stay x.o) b4.o ((Z.o.drewN 1).stay x.o) ((b5.o.drewN 1).stay x.o)).m ?_;rintro e K ⟨vx,rfl,d6,a4⟩;have b3:=ae d6;have B4:=ae a4;have k4:K.cell? ⟨w.heap.size,0,dl⟩=de (.slice (de a) 32 c):=(a4.cell (p:=⟨w.heap.size,0,dl⟩) (ai S.o x.o.size)).t k3;clear d6 a4))
 have u:=ae (show dd J.heap.size J K from(below_drewN (aj J.heap.size J) 1).t (x.o.t (B4.o.m x.o.size)));have x4:=(u.o.block w.heap.size S.o).t X2.o;have y4:=(u.o.block (w.heap.size+1) (hF Y2.o)).t Y2.o;have hrg:=bu (cs:=[.slice (de a) 32 c,.int .i64 s,.int .i64 t,.bool f0,.bool f1,.bool f2,.bool f3,.bool f4,.bool f5,.bool f6,.bool f7]) x4;have Y4:=ae y4;have O:=ae (A.o.t (u.o.m A.o.size));have b6:=ae (a0.o.stay u.o);have U:=ae (T.o.below u.o (λk hk=>(T.o.lt k hk).2));have b7:=ae b3.o.rd;clear x4 y4 k0 k3 k4 b4 x B4 Z b5 a0 T b3;go_wp2_with (refine cM rfl 94 (.tmp 2) rfl w.heap.size 0 rfl [.slice (de a) 32 c,.int .i64 s,.int .i64 t,.bool f0,.bool f1,.bool f2,.bool f3,.bool f4,.bool f5,.bool f6,.bool f7] _ hrg Tryz.underlying94 rfl gz ?_)
 refine(JB a c key s t f0 f1 f2 f3 f4 f5 f6 f7 _ b6.o R.o).m ?_;rintro e L ⟨z,rfl,a7,hb5⟩;obtain⟨i,o,d2,_,_,_,_⟩:=a7.shape (by intro h;have:=R.o;rw[h]at this;cases this);rw[R.o]at d2;subst d2;have Y:=ae a7;have Q:=ae (O.o.t (hb5.m O.o.size));have a9:=ae hb5.size;have B:=ae ((hb5.block (w.heap.size+1) (hF Y4.o)).t Y4.o);have V:=ae (U.o.below hb5 (λk hk=>(U.o.lt k hk).2));have b8:=ae (b7.o.stay hb5);clear a7 hb5 hrg b7 U Y4 b6;go_wp2_with fail
 obtain⟨d,r⟩:∃d,d=L.alloc (.cells #[.slice (de ⟨i,0,dl⟩) 32 o,.int .i64 ((s:Int)+1),.int .i64 t,.bool f0,.bool f1,.bool f2,.bool f3,.bool f4,.bool f5,.bool f6,.bool f7] 94):=⟨_,rfl⟩
 rw[<-r];obtain⟨b,hb⟩:=aK L.heap.size;have i2:g<b:=by rw[hb];exact(V.o.lt g rfl).2
 have i6:w.heap.size+1<b:=by rw[hb];exact hF B.o
 have i3:w.heap.size+1<g:=by have:=G2.o;omega
 have l:d.heap[b]?=de (.cells [.slice (de ⟨i,0,dl⟩) 32 o,.int .i64 ((s:Int)+1),.int .i64 t,.bool f0,.bool f1,.bool f2,.bool f3,.bool f4,.bool f5,.bool f6,.bool f7].toArray 94 (0,0)):=by rw[r,hb];exact aL L _
 have y6:=(show d.heap[w.heap.size+1]?=L.heap[w.heap.size+1]? by rw[r];exact bC _ _ _ (hF B.o)).t B.o;have e8:=ae l;have f8:=ae y6;have hrg:=bu l;have B6:=ae (show dd w.heap.size w d by rw[r];exact Q.o.alloc Q.o.size _);have f9:=ae (show Own d I.heap.size (.slice (de ⟨g,0,dl⟩) 4 4) H by rw[r];exact V.o.alloc _);have g1:=ae (show Rd d vx X by rw[r];exact b8.o.alloc _);have g0:=ae (show Own d w.heap.size (.slice (de ⟨i,0,dl⟩) 32 o) key by rw[r];exact(Y.o.m O.o.size).alloc _);have KG:=ae (show K.heap.size<=i/\i<b by rw[hb];exact Y.o.lt i rfl);have b2:=ae (show g<K.heap.size from ai (GL.o) u.o.size);have d8:=ae (show g≠b by omega);have d9:=ae (show g≠w.heap.size+1 by omega);have d3:H.length+X.length<=140737488355328:=by rw[e3.o,e9.o];omega
 have e4:=ae d3;have e6:=ae (show I.heap.size<=d.heap.size from aE s2 (aE u.o.size (by rw[r];simp;have:=a9.o;omega)));have g4:I.heap.size<=d.heap.size:=aE s2 (aE u.o.size (by rw[r];simp;have:=a9.o;omega));have a1:d.cell? ⟨b,0,dl⟩=de (.slice (de ⟨i,0,dl⟩) 32 o)/\d.cell? ⟨b,1,dl⟩=de (.int .i64 ((s:Int)+1))/\d.cell? ⟨b,2,dl⟩=de (.int .i64 t)/\d.cell? ⟨b,3,dl⟩=de (.bool f0)/\d.cell? ⟨b,4,dl⟩=de (.bool f1)/\d.cell? ⟨b,5,dl⟩=de (.bool f2)/\d.cell? ⟨b,6,dl⟩=de (.bool f3)/\d.cell? ⟨b,7,dl⟩=de (.bool f4)/\d.cell? ⟨b,8,dl⟩=de (.bool f5)/\d.cell? ⟨b,9,dl⟩=de (.bool f6)/\d.cell? ⟨b,10,dl⟩=de (.bool f7):=⟨ej l 0 rfl,ej l 1 rfl,ej l 2 rfl,ej l 3 rfl,ej l 4 rfl,ej l 5 rfl,ej l 6 rfl,ej l 7 rfl,ej l 8 rfl,ej l 9 rfl,ej l 10 rfl⟩
 have c0:d.drew.cell? ⟨b,0,dl⟩=de (.slice (de ⟨i,0,dl⟩) 32 o)/\d.drew.cell? ⟨b,1,dl⟩=de (.int .i64 ((s:Int)+1))/\d.drew.cell? ⟨b,2,dl⟩=de (.int .i64 t)/\d.drew.cell? ⟨b,3,dl⟩=de (.bool f0)/\d.drew.cell? ⟨b,4,dl⟩=de (.bool f1)/\d.drew.cell? ⟨b,5,dl⟩=de (.bool f2)/\d.drew.cell? ⟨b,6,dl⟩=de (.bool f3)/\d.drew.cell? ⟨b,7,dl⟩=de (.bool f4)/\d.drew.cell? ⟨b,8,dl⟩=de (.bool f5)/\d.drew.cell? ⟨b,9,dl⟩=de (.bool f6)/\d.drew.cell? ⟨b,10,dl⟩=de (.bool f7):=a1;have g3:w.heap.size+1≠b:=by omega
 rw[<-hb];clear d3 g4 l y6 r hb B V b8 Y Q;go_region_held3 (λw'=>w'.cell? ⟨b,0,dl⟩=de (.slice (de ⟨i,0,dl⟩) 32 o)/\w'.cell? ⟨b,1,dl⟩=de (.int .i64 ((s:Int)+1))/\w'.cell? ⟨b,2,dl⟩=de (.int .i64 t)/\w'.cell? ⟨b,3,dl⟩=de (.bool f0)/\w'.cell? ⟨b,4,dl⟩=de (.bool f1)/\w'.cell? ⟨b,5,dl⟩=de (.bool f2)/\w'.cell? ⟨b,6,dl⟩=de (.bool f3)/\w'.cell? ⟨b,7,dl⟩=de (.bool f4)/\w'.cell? ⟨b,8,dl⟩=de (.bool f5)/\w'.cell? ⟨b,9,dl⟩=de (.bool f6)/\w'.cell? ⟨b,10,dl⟩=de (.bool f7)) (first|with_reducible exact a1|with_reducible exact c0|with_reducible exact a2|with_reducible exact LR g3 a2|with_reducible assumption) (first
  |(refine oC rfl (.tmp 49) (.tmp 50) rfl I.heap.size _ _ H X rfl (f9.o.drewN 1) rfl (g1.o.drewN 1) e4.o e6.o ?_;intro v7 j d4 F;have O7:=ae d4;have G7:=ae F;have q:=grown_other F rfl d8.o e8.o;have n:=grown_other F rfl d9.o f8.o;have a2:j.cell? ⟨b,0,dl⟩=de (.slice (de ⟨i,0,dl⟩) 32 o)/\j.cell? ⟨b,1,dl⟩=de (.int .i64 ((s:Int)+1))/\j.cell? ⟨b,2,dl⟩=de (.int .i64 t)/\j.cell? ⟨b,3,dl⟩=de (.bool f0)/\j.cell? ⟨b,4,dl⟩=de (.bool f1)/\j.cell? ⟨b,5,dl⟩=de (.bool f2)/\j.cell? ⟨b,6,dl⟩=de (.bool f3)/\j.cell? ⟨b,7,dl⟩=de (.bool f4)/\j.cell? ⟨b,8,dl⟩=de (.bool f5)/\j.cell? ⟨b,9,dl⟩=de (.bool f6)/\j.cell? ⟨b,10,dl⟩=de (.bool f7):=⟨ej q 0 rfl,ej q 1 rfl,ej q 2 rfl,ej q 3 rfl,ej q 4 rfl,ej q 5 rfl,ej q 6 rfl,ej q 7 rfl,ej q 8 rfl,ej q 9 rfl,ej q 10 rfl⟩;have g6:=ej n 0 rfl;have g7:=ej n 1 rfl;have g8:=ej n 2 rfl;have g9:=ej n 3 rfl;have h0:=ej n 4 rfl;have h5:=ej n 5 rfl;have h6:=ej n 6 rfl;have h7:=ej n 7 rfl;have h8:=ej n 8 rfl;have h9:=ej n 9 rfl;have i0:=ej n 10 rfl;have zf:=aO n;have Y7:=ae n;clear d4 F q n))
 clear a1 c0 a2 g6 g7 g8 g9 h0 h5 h6 h7 h8 h9 i0 zf;go_wp2_with fail
 have g5:=dI (vs:=[.slice (de ⟨i,0,dl⟩) 32 o,.int .i64 ((s:Int)+1),.int .i64 t,.bool f0,.bool f1,.bool f2,.bool f3,.bool f4,.bool f5,.bool f6,.bool f7]) Y7.o rfl;have hl:=aU (P:=ed) _ (w.heap.size+1) 0 94 _ _ (bu g5) Tryz.underlying94 rfl gz;have hB:dd w.heap.size w (j.setCells (w.heap.size+1) 0 [.slice (de ⟨i,0,dl⟩) 32 o,.int .i64 ((s:Int)+1),.int .i64 t,.bool f0,.bool f1,.bool f2,.bool f3,.bool f4,.bool f5,.bool f6,.bool f7]):=bp (by omega) _ _ _ ((below_drewN B6.o 1).grown G7.o B6.o.size (λk hk=>by have e:g=k:=fT hk;omega));have hK:Own (j.setCells (w.heap.size+1) 0 [.slice (de ⟨i,0,dl⟩) 32 o,.int .i64 ((s:Int)+1),.int .i64 t,.bool f0,.bool f1,.bool f2,.bool f3,.bool f4,.bool f5,.bool f6,.bool f7]) w.heap.size (.slice (de ⟨i,0,dl⟩) 32 o) key:=
  ((g0.o.drewN 1).kept G7.o (λk hk e=>by have e1:g=k:=fT hk;have e2:i=k:=fT e;have:=KG.o;have:=b2.o;omega)).ul (λk hk=>bE (by have e2:i=k:=fT hk;have:=KG.o;have:=b2.o;omega) _ _ _)
 have hR:Own (j.setCells (w.heap.size+1) 0 [.slice (de ⟨i,0,dl⟩) 32 o,.int .i64 ((s:Int)+1),.int .i64 t,.bool f0,.bool f1,.bool f2,.bool f3,.bool f4,.bool f5,.bool f6,.bool f7]) w.heap.size v7 (H++X):=
  (O7.o.ul (λk hk=>bE (by have:=(O7.o.lt k hk).1;omega) _ _ _)).m (by omega)
 exact aH (v:= .tuple #[.agg #[.slice (de ⟨i,0,dl⟩) 32 o,.int .i64 ((s:Int)+1),.int .i64 t,.bool f0,.bool f1,.bool f2,.bool f3,.bool f4,.bool f5,.bool f6,.bool f7],v7,.int .i64 0]) (fW Tryz.results27 rfl hl) rfl ⟨_,_,rfl,hK,hR,hB⟩
theorem Send_lit(a:Addr)(c:Nat)(pv:bd)(key plain r:List UInt8)(s t:Nat)(f:Nat->Bool)(w:ax)(hv:Rd w (.slice (de a) 32 c) key)(hp:Rd w pv plain)(hkl:key.length=32)(hpl:plain.length<=2000)(hs:s<1073741824)(m:t<=1073741824)(l:qj t f)(hr:recB key s plain=r):
  bl ed 27 #[.agg #[.slice (de a) 32 c,.int .i64 s,.int .i64 t,.bool (f 0),.bool (f 1),.bool (f 2),.bool (f 3),.bool (f 4),.bool (f 5),.bool (f 6),.bool (f 7)],pv] w λe w'=>∃d b g,e= .returned (.tuple #[.agg #[.slice (de ⟨d,0,dl⟩) 32 b,.int .i64 ((s:Int)+1),.int .i64 t,.bool (f 0),.bool (f 1),.bool (f 2),.bool (f 3),.bool (f 4),.bool (f 5),.bool (f 6),.bool (f 7)],g,.int .i64 0])/\Own w' w.heap.size (.slice (de ⟨d,0,dl⟩) 32 b) key/\Own w' w.heap.size g r/\dd w.heap.size w w':=by
 refine(Send_ok a c pv key plain s t f w hv hp hkl hpl hs m l).m ?_;rintro e w' ⟨n,g,rfl,j,k,hb⟩;obtain⟨d,b,i,_,_,_,_⟩:=j.shape (by intro h;rw[h]at hkl;cases hkl);rw[hkl]at i;subst i;rw[hr]at k;exact⟨d,b,g,rfl,j,k,hb⟩
theorem Nd.allocs{w:ax}(h:Nd w)(A:Obj):Nd (w.alloc A):=h.stay ((aj w.heap.size w).alloc (ag _) A)
end Go.Proofs.YtcdmenphjilnnaaGreatDoor
namespace Go.Con
open Go.Proofs.YtcdmenphjilnnaaGreatDoor
set_option maxHeartbeats 4000000
def packB(b:UInt8)(n:Nat)(t:Con.T0k)(c:bk):List UInt8:=[b]++recB (qH b) n (tokenB vJ t++pW c)
end Go.Con
namespace Go.Proofs.YtcdmenphjilnnaaGreatDoor
open Go.RowKit Go.Con
set_option maxHeartbeats 4000000
theorem Kn.allocs{w:ax}(h:Kn w)(A B:Obj):Kn ((w.alloc A).alloc B):=
 h.stay (((aj w.heap.size w).alloc (ag _) A).alloc (by simp) B)
theorem Pack_ok(n:Nat)(t:Con.T0k)(c:bk)(b:UInt8)(w:ax)(hn:n<1073741824)(ht:t.Ok)(hc:cS c=0)(hb:c.bD=b.toNat)(a1:b.toNat<=7)(hk:Kn w):
  bl ed 18 #[.int .i64 n,ou t,eG c] w (KD w (packB b n t c) 0):=by
 obtain⟨R,hR⟩:=aK (packB b n t c);rw[<-hR];obtain⟨P,X⟩:=aK (tokenB vJ t++pW c);obtain⟨Q,q⟩:=aK (recB (qH b) n P);have a7:R=[b]++Q:=by rw[hR,packB,<-X,<-q]
 obtain⟨N,D⟩:=aK (tokenB vJ t);obtain⟨K,C⟩:=aK (pW c);obtain⟨A,V⟩:=aK (qH b);have Y:P=N++K:=by rw[X,D,C]
 have a0:N.length=22:=by rw[D];exact tokenB_length _ _
 have U:K.length=20:=by rw[C];rfl
 have W:A.length=32:=by rw[V];exact iM _
 have Z:P.length=42:=by rw[Y,aD,a0,U]
 have u:=λv w h1 h2=>Grant_ok v vJ t w h1 zO ht h2;have s:=λw=>Ft c w hc;have a2:=λw hk=>Cx b w a1 hk;rw[<-D]at u;rw[<-C]at s;rw[<-V]at a2 q;have b7:∀(a:Addr) (c:Nat) (pv:bd) (w:ax),Rd w (.slice (de a) 32 c) A->Rd w pv P->bl ed 27 #[.agg #[.slice (de a) 32 c,.int .i64 n,.int .i64 0,.bool dT,.bool dT,.bool dT,.bool dT,.bool dT,.bool dT,.bool dT,.bool dT],pv] w λe w'=>∃H G x,e= .returned (.tuple #[.agg #[.slice (de ⟨H,0,dl⟩) 32 G,.int .i64 ((n:Int)+1),.int .i64 0,.bool dT,.bool dT,.bool dT,.bool dT,.bool dT,.bool dT,.bool dT,.bool dT],x,.int .i64 0])/\Own w' w.heap.size (.slice (de ⟨H,0,dl⟩) 32 G) A/\Own w' w.heap.size x Q/\dd w.heap.size w w':=λa c pv w h1 h2=>Send_lit a c pv A P Q n 0 (λ_=>dT) w h1 h2 W (by omega) hn (by decide) dB.none.ok q.symm;obtain⟨k,cl,sq,nm,vl⟩:=c;obtain⟨tc,j,l⟩:=t;dsimp only at hb;subst hb;unfold eG at s|-;unfold ou at u|-;dsimp only at s u|-;have a6:Q.length=62:=by rw[q,recB_length,Z]
 have d1:decide ((n:Int)<0)=dT:=by rw[ah];omega
 have d2:decide ((1073741824:Int)<=(n:Int))=dT:=by rw[ah];omega
 have c1:=ae u;have c0:=ae s;have c3:=ae a2;have c7:=ae b7;have c6:=ae a7;have c4:=ae Y;have c8:=ae a0;have b9:=ae U;have c2:=ae W;have d9:=ae Z;have c5:=ae a6;have HK:=ae hk;have b8:=ae a1;clear hR X q a7 D C V Y a0 U W Z u s a2 b7 ht hc hk a6 a1;go_enter func18,ntmps18
 go_wp2_with fail
 generalize d:World.alloc _ _=z;have y:z.heap[w.heap.size]?=de (.cells #[.int .i64 tc,.int .i64 j,.int .i64 l] 58 (0,0)):=by rw[<-d];exact gT _ _ _
 have x1:z.heap[w.heap.size+1]?=de (.cells #[.int .i64 k,.int .i64 b.toNat,.int .i64 sq,.int .i64 nm,.int .i64 vl] 54 (0,0)):=by rw[<-d];exact gl _ _ _
 have kz:Kn z:=by rw[<-d];exact HK.o.allocs _ _
 have yz:dd w.heap.size w z:=by rw[<-d];exact((aj _ _).alloc (ag _) _).alloc (by simp) _
 have B:=ae y;have O:=ae x1;have KZ:=ae kz;have T:=ae yz;have S0:z.cell? ⟨w.heap.size,0,dl⟩=de (.int .i64 tc)/\z.cell? ⟨w.heap.size,1,dl⟩=de (.int .i64 j)/\z.cell? ⟨w.heap.size,2,dl⟩=de (.int .i64 l):=⟨ej y 0 rfl,ej y 1 rfl,ej y 2 rfl⟩
 have a5:z.drew.cell? ⟨w.heap.size,0,dl⟩=de (.int .i64 tc)/\z.drew.cell? ⟨w.heap.size,1,dl⟩=de (.int .i64 j)/\z.drew.cell? ⟨w.heap.size,2,dl⟩=de (.int .i64 l):=S0;have c9:=ae (show Kn z.drew from kz);clear d y x1 kz yz;go_region_held3 (λw'=>w'.cell? ⟨w.heap.size,0,dl⟩=de (.int .i64 tc)/\w'.cell? ⟨w.heap.size,1,dl⟩=de (.int .i64 j)/\w'.cell? ⟨w.heap.size,2,dl⟩=de (.int .i64 l)) (first|with_reducible exact a5|with_reducible exact S1|with_reducible exact S2) (first
  |(go_at_call 24;refine(vw _ c9.o).m ?_;rintro e v1 ⟨vi,rfl,b6,d5,a8⟩;have RI:=ae b6;have o:=ae (show dd z.heap.size z v1 from(aj _ _).drew.t a8);have K1:=ae (KZ.o.stay o.o);have f:=(o.o.block w.heap.size (hF B.o)).t B.o;have S1:v1.cell? ⟨w.heap.size,0,dl⟩=de (.int .i64 tc)/\v1.cell? ⟨w.heap.size,1,dl⟩=de (.int .i64 j)/\v1.cell? ⟨w.heap.size,2,dl⟩=de (.int .i64 l):=⟨ej f 0 rfl,ej f 1 rfl,ej f 2 rfl⟩;clear b6 d5 a8 f)
  |(go_at_call 23;refine(c1.o _ _ RI.o K1.o).m ?_;rintro e v2 ⟨vg,rfl,b3,a9⟩;have p:=ae (show dd z.heap.size z v2 from o.o.t (a9.m o.o.size));have OG:=ae (b3.m o.o.size);have f:=(p.o.block w.heap.size (hF B.o)).t B.o;have S2:v2.cell? ⟨w.heap.size,0,dl⟩=de (.int .i64 tc)/\v2.cell? ⟨w.heap.size,1,dl⟩=de (.int .i64 j)/\v2.cell? ⟨w.heap.size,2,dl⟩=de (.int .i64 l):=⟨ej f 0 rfl,ej f 1 rfl,ej f 2 rfl⟩;clear b3 a9 f))
 have g:=(p.o.block (w.heap.size+1) (hF O.o)).t O.o;have g0:=ej g 0 rfl;have g1:=ej g 1 rfl;have g2:=ej g 2 rfl;have g3:=ej g 3 rfl;have g4:=ej g 4 rfl;have Y1:=ae g;have K2:=ae (KZ.o.stay p.o);have e3:(b.toNat:Int)<=7:=by have:=b8.o;omega
 have e0:(0:Int)<=(b.toNat:Int):=by omega
 clear S0 a5 S1 S2 g;go_wp2_with (first
  |(go_at_call 25;refine(c0.o _).m ?_;rintro e v3 ⟨ve,rfl,b2,i⟩;have OE:=ae b2;have L:=ae (OG.o.below i (λk hk=>(OG.o.lt k hk).2));have B3:=ae (p.o.t (i.m p.o.size));have K3:=ae (K2.o.stay i);have y3:=(i.block (w.heap.size+1) (hF Y1.o)).t Y1.o;have h1:v3.cell? ⟨w.heap.size+1,1,dl⟩=de (.int .i64 b.toNat):=ej y3 1 rfl;have Y3:=ae y3;have S3:=ae i.size;clear b2 i y3)
  |(go_at_call 26;refine(c3.o _ K3.o).m ?_;rintro e v4 ⟨vk,rfl,a4,b4,r⟩;obtain⟨kb,e4,G,d7,_,_⟩:=a4.gL 32 c2.o (by decide);subst d7;have RK:=ae a4;have KB:=ae (show v3.heap.size<=kb from b4 kb rfl);have M:=ae (L.o.below r (λk hk=>(L.o.lt k hk).2));have d0:=ae (OE.o.below r (λk hk=>(OE.o.lt k hk).2));have I:=ae (B3.o.t (r.m B3.o.size));have Y4:=ae ((r.block (w.heap.size+1) (hF Y3.o)).t Y3.o);clear a4 b4 r)
  |(at_builtin;refine uZ rfl (.tmp 51) (.tmp 52) rfl z.heap.size vg ve N K rfl M.o rfl d0.o.rd (by rw[c8.o,b9.o];decide) I.o.size ?_;intro v5 w5 a3 F;rw[<-c4.o]at a3;have O5:=ae a3;have d3:=ae (RK.o.grownBy F (λd4=>absurd (L.o.lt kb d4).2 (Nat.not_lt.2 KB.o)));have J:=ae (I.o.grown F I.o.size (λk hk=>(M.o.lt k hk).1));have Y5:=ae ((F.block (w.heap.size+1) (hF Y4.o) (λe=>absurd (M.o.lt _ e.symm).1 (Nat.not_le.2 (hF O.o)))).t Y4.o);clear a3 F))
 refine(c7.o _ G _ w5 d3.o O5.o.rd).m ?_;rintro e v6 ⟨H,d8,x,rfl,d6,b5,E⟩;have OR:=ae b5;have B6:=ae (J.o.t (E.m J.o.size));have S:=ae ((E.block (w.heap.size+1) (hF Y5.o)).t Y5.o);have S6:=ae (aE J.o.size E.size);clear d6 b5 E;go_wp2_with (first
  |(refine bz rfl 94 (.tmp 12) (.tmp 55) rfl v6.heap.size 0 #[.slice (de ⟨H,0,dl⟩) 32 d8,.int .i64 ((n:Int)+1),.int .i64 0,.bool dT,.bool dT,.bool dT,.bool dT,.bool dT,.bool dT,.bool dT,.bool dT] rfl rfl ?_ gz (jU _ _ _ _ _ _ _ _ _ _ _ rfl) ?_;(exact dr (aL v6 _) rfl);generalize d:World.setCells _ _ _ _=m;have OY:=ae (show Own m w5.heap.size x Q by rw[<-d];exact OR.o.ul (λk hk=>by have e1:=(OR.o.lt k hk).2;rw[bE (by omega),bC _ _ _ e1]));have h:=ae (show dd z.heap.size z m by rw[<-d];exact bp S6.o _ _ _ (B6.o.alloc S6.o _));have h2:m.cell? ⟨w.heap.size+1,1,dl⟩=de (.int .i64 b.toNat):=(by rw[<-d];exact ej ((bE (by have e1:=hF S.o;omega) _ _ _).t ((bC _ _ _ (hF S.o)).t S.o)) 1 rfl);clear d)
  |(at_builtin;refine uZ rfl (.tmp 61) (.tmp 62) rfl z.heap.size (.slice (de ⟨m.heap.size,0,dl⟩) 1 1) x [b] Q rfl (mF m _ _ b (by first|rfl|omega) h.o.size) rfl (OY.o.rd.alloc _) (by rw[c5.o];simp) (aE h.o.size (by simp)) ?_;intro v7 w7 b1 b0;have O7:=ae b1;have B7:=ae ((h.o.alloc h.o.size _).grown b0 (aE h.o.size (by simp)) (λk hk=>(by have e1:m.heap.size=k:=fT hk;have e2:=h.o.size;omega)));clear b1 b0))
 go_ret2
 refine⟨_,rfl,?_,?_⟩
 ·rw[c6.o];exact O7.o.m T.o.size
 ·exact T.o.t (B7.o.m T.o.size)
set_option maxHeartbeats 1000000
structure Gea where
 k:Int
 a:Int
 b:Int
 c:Int
 d:Int
def geaCells(g:Gea):List bd:=[g.k,g.a,g.b,g.c,g.d]
def geaV(g:Gea):bd:= .agg #[g.k,g.a,g.b,g.c,g.d]
def Gea.Ok(g:Gea):Prop:=Int64 g.k/\Int64 g.a/\Int64 g.b/\Int64 g.c/\Int64 g.d
theorem Own.front{w:ax}{base:Nat}{a:Option Addr}{n c:Nat}{l:List UInt8}(h:Own w base (.slice a n c) l)(m:Nat)(hm:m<=n)(j:0<m):Own w base (.slice a m c) (l.take m):=by
 obtain⟨h1,h2⟩:=h;rcases h2 with⟨h,h0⟩|⟨g,cap,d,e,hb,hg,k,f,i,b⟩
 ·injection h with e1 e2 e3;omega
 ·injection e with e1 e2 e3;have hlen:(l.take m).length=m:=by rw[aM];omega
  refine⟨by simp,.inr ⟨g,cap,d,by rw[hlen,e1,e3],hb,hg,by omega,f,i,?_⟩⟩;rw[hlen,Nat.mul_one];rw[Nat.mul_one]at b;rw[List.map_take,<-b,iS];congr 1;omega
theorem Picked_to(n m q:Int)(w:ax)(h1:-9223372036854775808<=n)(h2:n<=9223372036854775807)(h3:0<m)(hq:Hid (pick n m=q)):
  bl ed 7 #[n,m] w λe w'=>e= .returned q/\w=w':=by
 go_enter func7,ntmps7
 go_wp2_with (go_at_call 14;refine(picked_any n m _ h1 h2 h3).m ?_;rintro e _ ⟨rfl,rfl⟩)
 go_ret
 exact⟨by simpa using hq.o,rfl⟩
theorem tokOk3{c r:Int}(h:0<=c/\c<4)(hr:r=0\/r=7):Con.T0k.Ok ⟨c,r,60⟩:=⟨h.1,by show c<=7;omega,by show 0<=r;omega,by show r<=7;omega,by show(0:Int)<=60;decide,by show(60:Int)<=1048576;decide⟩
theorem gpS{w:ax}{h b a:Nat}{gk c i gc j tc f k cl e d g:Int}{t1 t2 t3:TypeId}(h1:w.heap[h]?=de (.cells #[gk,c,i,gc,j] t1 (0,0)))(h4:w.heap[b]?=de (.cells #[tc,f,(60:Int)] t2 (0,0)))(h3:w.heap[a]?=de (.cells #[k,cl,e,d,g] t3 (0,0))):w.cell? (h,1)=c/\w.cell? (b,0)=tc/\w.cell? (b,1)=f/\w.cell? (b,2)=(60:Int)/\w.cell? (a,0)=k/\w.cell? (a,1)=cl/\w.cell? (a,2)=e/\w.cell? (a,3)=d/\w.cell? (a,4)=g:=
 ⟨ej h1 1 rfl,ej h4 0 rfl,ej h4 1 rfl,ej h4 2 rfl,ej h3 0 rfl,ej h3 1 rfl,ej h3 2 rfl,ej h3 3 rfl,ej h3 4 rfl⟩
theorem packed_any(g:Gea)(W:ax)(hg:g.Ok)(hk:Kn W):
  bl ed 12 #[geaV g] W λe W'=>∃v D,e= .returned v/\Own W' W.heap.size v D/\D.length<=63/\dd W.heap.size W W':=by
 obtain⟨gk,j,s,gc,d⟩:=g;obtain⟨⟨a1,a2⟩,⟨b1,b2⟩,⟨c1,c2⟩,⟨d1,d2⟩,⟨e1,e2⟩⟩:=hg;unfold geaV;dsimp only at*;have z:=λW=>Command_any ⟨s,gc,d,j,d⟩ W ⟨⟨c1,c2⟩,⟨d1,d2⟩,⟨e1,e2⟩,⟨b1,b2⟩,⟨e1,e2⟩⟩;have P:=cmdOf_check ⟨s,gc,d,j,d⟩;have Q:0<=(cmdOf ⟨s,gc,d,j,d⟩).bD/\(cmdOf ⟨s,gc,d,j,d⟩).bD<4:=⟨pick_nonneg gc 4 (by omega),pick_lt gc 4 (by omega)⟩
 obtain⟨c,hc⟩:=aK (cmdOf ⟨s,gc,d,j,d⟩);rw[<-hc]at z P Q;clear hc;obtain⟨b,hb⟩:∃b:UInt8,c.bD=b.toNat:=⟨UInt8.ofNat c.bD.toNat,by rw[bM];omega⟩
 have a6:b.toNat<=7:=by omega
 obtain⟨m,hm⟩:∃m:Nat,(m:Int)=pick j 1000:=⟨(pick j 1000).toNat,by have:=pick_nonneg j 1000 (by omega);omega⟩
 have a8:m<1073741824:=by have:=pick_lt j 1000 (by omega);omega
 have PM:=ae hm.symm;obtain⟨q,hq⟩:=aK (pick d 17);obtain⟨r,hr⟩:=aK (pick d 23);have PQ:=ae hq.symm;have PR:=ae hr.symm;have hpk:=λ(t:Con.T0k) W (ht:Con.T0k.Ok t) h=>(show∃R,R.length=63/\bl ed 18 #[m,ou t,eG c] W (KD W R 0)from⟨_,by
  rw[packB,aD,recB_length,aD,tokenB_length];rfl,Pack_ok m t c b W a8 ht P hb a6 h⟩)
 obtain⟨k,cl,Y,X,Z⟩:=c;unfold eG at z hpk;dsimp only at*;have b0:=ae z;have b3:=ae hpk;have HK:=ae hk;have a0:=ae Q;have b8:wrap64 (cl+1)=cl+1:=by unfold wrap64;omega
 have HY:=ae (show 0<=(cl+1).tmod 4/\(cl+1).tmod 4<4 by rw[Int.tmod_eq_emod_of_nonneg (by omega)];omega);clear P Q hb a6 hm a8 hq hr z hpk hk;go_enter func12,ntmps12
 go_upto_region 1 with fail
 generalize a:World.alloc _ _=w1;obtain⟨u,T⟩:=aK W.heap.size;have B1:=ae (gv a);have x:=ae (eZ a T);rw[<-T];clear a T;have g1:=ej x.o 1 rfl;have g2:=ej x.o 2 rfl;have g3:=ej x.o 3 rfl;have E:=ej x.o 4 rfl;go_upto_region 2 with(go_at_call 17;refine(b0.o _).m ?_;rintro e w2 ⟨rfl,hb⟩;have y:=ae hb;clear hb)
 generalize a:World.alloc _ _=w3;obtain⟨n,U⟩:=aK w2.heap.size;have H:=ae (B1.o.t ((y.o.t ((gv a).m y.o.size)).m B1.o.size));have B:=ae (eZ a U);have K:=ae (((y.o.t ((gv a).m y.o.size)).block u (hF x.o)).t x.o);rw[<-U];clear a U g1 g2 g3 E;have f1:=ej B.o 1 rfl;go_upto_region 3 with fail
 generalize a:World.alloc _ _=w4;obtain⟨o,G⟩:=aK w3.heap.size;have I:=ae (H.o.t ((gv a).m H.o.size));have p:=ae (eZ a G);have L:=ae (((gv a).block n (hF B.o)).t B.o);have C:=ae (((gv a).block u (hF K.o)).t K.o);have L4:=ae (show W.heap.size<=o by rw[G];exact H.o.size);have A:=ae (show u≠o/\n≠o by have h1:=hF K.o;have h2:=hF B.o;omega);rw[<-G];clear a G f1;have E:=ej C.o 4 rfl;have b4:q=15\/q=16\/((q==15)=dT/\(q==16)=dT):=by
  simp only[aJ,ne_eq];omega
 have t0:=ej p.o 0 rfl;have t1:=ej p.o 1 rfl;have t2:=ej p.o 2 rfl;have tf:=aO p.o;rcases b4 with rfl|rfl|⟨b5,b6⟩
 all_goals go_upto_region 8 with(go_at_call 7;refine(Picked_to _ _ _ _ (by assumption) (by assumption) (by decide) (by assumption)).m ?_;rintro e _ ⟨rfl,rfl⟩)
 all_goals first
  |(generalize a:World.setCell _ _ _=f;have M:Hid (∃tc l:Int,Con.T0k.Ok ⟨tc,l,60⟩/\f.heap[o]?=de (.cells #[tc,l,(60:Int)] 58 (0,0))):=ae ⟨cl,0,tokOk3 a0.o (.inl rfl),by rw[<-a];exact aB p.o _⟩;have i:=ae (show f.heap[u]?=de (.cells #[gk,j,s,gc,d] 43 (0,0))/\f.heap[n]?=de (.cells #[k,cl,Y,X,Z] 54 (0,0))/\dd W.heap.size W f by rw[<-a];exact⟨(aA _ _ A.o.1).t C.o,(aA _ _ A.o.2).t L.o,I.o.setCell L4.o _⟩);clear a)
  |(generalize a:World.setCell _ _ _=f;have M:Hid (∃tc l:Int,Con.T0k.Ok ⟨tc,l,60⟩/\f.heap[o]?=de (.cells #[tc,l,(60:Int)] 58 (0,0))):=ae ⟨(cl+1).tmod 4,7,tokOk3 HY.o (.inr rfl),by rw[<-a];exact aB p.o _⟩;have i:=ae (show f.heap[u]?=de (.cells #[gk,j,s,gc,d] 43 (0,0))/\f.heap[n]?=de (.cells #[k,cl,Y,X,Z] 54 (0,0))/\dd W.heap.size W f by rw[<-a];exact⟨(aA _ _ A.o.1).t C.o,(aA _ _ A.o.2).t L.o,I.o.setCell L4.o _⟩);clear a)
  |(obtain⟨f,rfl⟩:=aK w4;have M:Hid (∃tc l:Int,Con.T0k.Ok ⟨tc,l,60⟩/\f.heap[o]?=de (.cells #[tc,l,(60:Int)] 58 (0,0))):=ae ⟨cl,7,tokOk3 a0.o (.inr rfl),p.o⟩;have i:=ae (And.intro C.o (And.intro L.o I.o)))
 all_goals (
  clear E t0 t1 t2 tf;obtain⟨tc,l,a9,V⟩:=M.o;have X5:=ae V;have S0:=gpS (w:=f.drew) i.o.1 V i.o.2.1;obtain⟨R,a5,F⟩:=b3.o ⟨tc,l,60⟩ f.drew a9 (HK.o.stay (i.o.2.2.drew));unfold ou at F;dsimp only at F;have HC:=ae F;have J:=ae a5;clear F a5 a9 V;go_region_held3 (λw'=>w'.cell? (u,1)=j/\w'.cell? (o,0)=tc/\w'.cell? (o,1)=l/\w'.cell? (o,2)=(60:Int)/\w'.cell? (n,0)=k/\w'.cell? (n,1)=cl/\w'.cell? (n,2)=Y/\w'.cell? (n,3)=X/\w'.cell? (n,4)=Z) (first|with_reducible exact S0|with_reducible exact S1) (first
   |(go_at_call 7;refine(Picked_to _ _ _ _ (by assumption) (by assumption) (by decide) (by assumption)).m ?_;rintro e _ ⟨rfl,rfl⟩)
   |(go_at_call 18;refine HC.o.m ?_;rintro e w6 ⟨v,rfl,ho,hb⟩;have O6:=ae ho;have B6:=ae hb;have z1:=(hb.block u (hF i.o.1)).t i.o.1;have z4:=(hb.block o (hF X5.o)).t X5.o;have z3:=(hb.block n (hF i.o.2.1)).t i.o.2.1;have Q1:=ae z1;have S1:=gpS z1 z4 z3;obtain⟨g6,N,rfl,a7,-,O,S⟩:=ho.shape (λe=>by have:=J.o;rw[e]at this;cases this);have a3:=ae (And.intro a7 (And.intro O S));clear ho hb z1 z4 z3 a7 O S))
  all_goals (
   have a4:R.length=63:=J.o;rw[a4];have P6:Hid (Own w6 W.heap.size (.slice (g6,0) 63 N) R):=ae (by have h:=O6.o.m i.o.2.2.size;rw[a4]at h;exact h);clear S0 S1;have E:=ej Q1.o 4 rfl;have O:63<=N:=by have:=a3.o.2.1;rw[J.o]at this;exact this
   have S:N<=9223372036854775807:=a3.o.2.2;have B7:=ae (i.o.2.2.drew.t (B6.o.m i.o.2.2.size));by_cases hr:r=22
   ·subst hr;go_wp2_with (go_at_call 7;refine(Picked_to _ _ _ _ (by assumption) (by assumption) (by decide) (by assumption)).m ?_;rintro e _ ⟨rfl,rfl⟩)
    go_ret
    exact⟨_,R.take 30,rfl,P6.o.front 30 (by omega) (by omega),by simp;omega,B7.o⟩
   ·have b7:(r==22)=dT:=by rw[aJ];exact hr
    go_wp2_with (go_at_call 7;refine(Picked_to _ _ _ _ (by assumption) (by assumption) (by decide) (by assumption)).m ?_;rintro e _ ⟨rfl,rfl⟩)
    go_ret
    exact⟨_,R,rfl,P6.o,by omega,B7.o⟩))
theorem actSzT:(prog.info? 26).map (λx=>x.size)=de 5:=by kernel_rfl
theorem actOneT(k n a p:Int)(d:Option Addr)(m c:Nat):(#[k,n,a,p,.slice d m c]:Array bd).all (·.oneCell')=dE:=by
 simp;exact⟨rfl,rfl,rfl,rfl,rfl⟩
def ActPost(b:Bool)(W:ax)(e:Ending)(a:ax):Prop:=∃x:mE,e= .returned (.agg #[x.k,x.n,x.a,x.p,x.dv])/\sM x=0/\Own a W.heap.size x.dv x.d/\(b=dT->x.k≠8)/\dd W.heap.size W a
theorem chkX_bare{k n a p:Int}(h:(k=2\/k=3\/k=9)/\0<=n/\n<5/\a=0/\p=0\/(k=4\/k=5\/k=6)/\n=0/\0<=a/\a<20/\p=0\/k=7/\n=0/\a=0/\p=0\/k=8/\0<=n/\n<5/\a=0/\0<=p/\p<90):sM ⟨k,n,a,p,.slice dl 0 0,[]⟩=0:=by
 unfold sM;dsimp only;rw[ar (by omega)];rcases h with⟨rfl|rfl|rfl,h1,h2,rfl,rfl⟩|⟨rfl|rfl|rfl,rfl,h1,h2,rfl⟩|⟨rfl,rfl,rfl,rfl⟩|⟨rfl,h1,h2,rfl,h3,h4⟩
 all_goals (
  unfold kH;simp[slotsOf,nP,fP];try omega)
theorem postX{P:Program}{fn:Func}{b:Bool}{W:ax}{A B:Obj}{f:Act}{k n a p:Int}(hk:k≠8\/b=dE)(h:(k=2\/k=3\/k=9)/\0<=n/\n<5/\a=0/\p=0\/(k=4\/k=5\/k=6)/\n=0/\0<=a/\a<20/\p=0\/k=7/\n=0/\a=0/\p=0\/k=8/\0<=n/\n<5/\a=0/\0<=p/\p<90)(hr:(results fn f.tmps).run P ((W.alloc A).alloc B)= .ok (.agg #[k,n,a,p,.slice dl 0 0]) ((W.alloc A).alloc B))(hd:f.defers=[]):bodyPost P fn (ActPost b W) .ret f ((W.alloc A).alloc B):=
 aH hr hd ⟨⟨k,n,a,p,.slice dl 0 0,[]⟩,rfl,chkX_bare h,Own.nil _ _,λhb=>hk.resolve_right (by rw[hb];decide),((aj _ _).alloc (ag _) _).alloc (by simp) _⟩
theorem chkX_sub{n:Int}{d:List UInt8}{dv:bd}(h1:0<=n)(h2:n<5)(hd:d.length<=63):sM ⟨1,n,0,0,dv,d⟩=0:=by
 unfold sM;dsimp only;rw[ar (by omega)];unfold kH;simp[slotsOf,nP,fP];omega
theorem act_top(g:Gea)(b:Bool)(W:ax)(hg:g.Ok)(hk:Kn W):
  bl ed 15 #[geaV g,.bool b] W (ActPost b W):=by
 have M:=ae (λz (h:Kn z)=>packed_any g z hg h);obtain⟨gk,s,T,gc,U⟩:=g;obtain⟨⟨a1,a2⟩,⟨b1,b2⟩,⟨c1,c2⟩,⟨d1,d2⟩,⟨e1,e2⟩⟩:=hg;unfold geaV at*;dsimp only at*;obtain⟨q,hq⟩:=aK (pick gk 24);have I:=pick_nonneg gk 24 (by omega);have J:=pick_lt gk 24 (by omega);rw[<-hq]at I J;have Y:=ae hq.symm;obtain⟨n,u⟩:=aK (pick s 5);have n0:=pick_nonneg s 5 (by omega);have F:=pick_lt s 5 (by omega);rw[<-u]at n0 F;have V:=ae u.symm;obtain⟨t,x⟩:=aK (pick gc 20);have t0:=pick_nonneg gc 20 (by omega);have t1:=pick_lt gc 20 (by omega);rw[<-x]at t0 t1;have Z:=ae x.symm;obtain⟨p,hp⟩:=aK (pick gc 90);have G:=pick_nonneg gc 90 (by omega);have H:=pick_lt gc 90 (by omega);rw[<-hp]at G H;have X:=ae hp.symm;have w:=ae (show(0<=n/\n<5)/\(0<=t/\t<20)/\(0<=p/\p<90) by omega);have L:=ae hk;clear hq u x hp hk n0 F t0 t1 G H;have hc:decide (q<3)=dE\/(decide (q<3)=dT/\decide (q<5)=dE)\/(decide (q<3)=dT/\decide (q<5)=dT/\decide (q<14)=dE)\/q=14\/q=15\/q=16\/(q=17/\b=dE)\/(q=17/\b=dT)\/(q=18/\b=dE)\/(q=18/\b=dT)\/(decide (q<3)=dT/\decide (q<5)=dT/\decide (q<14)=dT/\(q==14)=dT/\(q==15)=dT/\(q==16)=dT/\(q==17)=dT/\(q==18)=dT):=by
  simp only[ap,ah,aJ,ne_eq];cases b<;>simp<;>omega
 clear I J;rcases hc with d3|⟨d3,d5⟩|⟨d3,d5,d6⟩|rfl|rfl|rfl|⟨rfl,rfl⟩|⟨rfl,rfl⟩|⟨rfl,rfl⟩|⟨rfl,rfl⟩|⟨d3,d5,d6,a5,a6,a7,a8,a9⟩
 ·go_enter func15,ntmps15
  go_upto_region 4 with(go_at_call 7;refine(Picked_to _ _ _ _ (by assumption) (by assumption) (by decide) (by assumption)).m ?_;rintro e _ ⟨rfl,rfl⟩)
  generalize c:World.alloc _ _=y;obtain⟨d,o⟩:=aK W.heap.size;have f:=ae (show y.heap[d]?=de (.cells #[gk,s,T,gc,U] 43 (0,0)) by rw[<-c,o];exact gT _ _ _);have i:=ae (show y.heap[d+1]?=de (.cells #[(0:Int),(0:Int),(0:Int),(0:Int),.slice dl 0 0] 26 (0,0)) by rw[<-c,o];exact gl _ _ _);have r:=ae (show dd W.heap.size W y by rw[<-c];exact((aj _ _).alloc (ag _) _).alloc (by simp) _);have N:=ae o;rw[<-o];clear c o;have Q:=ej f.o 0 rfl;have g1:=ej f.o 1 rfl;have g2:=ej f.o 2 rfl;have R:=ej f.o 3 rfl;have S:=ej f.o 4 rfl;go_wp2_with (first
   |(go_at_call 12;refine(M.o _ (L.o.stay r.o)).m ?_;rintro e z ⟨v,D,rfl,ho,E,hb⟩;obtain⟨l,m,rfl,-,-⟩:=ho.rd.slice;have C:=ae ho;have B:=ae hb;have DL:=ae E;have P:=ae (dr ((hb.block (d+1) (hF i.o)).t i.o) (rfl:_=5));clear ho hb E Q g1 g2 R S)
   |(refine bz rfl 26 (.tmp 4) (.tmp 19) rfl (d+1) 0 #[(1:Int),n,(0:Int),(0:Int),.slice l D.length m] rfl rfl P.o actSzT (actOneT _ _ _ _ _ _ _) ?_;generalize c:World.setCells _ _ _ _=A;have j:=ae (show A.heap[d+1]?=de (.cells #[(1:Int),n,(0:Int),(0:Int),.slice l D.length m] 26 (0,0)) by rw[<-c];exact putCs ((B.o.block (d+1) (hF i.o)).t i.o) rfl);have K:=ae (show dd W.heap.size W A by rw[<-c];exact bp (by rw[<-N.o];omega) _ _ _ (r.o.t (B.o.m r.o.size)));have O:=ae (show Own A W.heap.size (.slice l D.length m) D by rw[<-c];exact(Own.lE C.o (λk hk=>bE (by have:=(C.o.lt k hk).1;have:=hF i.o;omega) _ _ _)).m r.o.size);clear c))
  have a0:=ej j.o 0 rfl;have a1:=ej j.o 1 rfl;have a2:=ej j.o 2 rfl;have a3:=ej j.o 3 rfl;have a4:=ej j.o 4 rfl;refine aH (v:= .agg #[(1:Int),n,(0:Int),(0:Int),.slice l D.length m]) ?_ rfl ⟨⟨1,n,0,0,.slice l D.length m,D⟩,rfl,chkX_sub w.o.1.1 w.o.1.2 DL.o,O.o,λhb=>(by show(1:Int)≠8;decide),K.o⟩;simp[results,Tryz.results15,go_sem,a0,a1,a2,a3,a4]
 all_goals go_enter func15,ntmps15
 all_goals go_wp2_with (go_at_call 7;refine(Picked_to _ _ _ _ (by assumption) (by assumption) (by decide) (by assumption)).m ?_;rintro e _ ⟨rfl,rfl⟩)
 all_goals have u:=w.o
 ·exact postX (k:=2) (n:=n) (a:=0) (p:=0) (by simp) (by omega) (by simp[results,Tryz.results15,go_sem]) rfl
 ·exact postX (k:=3) (n:=n) (a:=0) (p:=0) (by simp) (by omega) (by simp[results,Tryz.results15,go_sem]) rfl
 ·exact postX (k:=4) (n:=0) (a:=t) (p:=0) (by simp) (by omega) (by simp[results,Tryz.results15,go_sem]) rfl
 ·exact postX (k:=5) (n:=0) (a:=t) (p:=0) (by simp) (by omega) (by simp[results,Tryz.results15,go_sem]) rfl
 ·exact postX (k:=6) (n:=0) (a:=t) (p:=0) (by simp) (by omega) (by simp[results,Tryz.results15,go_sem]) rfl
 ·exact postX (k:=8) (n:=n) (a:=0) (p:=p) (by simp) (by omega) (by simp[results,Tryz.results15,go_sem]) rfl
 ·exact postX (k:=7) (n:=0) (a:=0) (p:=0) (by simp) (by omega) (by simp[results,Tryz.results15,go_sem]) rfl
 ·exact postX (k:=9) (n:=n) (a:=0) (p:=0) (by simp) (by omega) (by simp[results,Tryz.results15,go_sem]) rfl
 ·exact postX (k:=7) (n:=0) (a:=0) (p:=0) (by simp) (by omega) (by simp[results,Tryz.results15,go_sem]) rfl
 ·exact postX (k:=7) (n:=0) (a:=0) (p:=0) (by simp) (by omega) (by simp[results,Tryz.results15,go_sem]) rfl
def Gea.zero:Gea:=⟨0,0,0,0,0⟩
def RdG(w:ax)(v:bd)(l:List Gea):Prop:=gN 5 geaCells Gea.zero w v l/\∀g∈l,g.Ok
theorem RdG.stay{w w':ax}{v:bd}{l:List Gea}(h:RdG w v l)(hb:dd w.heap.size w w'):RdG w' v l:=⟨h.1.stay hb,h.2⟩
theorem rdG_at{w w':ax}{d:Option Addr}{n c:Nat}{l:List Gea}(h:RdG w (.slice d n c) l)(hb:dd w.heap.size w w'){k:Nat}(hk:k<n):∃a b,d=de ⟨a,b,dl⟩/\∀q,q<5->w'.cell? ⟨a,b+k*5+q,dl⟩=(geaCells (l.getD k Gea.zero))[q]?:=by
 obtain⟨a,b,rfl,f,e⟩:=h.1.cells.2.2 k hk;refine⟨a,b,rfl,λq hq=>?_⟩;rw[<-e q hq,eJ,eI];exact aw (w:=w) (hb.block a f)
theorem cellsGe{w:ax}{b o:Nat}{g:Gea}(h:∀j,j<5->w.cell? (b,o+j)=(geaCells g)[j]?):w.cell? (b,o)=g.k/\w.cell? (b,o+1)=g.a/\w.cell? (b,o+2)=g.b/\w.cell? (b,o+3)=g.c/\w.cell? (b,o+4)=g.d:=
 ⟨h 0 (by decide),h 1 (by decide),h 2 (by decide),h 3 (by decide),h 4 (by decide)⟩
theorem OwnX.shape{w:ax}{base:Nat}{v:bd}{l:List mE}(h:OwnX w base v l):∃a n c,v= .slice a n c:=by
 obtain⟨-,h2⟩:=h;rcases h2 with⟨rfl,-⟩|⟨g,cap,b,rfl,-⟩
 ·exact⟨_,_,_,rfl⟩
 ·exact⟨_,_,_,rfl⟩
structure ScrI(W:ax)(b:Bool)(v:bd)(L:List mE)(k:Nat)(s:Int)(w:ax):Prop where
 all:AllX w W.heap.size v L
 len:L.length=k
 sent:0<=s/\s<=k
 no:b=dT->∀x∈L,x.k≠8
 below:dd W.heap.size W w
structure ScrX(W:ax)(b:Bool)(v:bd)(L:List mE)(k:Nat)(xb:Nat)(x:mE)(w:ax):Prop where
 cells:w.heap[xb]?=de (.cells #[.int .i64 x.k,.int .i64 x.n,.int .i64 x.a,.int .i64 x.p,x.dv] 26 (0,0))
 hH:Own w W.heap.size x.dv x.d
 chk:sM x=0
 no:b=dT->x.k≠8
 all:AllX w W.heap.size v L
 AI:b=dT->∀x∈L,x.k≠8
 below:dd W.heap.size W w
theorem ScrX.more{W:ax}{b:Bool}{v e:bd}{L:List mE}{k g:Nat}{x:mE}{w w':ax}{o:Obj}{s:Int}(h:ScrX W b v L k g x w)(h1:OwnX w' W.heap.size e (L++[x]))(h2:(w.alloc o).grownBy w' v.ownBlock)(hl:L.length=k)(hs:0<=s/\s<=(k:Int)+1):∃a j c f,e= .slice a j c/\ScrI W b (.slice a j c) f (k+1) s w':=by
 obtain⟨a,j,c,rfl⟩:=h1.shape;have d:=(aj w.heap.size w).alloc (ag _) o;refine⟨a,j,c,_,rfl,(h.all.stay d).grown h1 h2 (λy hy=>?_),by simp[hl],by omega,λhb y hy=>?_,(h.below.alloc h.below.size o).grown h2 (aE h.below.size d.size) (λq hq=>(lV h.all.hH q hq).1)⟩
 ·rw[cL.1 hy];exact⟨h.hH.alloc o,h.chk⟩
 ·rcases dR.1 hy with hy|hy
  ·exact h.AI hb y hy
  ·rw[cL.1 hy];exact h.no hb
theorem script_any(gv:bd)(G:List Gea)(lG:Nat)(b:Bool)(W:ax)(hv:RdG W gv G)(hm:lG<=1000)(hk:Kn W):
  bl ed 8 #[gv,.int .i64 lG,.bool b] W λe T=>∃v L,e= .returned v/\AllX T W.heap.size v L/\L.length<=lG/\(b=dT->∀x∈L,x.k≠8)/\dd W.heap.size W T:=by
 obtain⟨ea,ec,rfl,hle,a0,-⟩:=id hv.1;obtain⟨n,K⟩:=aK G.length;rw[<-K]at hv hle|-;have b2:ec<=9223372036854775807:=a0;have S:=ae hv;have HN:=ae K;have HK:=ae hk;have Q:=ae hm;clear hv K hk a0;go_enter func8,ntmps8
 go_upto_region 4 with fail
 go_loopg [7,8,9] n (λg o t s wr=>∃(k:Nat) (m:Int),k+g=n/\k<=lG/\t= .int .i64 m/\s= .int .i64 k/\Hid (∃(a:Option Addr) (j c:Nat) (L:List mE),o= .slice a j c/\ScrI W b (.slice a j c) L k m wr))
 case atStart=>exact⟨0,0,by omega,bX _,rfl,rfl,ae ⟨dl,0,0,[],rfl,⟨AllX.nil _ _,rfl,⟨by decide,by decide⟩,(λ_ x hx=>by cases hx),aj _ _⟩⟩⟩
 case round=>
  obtain⟨k,m,a2,J,rfl,rfl,O⟩:=hrel;obtain⟨w0,rfl⟩:=aK wr;obtain⟨B,D,C,L,rfl,Y⟩:=O.o;have d:=ae Y;clear O Y;by_cases h1:k<n
  ·have d1:decide ((k:Int)<n)=dE:=by rw[ap];omega
   have a8:decide (k<n)=dE:=by rw[ap];omega
   by_cases h2:k<lG
   ·have d2:decide ((k:Int)<lG)=dE:=by rw[ap];omega
    have a9:decide (k<lG)=dE:=by rw[ap];omega
    obtain⟨g1,a1⟩:∃g,gk=g+1:=⟨gk-1,by omega⟩
    have N:=ae a1;have a4:=ae a2;have F:=ae h2;obtain⟨eb,eo,rfl,I⟩:=rdG_at S.o d.o.below h1;have R:=ae (show(G.getD k Gea.zero).Ok from S.o.2 _ (by rw[au,aC (by rw[<-HN.o];exact h1)];exact dW _));obtain⟨y,hy⟩:=aK (G.getD k Gea.zero);rw[<-hy]at I R;have E:=ae (act_top y b w0 R.o (HK.o.stay d.o.below));obtain⟨b0,ga,gb,gc,gd⟩:=y;obtain⟨y0,y1,y2,y3,y4⟩:=cellsGe I;unfold geaV at E;dsimp only at y0 y1 y2 y3 y4 E;have b3:(0:Int)<=(k:Int):=by omega
    have b4:(k:Int)<(n:Int):=by omega
    have b1:wrap64 (m+1)=m+1:=by have:=d.o.sent;have:=Q.o;have:=F.o;unfold wrap64;omega
    have z:=ae d.o.below;have P:=ae d.o.len;have a6:=ae d.o.sent;clear I hy a2 a1 J;go_upto_region 7 with(go_at_call 15;refine E.o.m ?_;rintro e w1 ⟨⟨w,xn,xa,xp,xv,M⟩,rfl,Z,ho,a3,hb⟩;dsimp only at*;obtain⟨U,V,rfl,-,-⟩:=ho.rd.slice;have H:=ae ho;have l:=ae hb;have CH:=ae Z;have NO:=ae a3;clear ho hb Z a3)
    generalize f:World.alloc _ _=w2;obtain⟨p,u⟩:=aK w1.heap.size;have r:=ae (show ScrX W b (.slice B D C) L k p ⟨w,xn,xa,xp,.slice U M.length V,M⟩ w2 from⟨eZ f u,((H.o.m z.o.size).below (gv f) (λq hq=>(H.o.lt q hq).2)),CH.o,NO.o,(d.o.all.stay l.o).stay (gv f),d.o.no,z.o.t ((l.o.t ((gv f).m l.o.size)).m z.o.size)⟩);have a7:=ae (show W.heap.size<=p/\∀q,(Value.slice U M.length V).ownBlock=de q->q≠p by rw[u];exact⟨aE z.o.size l.o.size,λq hq=>Nat.ne_of_lt (H.o.lt q hq).2⟩);have a5:=ae (show∀q,W.heap.size<=q->q<w0.heap.size->q≠p by rw[u];intro q _ hq;have:=l.o.size;omega);rw[<-u];have S0:=ae d.o.all;have BX:=ae (l.o.t ((gv f).m l.o.size));clear f u d y0 y1 y2 y3 y4;have x0:=ej r.o.cells 0 rfl;have key:((w==1)=dT)\/(w=1/\decide (6<m+1)=dT)\/(w=1/\decide (6<m+1)=dE):=by
     by_cases h3:w=1
     ·by_cases h4:6<m+1
      ·exact .inr (.inr ⟨h3,fG h4⟩)
      ·exact .inr (.inl ⟨h3,gE h4⟩)
     ·exact .inl (by rw[aJ];exact h3)
    have TH:=ae (dr r.o.cells (rfl:_=5));rcases key with e1|⟨rfl,e6⟩|⟨rfl,e6⟩
    all_goals go_upto_region 11 with(refine bz rfl 26 (.tmp 10) (.tmp 35) rfl p 0 #[.int .i64 7,.int .i64 0,.int .i64 0,.int .i64 0,.slice dl 0 0] rfl rfl TH.o actSzT (actOneT _ _ _ _ _ _ _) ?_;generalize f:World.setCells _ _ _ _=w3;have A:Hid (ScrX W b (.slice B D C) L k p ⟨7,0,0,0,.slice dl 0 0,[]⟩ w3):=ae ⟨by rw[<-f];exact putCs r.o.cells rfl,Own.nil _ _,chkX_bare (by omega),λ_=>by decide,S0.o.heap (λq h1 h2=>by rw[<-f,bE (a5.o q h1 h2)];exact BX.o.block q h2),r.o.AI,by rw[<-f];exact bp a7.o.1 _ _ _ r.o.below⟩;clear f)
    all_goals (
     clear x0;first
      |(have h0:=A.o;clear h0)
      |(obtain⟨w3,rfl⟩:=aK w2;have A:=ae r.o)
     obtain⟨X,i⟩:∃X,Hid (ScrX W b (.slice B D C) L k p X w3):=⟨_,A⟩
     clear A;have c0:=ej i.o.cells 0 rfl;have c1:=ej i.o.cells 1 rfl;have c2:=ej i.o.cells 2 rfl;have c3:=ej i.o.cells 3 rfl;have c4:=ej i.o.cells 4 rfl;go_wp2_with (at_builtin;refine apX rfl (.tmp 36) (.tmp 38) rfl W.heap.size (.slice B D C) L [X] (de ⟨w3.heap.size,0,dl⟩) 1 1 rfl (i.o.all.stay ((aj _ _).alloc (ag _) _)).hH rfl (rowX_lit (m:=[X]) (aL w3 _) (by simp)) (λh=>by cases h) (λy hy=>by rw[cL.1 hy];exact i.o.hH.one) (by have:=P.o;have:=F.o;have:=Q.o;simp;omega) (aE i.o.below.size (by simp)) ?_;intro v' w4 h1 h2 h3;have NX:=ae (λs hs=>i.o.more (s:=s) h1 h2 P.o hs);clear h1 h2 h3)
     go_roundg g1
     ·exact⟨k+1,_,by have:=a4.o;have:=N.o;omega,F.o,rfl,by go_num,ae (NX.o _ (by have:=a6.o;omega))⟩
     ·have:=N.o;omega)
   ·have d2:decide ((k:Int)<lG)=dT:=by rw[ah];omega
    have a9:decide (k<lG)=dT:=by rw[ah];omega
    go_wp2_with fail
    go_ret
    exact⟨_,L,rfl,d.o.all,by rw[d.o.len];exact J,d.o.no,d.o.below⟩
  ·have d1:decide ((k:Int)<n)=dT:=by rw[ah];omega
   have a8:decide (k<n)=dT:=by rw[ah];omega
   go_wp2_with fail
   go_ret
   exact⟨_,L,rfl,d.o.all,by rw[d.o.len];exact J,d.o.no,d.o.below⟩
set_option maxHeartbeats 400000
theorem act_down{M:aT}{a:AF}(hk:a.kind=1\/a.kind=2\/a.kind=3)(hu:(M.nd a.node.toNat).up=dT):M.act a=M:=by
 unfold aT.act;rcases hk with e|e|e
 ·rw[ar e];unfold aT.fQ;dsimp only;rw[ak (by rw[hu];decide)]
 ·rw[ak (by omega),ar e];unfold aT.lead;dsimp only;rw[ak (by rintro⟨h,-⟩;rw[hu]at h;cases h)]
 ·rw[ak (by omega),ak (by omega),ar e];unfold aT.step;rw[ak (by rw[hu];decide)]
theorem runX_snoc(l:List mE)(x:mE):ow (l++[x])=(ow l).act (Mj x):=by
 unfold ow pS;rw[du,iw];rfl
theorem runX_down3{l:List mE}{n:Int}{dv e f:bd}{D E F:List UInt8}(hu:((ow l).nd n.toNat).up=dT):ow (l++[⟨1,n,0,0,dv,D⟩,⟨3,n,0,0,e,E⟩,⟨2,n,0,0,f,F⟩])=ow l:=by
 rw[show l++[⟨1,n,0,0,dv,D⟩,⟨3,n,0,0,e,E⟩,⟨2,n,0,0,f,F⟩]=((l++[⟨1,n,0,0,dv,D⟩])++[⟨3,n,0,0,e,E⟩])++[⟨2,n,0,0,f,F⟩] by simp];rw[runX_snoc,runX_snoc,runX_snoc];have h1:(ow l).act (Mj ⟨1,n,0,0,dv,D⟩)=ow l:=act_down (.inl rfl) hu;rw[h1];have h2:(ow l).act (Mj ⟨3,n,0,0,e,E⟩)=ow l:=act_down (.inr (.inr rfl)) hu;rw[h2];exact act_down (.inr (.inl rfl)) hu
theorem runX_crash{l:List mE}{n:Nat}{c:mE}(h:oP (l++[c]))(b:n<5)(a:c.k=8)(hc:c.n=(n:Int)):((ow (l++[c])).nd n).up=dT/\((ow (l++[c])).nd n).log=[]:=by
 have h1:=runX_grows h (i:=l.length) (by simp);have e:(l++[c]).getD l.length mE.zero=c:=by rw[au,bF (ag _),Nat.sub_self];rfl
 rw[e,bK (show(l++[c]).length<=l.length+1 by simp)]at h1;exact h1.jT n b a hc
structure DwnI(W w6:ax)(B:Nat)(v:bd)(l:List mE)(w:ax):Prop where
 all:AllX w W.heap.size v l
 below:dd W.heap.size W w
 keep:∀q,B<=q->q<w6.heap.size->w.heap[q]?=w6.heap[q]?
 at':∀q,v.ownBlock=de q->q<B\/w6.heap.size<=q
 size:w6.heap.size<=w.heap.size
theorem DwnI.more{W i w b w':ax}{B:Nat}{v d:bd}{l m:List mE}{o:Obj}(h:DwnI W i B v l w)(hb:dd w.heap.size w b)(h1:OwnX w' W.heap.size d (l++m))(h2:(b.alloc o).grownBy w' v.ownBlock)(h3:d.ownBlock=v.ownBlock\/d.ownBlock=de (b.alloc o).heap.size)(hc:∀c∈m,Own b W.heap.size c.dv c.d/\sM c=0):∃a j c,d= .slice a j c/\DwnI W i B (.slice a j c) (l++m) w':=by
 obtain⟨a,j,c,rfl⟩:=h1.shape;have f:=(aj b.heap.size b).alloc (ag _) o;have g:w.heap.size<=(b.alloc o).heap.size:=aE hb.size f.size;refine⟨a,j,c,rfl,((h.all.stay hb).stay f).grown h1 h2 (λx hx=>⟨(hc x hx).1.alloc o,(hc x hx).2⟩),((h.below.t (hb.m h.below.size)).alloc (aE h.below.size hb.size) o).grown h2 (aE h.below.size g) (λq hq=>(lV h.all.hH q hq).1),λq h4 h5=>?_,λq hq=>?_,aE h.size (aE g h2.size)⟩
 ·have h6:=h.size;rw[h2.block q (by omega) (λe=>by have:=h.at' q e.symm;omega),f.block q (by have:=hb.size;omega),hb.block q (by omega)];exact h.keep q h4 h5
 ·rcases h3 with h3|h3
  ·exact h.at' q (by rw[<-h3];exact hq)
  ·rw[h3]at hq;injection hq with hq;have:=h.size;omega
theorem kU.lit2{B:Nat}{w:ax}{M:aT}{f:Int}{u0 u1 u2 u3 u4:Bool}{b off c:Nat}{b0 b1 b2 b3 b4:Int}{ta:Option Addr}{tn tc:Nat}(h:kU B w (.agg #[f,.bool u0,.bool u1,.bool u2,.bool u3,.bool u4,.slice (b,off) 5 c,b0,b1,b2,b3,b4,.slice ta tn tc]) M):yC w M f u0 u1 u2 u3 u4 b off c b0 b1 b2 b3 b4 ta tn tc:=by
 obtain⟨k,v0,v1,v2,v3,v4,a,l,d,c0,c1,g,i,j,m,o,n,e,hl⟩:=h.lit;simp only[Value.agg.injEq,Array.mk.injEq,List.cons.injEq,Value.int.injEq,Value.bool.injEq,Value.slice.injEq,Option.some.injEq,Addr.mk.injEq,true_and,and_true]at e;obtain⟨rfl,rfl,rfl,rfl,rfl,rfl,⟨⟨rfl,rfl⟩,rfl⟩,rfl,rfl,rfl,rfl,rfl,rfl,rfl,rfl⟩:=e;exact hl
theorem eqIntD(d:Nat)(x:Int)(w:ax):(Op.equalIn (d+1) 3 x x).run ed w= .ok dE w:=by
 simp[Op.equalIn,dt Tryz.underlying3]
theorem eqInt5(a b c d e:Int)(w:ax):(binOp BinOp.eql 31 (.agg #[a,b,c,d,e]) (.agg #[a,b,c,d,e])).run ed w= .ok (.bool dE) w:=by
 obtain⟨i,hi⟩:∃i,prog.info? 3=de i:=Option.isSome_iff_exists.1 (by kernel_rfl);have hc:prog.cellsOf 3=1:=by kernel_rfl
 have h0:(Op.equal 31 (.agg #[a,b,c,d,e]) (.agg #[a,b,c,d,e])).run ed w= .ok dE w:=by
  show(Op.equalIn (9998+1+1) _ _ _).run ed w=_;rw[run_equalIn_array w (9998+1) _ _ Tryz.underlying31 hi,hc,show List.range 5=[0,1,2,3,4]from rfl];simp[Op.eqItems,part,isAgg,dt Tryz.underlying3,eqIntD]
 simp[binOp,go_sem,h0]
end Go.Proofs.YtcdmenphjilnnaaGreatDoor
namespace Go.Proofs.YtcdmenphjilnnaaGreatDoor
open Go.ChangeShapes Go.WideShapes Go.ChangeAt Go.RowKit Go.Con
set_option maxHeartbeats 400000
section
variable{H:Type}{fS:TypeId×bd->H}{W:ax}{base b0:Nat}
def IsInt(v:bd)(n:Int):Prop:=v= .int .i64 n/\-9223372036854775808<=n/\n<=9223372036854775807
theorem open_int{v:bd}{d:DataW H}{p:List MemPlace}(hv:Value.okWide ed W .any b0 3 v)(h:DataW.Trod fS ed W base (λ_=>dE) dE 3 v d p):∃n,IsInt v n:=by
 obtain⟨n,rfl,_,_,wn⟩:=ChangeShapes.open_int Tryz.underlying3 hv h;exact⟨n,rfl,(bounds_i64 wn).1,(bounds_i64 wn).2⟩
end
end Go.Proofs.YtcdmenphjilnnaaGreatDoor
namespace Go.Proofs.YtcdmenphjilnnaaGreatDoor
open Go.RowKit Go.Con
theorem yC.up5{w:ax}{M:aT}{f:Int}{u0 u1 u2 u3 u4:Bool}{b off c:Nat}{b0 b1 b2 b3 b4:Int}{ta:Option Addr}{tn tc a:Nat}{t:TypeId}(h:yC w M f u0 u1 u2 u3 u4 b off c b0 b1 b2 b3 b4 ta tn tc)
  (hb:w.heap[a]?=de (.cells #[f,.bool u0,.bool u1,.bool u2,.bool u3,.bool u4,.slice (b,off) 5 c,b0,b1,b2,b3,b4,.slice ta tn tc] t (0,0))){q:Nat}(hq:q<5):
  w.cell? (a,1+q)=de (.bool (M.nd q).up):=by
 obtain⟨d,e,g,i,j⟩:=h.up;have hc:q=0\/q=1\/q=2\/q=3\/q=4:=by omega
 rcases hc with rfl|rfl|rfl|rfl|rfl
 ·rw[<-d];exact ej hb 1 rfl
 ·rw[<-e];exact ej hb 2 rfl
 ·rw[<-g];exact ej hb 3 rfl
 ·rw[<-i];exact ej hb 4 rfl
 ·rw[<-j];exact ej hb 5 rfl
theorem walk_TopDown(v:bd)(G:List Gea)(va:bd)(a:Int)(vm:bd)(Y:List Gea)(W:ax)(hv:RdG W v G)(ha:IsInt va a)(hm:RdG W vm Y)(hk:Kn W)(hN:Nd W):
  bl ed 4 #[v,va,vm] W λe W'=>e= .returned (.bool dE)/\dd W.heap.size W W':=by
 obtain⟨rfl,a1,a2⟩:=ha;obtain⟨n,hn⟩:∃n:Nat,(n:Int)=pick a 5:=⟨(pick a 5).toNat,by have:=pick_nonneg a 5 (by omega);omega⟩
 have a4:n<5:=by have:=pick_lt a 5 (by omega);omega
 have PN:=ae hn.symm;have A:=ae a4;obtain⟨ma,mc,rfl,hle,c5,-⟩:=id hm.1;obtain⟨z,hz⟩:=aK Y.length;rw[<-hz]at hm hle|-;have f1:mc<=9223372036854775807:=c5;have HZ:=ae hz;have HY:=ae hm;have HV:=ae hv;have R:=ae hk;have HD:=ae hN;have d8:=ae (script_any v G 60 dE W hv (by decide) hk:bl ed 8 #[v,.int .i64 60,.bool dE] W _);clear hv hk hN hn hz hm c5 a4;go_enter func4,ntmps4
 go_upto_region 3 with(first
  |(go_at_call 7;refine(Picked_to _ _ _ _ (by assumption) (by assumption) (by decide) (by assumption)).m ?_;rintro e _ ⟨rfl,rfl⟩)
  |(go_at_call 8;refine d8.o.m ?_;rintro e w2 ⟨v2,L1,rfl,X,hl,-,hb⟩;have P:=ae X;have N2:=ae hl;have F:=ae hb;obtain⟨sa,sn,sc,rfl⟩:=X.hH.shape;clear X hl hb)
  |(at_builtin;refine apX rfl (.tmp 17) (.tmp 20) rfl W.heap.size (.slice sa sn sc) L1 [⟨8,(n:Int),0,0,.slice dl 0 0,[]⟩] (de ⟨w2.heap.size,0,dl⟩) 1 1 rfl (World.ownsRow.alloc P.o.hH _) rfl (rowX_lit (m:=[⟨8,(n:Int),0,0,.slice dl 0 0,[]⟩]) (aL w2 _) (by simp)) (λh=>by cases h) (λy hy=>by rw[cL.1 hy];rfl) (by have:=N2.o;simp;omega) (aE F.o.size (by simp)) ?_;intro v3 w3 h1 h2 h3;have u:=ae ((P.o.stay ((aj _ _).alloc (ag _) _)).grown h1 h2 (λy hy=>by rw[cL.1 hy];exact⟨Own.nil _ _,chkX_bare (by have:=A.o;omega)⟩));have H:=ae ((F.o.alloc F.o.size _).grown h2 (aE F.o.size (by simp)) (λq hq=>(lV P.o.hH q hq).1));obtain⟨ta,tn,tc,rfl⟩:=u.o.hH.shape;clear h1 h2 h3))
 obtain⟨L,K⟩:=aK (L1++[⟨8,(n:Int),0,0,.slice dl 0 0,[]⟩]);rw[<-K]at u;have NL:=ae (show L.length<=61 by have:=N2.o;rw[K];simp;omega);have S3:Hid (oP L):=ae ⟨by have:=NL.o;omega,λx hx=>(u.o.each x hx).2⟩;have CR:=ae (show((ow L).nd n).up=dT/\((ow L).nd n).log=[] by
  have h:=S3.o;rw[K]at h|-;exact runX_crash h A.o rfl rfl)
 have d6:=ae (LA _ L w3 u.o.Mo S3.o (R.o.stay H.o) (HD.o.stay H.o));clear K;go_upto_region 4 with(go_at_call 9;refine d6.o.m ?_;rintro e w5 ⟨ov,rfl,B,hb5⟩;have Q:=ae hb5;have d5:=ae B;obtain⟨f,u0,u1,u2,u3,u4,lb,lo,lc,b0,b1,b2,b3,b4,oa,on,oc,rfl,-⟩:=B.lit;clear B hb5)
 generalize t:World.alloc _ _=N;obtain⟨xb,M⟩:=aK w5.heap.size;have U:=ae (eZ t M);have I:=ae (gv t);have d9:=ae (show w3.heap.size<=xb by rw[M];exact Q.o.size);rw[<-M];have R1:Hid (DwnI W N w3.heap.size (.slice ta tn tc) L N):=ae (by
  have b9:=Q.o.t (I.o.m Q.o.size);exact⟨u.o.stay b9,H.o.t (b9.m H.o.size),λq _ _=>rfl,λq hq=>.inl (lV u.o.hH q hq).2,ag _⟩)
 clear t M;go_upto_region 5 with fail
 go_loopg [8,11] z (λg o s wr=>∃k:Nat,k+g=z/\k<=10/\s= .int .i64 k/\Hid (∃a j c l,o= .slice a j c/\DwnI W N w3.heap.size (.slice a j c) l wr/\l.length<=61+3*k/\ow l=ow L))
 case atStart=>exact⟨0,by omega,by omega,rfl,ae ⟨_,_,_,L,rfl,R1.o,by have:=NL.o;omega,rfl⟩⟩
 case round=>
  clear R1;obtain⟨k,a3,e7,rfl,a9⟩:=hrel;obtain⟨w7,rfl⟩:=aK wr;obtain⟨ja,jn,jc,l,rfl,Z,c9,d3⟩:=a9.o;have b:=ae Z;have b6:=ae c9;have T:=ae d3;have S7:Hid (oP l):=ae ⟨by omega,λx hx=>(Z.all.each x hx).2⟩;clear a9 Z c9 d3;by_cases c7:k<z/\k<10
  ·obtain⟨h1,h2⟩:=c7;have d1:decide ((k:Int)<z)=dE:=by rw[ap];omega
   have b8:decide (k<z)=dE:=by rw[ap];omega
   have d2:decide ((k:Int)<10)=dE:=by rw[ap];omega
   obtain⟨g1,c6⟩:∃g,gk=g+1:=⟨gk-1,by omega⟩
   have a8:=ae c6;have d4:=ae a3;have b5:=ae h2;obtain⟨eb,eo,rfl,a0⟩:=rdG_at HY.o b.o.below h1;have b7:=ae (show(Y.getD k Gea.zero).Ok from HY.o.2 _ (by rw[au,aC (by rw[<-HZ.o];exact h1)];exact dW _));obtain⟨y,hy⟩:=aK (Y.getD k Gea.zero);rw[<-hy]at a0 b7;have S:=ae (packed_any y w7 b7.o (R.o.stay b.o.below));obtain⟨e9,ga,gb,gc,gd⟩:=y;obtain⟨y0,y1,y2,y3,y4⟩:=cellsGe a0;unfold geaV at S;dsimp only at y0 y1 y2 y3 y4 S;have f3:(0:Int)<=(k:Int):=by omega
   have f4:(k:Int)<(z:Int):=by omega
   clear a0 hy a3 c6;go_wp2_with (first
    |(go_at_call 12;refine S.o.m ?_;rintro e O ⟨dv,D,rfl,ho,hD,hb⟩;obtain⟨C,E,rfl,-,-⟩:=ho.rd.slice;have O8:=ae ho;have w:=ae hb;have DL:=ae hD;clear ho hb hD)
    |(at_builtin;refine apX rfl (.tmp 37) (.tmp 49) rfl W.heap.size (.slice ja jn jc) l [⟨1,(n:Int),0,0,.slice C D.length E,D⟩,⟨3,(n:Int),0,0,.slice dl 0 0,[]⟩,⟨2,(n:Int),0,0,.slice dl 0 0,[]⟩] (de ⟨O.heap.size,0,dl⟩) 3 3 rfl (World.ownsRow.alloc (b.o.all.stay w.o).hH _) rfl (rowX_lit (m:=[⟨1,(n:Int),0,0,.slice C D.length E,D⟩,⟨3,(n:Int),0,0,.slice dl 0 0,[]⟩,⟨2,(n:Int),0,0,.slice dl 0 0,[]⟩]) (aL O _) (by simp)) (λh=>by cases h) (λy hy=>by
      have a5:y=⟨1,(n:Int),0,0,.slice C D.length E,D⟩\/y=⟨3,(n:Int),0,0,.slice dl 0 0,[]⟩\/y=⟨2,(n:Int),0,0,.slice dl 0 0,[]⟩:=by simpa using hy
      rcases a5 with rfl|rfl|rfl<;>rfl) (by have:=b6.o;have:=b5.o;simp;omega) (aE b.o.below.size (aE w.o.size (by simp))) ?_;intro v9 w9 h1 h2 h3;have NX:=ae (b.o.more w.o h1 h2 h3 (λy hy=>by
      have a5:y=⟨1,(n:Int),0,0,.slice C D.length E,D⟩\/y=⟨3,(n:Int),0,0,.slice dl 0 0,[]⟩\/y=⟨2,(n:Int),0,0,.slice dl 0 0,[]⟩:=by simpa using hy
      have h5:=A.o;rcases a5 with rfl|rfl|rfl
      ·exact⟨O8.o.m b.o.below.size,chkX_sub (by omega) (by omega) DL.o⟩
      ·exact⟨Own.nil _ _,chkX_bare (by omega)⟩
      ·exact⟨Own.nil _ _,chkX_bare (by omega)⟩));clear h1 h2 h3))
   obtain⟨pa,pj,pc,rfl,hp⟩:=NX.o;have HX:=ae (show ow (l++[⟨1,(n:Int),0,0,.slice C D.length E,D⟩,⟨3,(n:Int),0,0,.slice dl 0 0,[]⟩,⟨2,(n:Int),0,0,.slice dl 0 0,[]⟩])=ow L from(runX_down3 (by rw[T.o];exact CR.o.1)).t T.o);have HP:=ae hp;clear NX hp;go_roundg g1
   ·exact⟨k+1,by have:=d4.o;have:=a8.o;omega,b5.o,by go_num,ae ⟨_,_,_,_,rfl,HP.o,by have:=b6.o;simp;omega,HX.o⟩⟩
   ·have:=a8.o;omega
  ·have d7:=ae (LA _ l w7 b.o.all.Mo S7.o (R.o.stay b.o.below) (HD.o.stay b.o.below));have key:(decide ((k:Int)<z)=dE/\decide (k<z)=dE/\decide ((k:Int)<10)=dT/\decide (k<10)=dT)\/(decide ((k:Int)<z)=dT/\decide (k<z)=dT):=by
    simp only[ap,ah];omega
   clear c7 a3 e7;rcases key with⟨d1,b8,d2,e8⟩|⟨d1,b8⟩
   all_goals go_upto_region 9 with(go_at_call 9;refine d7.o.m ?_;rintro e O ⟨f6,rfl,B,c2⟩;have w:=ae c2;obtain⟨g,v0,v1,v2,v3,v4,kb,ko,kc,c0,c1,V,c3,c4,qa,qn,qc,rfl,c8⟩:=B.lit;have HO:=ae c8;clear B c2 c8)
   all_goals (
    generalize t:World.alloc _ _=w9;obtain⟨yb,a6⟩:=aK O.heap.size;have i:=eZ t a6;have B9:=ae (gv t);rw[<-a6];clear t a6;have J:=ae (w.o.t (B9.o.m w.o.size));have r:=(J.o.block xb (ai (hF U.o) b.o.size)).t ((b.o.keep xb d9.o (hF U.o)).t U.o);have p:yC w9 (ow L) f u0 u1 u2 u3 u4 lb lo lc b0 b1 b2 b3 b4 oa on oc:=kU.lit2 (d5.o.heap (λq h1 h2=>by
     have h3:q<N.heap.size:=ai h2 I.o.size;rw[J.o.block q (ai h3 b.o.size),b.o.keep q h1 h3,I.o.block q h2]) (aE I.o.size (aE b.o.size J.o.size)))
    have d:=HO.o.stay B9.o;rw[T.o]at d;obtain rfl:g=f:=d.cz.t p.cz.symm;obtain rfl:v0=u0:=d.up.1.t p.up.1.symm;obtain rfl:c0=b0:=d.bad.1.t p.bad.1.symm;obtain rfl:c1=b1:=d.bad.2.1.t p.bad.2.1.symm;obtain rfl:V=b2:=d.bad.2.2.1.t p.bad.2.2.1.symm;obtain rfl:c3=b3:=d.bad.2.2.2.1.t p.bad.2.2.2.1.symm;obtain rfl:c4=b4:=d.bad.2.2.2.2.t p.bad.2.2.2.2.symm;obtain rfl:qn=on:=by
     obtain⟨a',c',h0,-⟩:=p.told;obtain⟨a2,V,h2,-⟩:=d.told;injection h0 with e1 e2 e3;injection h2 with e4 e5 e6;rw[e2,e5]
    have hu:=d.up5 i A.o;rw[CR.o.1]at hu;obtain⟨pa,pn,pk,xl,d0⟩:=d.log n A.o;obtain rfl:pn=0:=by
     obtain⟨a',c',h0,-⟩:=d0;injection h0 with e1 e2 e3;rw[e2,CR.o.2];rfl
    have f0:=d.c5;have f2:=d.cm;have x0:=ej r 0 rfl;have x1:=ej r 1 rfl;have x7:=ej r 7 rfl;have x8:=ej r 8 rfl;have x9:=ej r 9 rfl;have f7:=ej r 10 rfl;have f8:=ej r 11 rfl;have f9:=ej r 12 rfl;have z0:=ej i 0 rfl;have z1:=ej i 1 rfl;have z6:=ej i 6 rfl;have z7:=ej i 7 rfl;have z8:=ej i 8 rfl;have z9:=ej i 9 rfl;have g0:=ej i 10 rfl;have g2:=ej i 11 rfl;have g3:=ej i 12 rfl;have e5:=eqInt5 c0 c1 V c3 c4;have f5:(0:Int)<=(n:Int):=by omega
    have a4:(n:Int)<5:=by have:=A.o;omega
    have BW:=ae (b.o.below.t (J.o.m b.o.below.size));clear r i p d d0;by_cases a7:n=0
    ·have e0:((n:Int)==0)=dE:=by rw[a7];rfl
     clear a7;go_wp2_with fail
     go_ret
     exact⟨rfl,BW.o⟩
    ·have e0:((n:Int)==0)=dT:=by rw[aJ];omega
     clear a7;go_wp2_with fail
     go_ret
     exact⟨rfl,BW.o⟩)
end Go.Proofs.YtcdmenphjilnnaaGreatDoor
namespace Go.Proofs.YtcdmenphjilnnaaGreatDoor
open Go.ChangeShapes Go.WideShapes Go.ChangeAt Go.RowKit Go.Con Go.Deep
set_option maxHeartbeats 400000
def intFields(fs:Array Field):Bool:=(List.range fs.size).all λi=>match fs[i]? with|some f=>f.offset==i&&f.type==3|none=>dT
section
variable{H:Type}{fS:TypeId×bd->H}{W:ax}{base b0:Nat}{sp:Nat->Bool}
theorem trod_ints{t:TypeId}{fs:Array Field}{c:Nat}{cs:List bd}{x:DataW H×List MemPlace}(hs:prog.underlying t=de (.struct fs))(d:intFields fs=dE)
  (h:DataW.trod fS ed W base sp dE c t cs=de x):cs.length=prog.cellsOf t/\∀i,i<fs.size->∃n,cs[i]?=de (.int .i64 n)/\Int64 n:=by
 obtain⟨xs,n,_,_,hl,hlen,f⟩:=DataW.trod_struct hs h;refine⟨hl,λi hi=>?_⟩;have a:=gR.1 d i (bj.2 hi);have b:fs[i]?=de fs[i]:=bm hi;simp only[b,aP,eE]at a;have h1:=f i _ b;have e:prog.cellsOf 3=1:=by kernel_rfl
 rw[a.1,a.2,e,aC (by omega)]at h1;obtain⟨z,g,_,hw⟩:=DataW.trod_int Tryz.underlying3 h1;refine⟨z,?_,bounds_i64 hw⟩;have h2:=dz (λl:List bd=>l[0]?) g;simpa[cR,gZ]using h2
theorem open_gears0{v:bd}{d:DataW H}{p:List MemPlace}(hv:Value.okWide ed W .any b0 22 v)(h:DataW.Trod fS ed W base (λ_=>dE) dE 22 v d p):∃(l:List Gea) (a:Option Addr) (c:Nat),v= .slice a l.length c/\l.length<=c/\c<=maxLen/\(∀x∈l,x.Ok)/\(l≠[]->∃b off,a=de ⟨b,off,dl⟩/\∀i,i<l.length->∀j,j<5->W.cell? ⟨b,off+(5*i+j),dl⟩=(geaCells (l.getD i Gea.zero))[j]?):=by
 obtain⟨a,len,cap,rfl⟩:=okWide_slice Tryz.underlying22 hv;obtain⟨K,u⟩:=h;rcases open_slice Tryz.underlying22 u with⟨f,_⟩|⟨x,l,c,m,n,D,I,f,hb,hl,hm,o,hx,hi⟩
 ·simp[Value.cells]at f;obtain⟨rfl,rfl,rfl⟩:=f;exact⟨[],dl,0,rfl,ag _,bX _,(λx h=>by cases h),λh=>absurd rfl h⟩
 ·simp[Value.cells]at f;obtain⟨rfl,rfl,rfl⟩:=f;have t:prog.cellsOf 43=5:=by kernel_rfl
  simp only[if_true]at o;subst o;have he:∀i,i<len->∃y:Gea,y.Ok/\∀j,j<5->W.cell? (x.add (i*5+j))=(geaCells y)[j]?:=by
   intro i hlt;obtain⟨J,hc,B⟩:=hi i (by omega);obtain⟨M,k⟩:=trod_ints Tryz.underlying43 (by kernel_rfl) B;obtain⟨_,L,s⟩:=World.cells?_some hc;obtain⟨n0,q,b0⟩:=k 0 (by decide);obtain⟨C,e1,b1⟩:=k 1 (by decide);obtain⟨E,e2,b2⟩:=k 2 (by decide);obtain⟨F,e3,b3⟩:=k 3 (by decide);obtain⟨G,r,b4⟩:=k 4 (by decide);refine⟨⟨n0,C,E,F,G⟩,⟨b0,b1,b2,b3,b4⟩,λj hj=>?_⟩;have h1:=s j (by omega);rw[t]at h1;rw[<-Go.Deep.add_add,h1];have h5:j=0\/j=1\/j=2\/j=3\/j=4:=by omega
   rcases h5 with rfl|rfl|rfl|rfl|rfl
   ·exact q
   ·exact e1
   ·exact e2
   ·exact e3
   ·exact r
  obtain⟨g,hg⟩:∃g:Nat->Gea,∀i,i<len->(g i).Ok/\∀j,j<5->W.cell? (x.add (i*5+j))=(geaCells (g i))[j]?:=by
   refine⟨λi=>if h:i<len then(he i h).choose else Gea.zero,λi h=>?_⟩;have e:(if h:i<len then(he i h).choose else Gea.zero)=(he i h).choose:=dif_pos h;show Gea.Ok (if h:i<len then(he i h).choose else Gea.zero)/\_;dsimp only;rw[e];exact(he i h).choose_spec
  have hlen:((List.range len).map g).length=len:=by simp
  refine⟨(List.range len).map g,de x,_,by rw[hlen],by rw[hlen];exact hl,hm,?_,λw=>?_⟩
  ·intro y hy;obtain⟨i,hi,rfl⟩:=cH.1 hy;exact(hg i (bj.1 hi)).1
  ·have z:0<len:=by rw[<-hlen];exact dw.2 w
   obtain⟨b,off,spot⟩:=x;have A:spot=dl:=by
    have h0:W.cell? (Addr.add ⟨b,off,spot⟩ (0*5+0))=de (.int .i64 (g 0).k):=(hg 0 z).2 0 (by omega);simpa[Addr.add]using World.cell?_spot h0
   subst A;refine⟨b,off,rfl,λi hi j hj=>?_⟩;rw[hlen]at hi;have h1:=(hg i hi).2 j hj;have e:((List.range len).map g).getD i Gea.zero=g i:=by simp[hi]
   rw[e,<-h1];have e2:Addr.add ⟨b,off,dl⟩ (i*5+j)=⟨b,off+(5*i+j),dl⟩:=by
    unfold Addr.add;split
    ·rename_i h0;simp only[Addr.mk.injEq,and_true,true_and];omega
    ·rw[eJ]
   rw[e2]
theorem open_gears{v:bd}{d:DataW H}{p:List MemPlace}(hv:Value.okWide ed W .any b0 22 v)(h:DataW.Trod fS ed W base (λ_=>dE) dE 22 v d p):∃l,RdG W v l:=by
 obtain⟨l,a,c,h1,h2,h3,h4,h5⟩:=open_gears0 hv h;exact⟨l,⟨a,c,h1,h2,h3,λf=>by
  obtain⟨b,off,e,hc⟩:=h5 f;exact⟨b,off,e,aI _ _ (show W.cell? ⟨b,off+(5*0+0),dl⟩=de (.int .i64 (l.getD 0 Gea.zero).k)from hc 0 (dw.2 f) 0 (by omega)),hc⟩⟩,h4⟩
end
end Go.Proofs.YtcdmenphjilnnaaGreatDoor
namespace Go.Proofs.YtcdmenphjilnnaaGreatDoor.lawTopDown
open Go.ChangeShapes Go.WideShapes Go.ChangeAt Go.RowKit Go.Con
theorem lifted(os:Os)(started:os.Started)(H:Type)(fS:TypeId×bd->H):
  ReturnsInHanded {} Tryz.checked os 4 .any (λw args=>(Rows.topDownSpec.pre fS ed Tryz.f4 [] dT w args/\laidMetH ed [("conclave/sha.numbers",Rows.laid_conclave_sha_numbers),("conclave/order.need",Rows.laid_conclave_order_need)] w)/\sizedMet fS ed Tryz.f4 (OpenSpec.ofChange Rows.topDownSpec) dT w args)
   (Rows.topDownSpec.post fS ed Tryz.f4 dT dE dT dT):=by
 refine returnsInHanded_of_change_and (C:=Tryz.checked) (X:=λw _=>laidMetH ed [("conclave/sha.numbers",Rows.laid_conclave_sha_numbers),("conclave/order.need",Rows.laid_conclave_order_need)] w) (λ_ _ _ hh h=>h.of_heap hh) hH started (by kernel_rfl) func4
  (ChangeSpec.witness_shaped (enc:=fS) (C:=Tryz.checked) (os:=os) (X:=λw _=>laidMetH ed [("conclave/sha.numbers",Rows.laid_conclave_sha_numbers),("conclave/order.need",Rows.laid_conclave_order_need)] w) dT (World.doorLaid ed 400 os) #[.slice dl 0 0,.int .i64 0,.slice dl 0 0] 8 rfl (World.shaped_of_RefB (by kernel_rfl) (by kernel_rfl)) (by kernel_rfl) (by kernel_rfl) (by kernel_rfl)
   (laidMetH_of_parts (laidMet_of_run' 8 (by kernel_rfl) (by kernel_rfl)) (by kernel_rfl))) ?_
 intro W base args ds gs before hval0 hW _ hsz0 hL _
 have hval:∀(j:Nat) t v,Tryz.f4.params[j]?=de t->args[j]?=de v->Value.okWide ed W .any base t v:=hval0
 have hW':=hW
 obtain⟨p,q,hA0,hV,rfl,hfz,hnd⟩:=hW
 have hA:DataW.TrodAll fS ed W 0 (λ_=>dE) dE Tryz.f4.params.toList args.toList ds p:=hA0
 rw[Tryz.params4]at hA hval
 obtain⟨v0,vs0,d0,ds0,p0,q0,hargs,rfl,rfl,h0,r0⟩:=trodAll_cons hA
 obtain⟨v1,vs1,d1,ds1,p1,q1,rfl,rfl,rfl,h1,r1⟩:=trodAll_cons r0
 obtain⟨v2,vs2,d2,ds2,p2,q2,rfl,rfl,rfl,h2,r2⟩:=trodAll_cons r1
 obtain⟨rfl,rfl,rfl⟩:=trodAll_nil r2
 obtain rfl:args=#[v0,v1,v2]:=by cases args;simp_all
 obtain⟨rfl,rfl⟩:=trodVars_none hV
 have hL':laidMetH ed [("conclave/sha.numbers",Rows.laid_conclave_sha_numbers),("conclave/order.need",Rows.laid_conclave_order_need)] W:=hL
 rw[MakeChecks.laidMetH_plain _ _ _ (by kernel_rfl)]at hL'
 have hKn:Kn W:=Bz hL'
 have h_need:=xO hL'.tail
 have k0:=h0
 have lt0:∀x∈p0,x.block<W.heap.size:=by obtain⟨m,hm⟩:=k0;exact DataW.trod_lt m _ _ _ hm
 obtain⟨a0,w0⟩:=open_gears (fS:=fS) (hval 0 22 v0 rfl rfl) h0
 have k1:=h1
 have lt1:∀x∈p1,x.block<W.heap.size:=by obtain⟨m,hm⟩:=k1;exact DataW.trod_lt m _ _ _ hm
 obtain⟨a1,w1⟩:=open_int (fS:=fS) (hval 1 3 v1 rfl rfl) h1
 have k2:=h2
 have lt2:∀x∈p2,x.block<W.heap.size:=by obtain⟨m,hm⟩:=k2;exact DataW.trod_lt m _ _ _ hm
 obtain⟨a2,w2⟩:=open_gears (fS:=fS) (hval 2 22 v2 rfl rfl) h2
 clear hA0 hval0
 refine(walk_TopDown v0 a0 v1 a1 v2 a2 W w0 w1 w2 hKn h_need).m λe W' ⟨he,kj⟩=>?_
 subst he
 exact⟨_,rfl,_,_,_,[],_,[],hW',trodAll_mk1 (shut_bool Tryz.underlying4 _),(trodAll_cons_mk (Below.trod laidOut (by kernel_rfl) (fF (by kernel_rfl)) k0 kj lt0) (trodAll_cons_mk (Below.trod laidOut (by kernel_rfl) (fF (by kernel_rfl)) k1 kj lt1) (trodAll_cons_mk (Below.trod laidOut (by kernel_rfl) (fF (by kernel_rfl)) k2 kj lt2) trodAll_mk0))),rfl,kj.frame _,λh=>by cases h⟩
theorem closed:joinedFacts ed 4 Tryz.f4 Rows.topDownSpec Rows.topDownRow=dE:=by
 unfold joinedFacts
 simp only[aP]
 repeat' apply And.intro
 all_goals first|(with_reducible exact may)|(rw[Ni];as_aux_lemma=>kernel_rfl)|(rw[LM];as_aux_lemma=>kernel_rfl)|(as_aux_lemma=>kernel_rfl)
theorem over:Rows.topDownRow.holds Tryz.pinned (OpenSpec.ofChange Rows.topDownSpec):=
 OpenClaim.holds_of_wide 4 Tryz.f4 rfl rfl rfl rfl rfl rfl rfl ⟨rfl,rfl,rfl,rfl,rfl⟩ rfl rfl rfl rfl rfl (by kernel_rfl) func4 closed
  (of_decide_eq_true (by kernel_rfl)) (by unfold Func.isWrapper;first|(rw[if_pos (by decide+kernel)];kernel_rfl)|(rw[if_neg (by decide+kernel)];exact⟨rfl,rfl⟩))
  (λos started H fS _=>lifted os started H fS)
theorem proved:Rows.TopDownCardSaid:=
 Claim7.holds_tied_plain_at .later [] [.data,.data] dE Rows.topDownCard.stood.harness dT
  over (λ_ h=>by cases h) (by kernel_rfl) (λ_ h=>by cases h) topDown_row_tie rfl ⟨rfl,rfl⟩ (by kernel_rfl) rfl
  (λf fn hf hfn=>by
   obtain rfl:f=4:=fT ((show prog.funcNamed "conclave/conclavetop.TopDown" =de 4 by kernel_rfl).symm.t hf)|>.symm
   obtain rfl:fn=Tryz.f4:=(fT (func4.symm.t hfn)).symm
   exact⟨by kernel_rfl,λj t ht=>by
    rw[Tryz.params4]at ht
    have hm:t∈([22,3,22]:List TypeId):=by simpa using Array.mem_of_getElem? ht
    have hall:(([22,3,22]:List TypeId).all λu=>!prog.wantsStandIn u)=dE:=by kernel_rfl
    exact(show prog.wantsStandIn t=dT by simpa using gR.1 hall t hm)⟩)
  (by kernel_rfl)
#print axioms proved
end Go.Proofs.YtcdmenphjilnnaaGreatDoor.lawTopDown
