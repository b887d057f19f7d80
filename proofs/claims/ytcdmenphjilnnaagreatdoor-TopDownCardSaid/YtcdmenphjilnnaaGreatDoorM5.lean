/-
  Parts of the proofs of the laws of the whole (what the functions compute, and plain laws of it); no conditions.
-/
import Derived.Test.YtcdmenphjilnnaaGreatDoorM1
import Derived.ChangeKeysEq
set_option linter.unusedVariables false
set_option linter.unusedSimpArgs false
set_option maxRecDepth 100000
set_option maxHeartbeats 1000000
open Go.Proofs.Tryz
open Go renaming World->ax,Value->bd,Calls->bl
open Go.RowKit renaming Below->dd
open Option renaming some->de,none->dl
open Bool renaming true->dE,false->dT
open Go.Proofs.Tryz renaming prog->ed
namespace Go.Con
set_option maxHeartbeats 2000000
def gx(n:Nat):List UInt8:=[UInt8.ofNat (n/16777216),UInt8.ofNat (n/65536),UInt8.ofNat (n/256),UInt8.ofNat n]
def bk.AJ(c:bk)(k:Nat):Int:=match k with|0=>c.kind|1=>c.bD|2=>c.seq|3=>c.name|_=>c.value
def zZ(c:bk):Nat->List UInt8
 |0=>[]
 |k+1=>zZ c k++gx (c.AJ k).toNat
def pW(c:bk):List UInt8:=zZ c 5
theorem sr(c:bk)(k:Nat):(zZ c k).length=4*k:=by
 induction k with
 |zero=>rfl
 |succ k a=>rw[zZ,aD,a];simp[gx];omega
end Go.Con
namespace Go.Proofs.YtcdmenphjilnnaaGreatDoor
open Go.RowKit Go.Con
set_option maxHeartbeats 2000000
theorem KL(q:Int)(h:0<=q):q/16777216%256=((UInt8.ofNat (q.toNat/16777216)).toNat:Int):=by
 obtain⟨n,rfl⟩:=iU h;rw[bM];simp
theorem KM(q:Int)(h:0<=q):q/65536%256=((UInt8.ofNat (q.toNat/65536)).toNat:Int):=by
 obtain⟨n,rfl⟩:=iU h;rw[bM];simp
theorem MZ(q:Int)(h:0<=q):q/256%256=((UInt8.ofNat (q.toNat/256)).toNat:Int):=by
 obtain⟨n,rfl⟩:=iU h;rw[bM];simp
theorem Na(q:Int)(h:0<=q):q%256=((UInt8.ofNat q.toNat).toNat:Int):=by
 obtain⟨n,rfl⟩:=iU h;rw[bM];simp
theorem Hf(v:bd)(l:List UInt8)(q:Int)(base:Nat)(w:ax)(a:Own w base v l)(hb:base<=w.heap.size)(h0:0<=q)(hl:l.length<=1099511627776):
  bl ed 39 #[v,q] w λe w'=>∃f,e= .returned f/\Own w' base f (l++gx q.toNat)/\Kept w.heap.size (λk=>v.ownBlock=de k) w w':=by
 have i:=ae a;have c:∀W:ax,Rd (W.alloc (.cells #[.int .u8 (q/16777216%256),.int .u8 (q/65536%256),.int .u8 (q/256%256),.int .u8 (q%256)] 5)) (.slice (W.heap.size,0) 4 4) (gx q.toNat):=λW=>
  Gv W _ _ _ _ _ _ _ _ (KL q h0) (KM q h0) (MZ q h0) (Na q h0)
 have h:=ae c;clear a c;go_enter func39,ntmps39
 go_wp2_with (at_builtin;refine uZ rfl (.tmp 5) (.tmp 17) rfl base _ _ l (gx q.toNat) rfl (i.o.alloc _) rfl (h.o _) (by simp[gx];omega) (by simp;omega) ?_;intro v1 m d b;have j:=ae d;have g:=ae b;clear d b)
 go_ret
 refine⟨_,rfl,j.o,?_⟩;refine((Kept.refl _ _ _).alloc (ag _) _).t (Kept.ma g.o (by simp) λk hk=>.inr hk)
theorem sf(b:Nat)(w:ax):
  bl ed 43 #[.pointer (de ⟨b,0,dl⟩)] w λe w'=>e= .returned (.agg #[.pointer (de ⟨b,0,dl⟩),.pointer (de ⟨b,1,dl⟩),.pointer (de ⟨b,2,dl⟩),.pointer (de ⟨b,3,dl⟩),.pointer (de ⟨b,4,dl⟩)])/\dd w.heap.size w w':=by
 go_enter func43,ntmps43
 go_wp2
 refine bQ 16 (by kernel_rfl) (by kernel_rfl) ?_;simp only[bH,cQ,bT,cC];repeat (go_big_quiet_step (fail))
 refine bt ?_;intro i g;obtain⟨nq,rfl⟩:=g;go_wp2
 have hx:∀(W:ax),W.heap[w.heap.size]?=de (.cells #[.pointer dl,.pointer dl,.pointer dl,.pointer dl,.pointer dl] 123 (0,0))->
   (((((W.setCell ⟨w.heap.size,0,dl⟩ (.pointer (de ⟨b,0,dl⟩))).setCell ⟨w.heap.size,1,dl⟩ (.pointer (de ⟨b,1,dl⟩))).setCell ⟨w.heap.size,2,dl⟩ (.pointer (de ⟨b,2,dl⟩))).setCell ⟨w.heap.size,3,dl⟩ (.pointer (de ⟨b,3,dl⟩))).setCell ⟨w.heap.size,4,dl⟩ (.pointer (de ⟨b,4,dl⟩))).heap[w.heap.size]?=
    de (.cells #[.pointer (de ⟨b,0,dl⟩),.pointer (de ⟨b,1,dl⟩),.pointer (de ⟨b,2,dl⟩),.pointer (de ⟨b,3,dl⟩),.pointer (de ⟨b,4,dl⟩)] 123 (0,0)):=by
  intro W h;have h1:=aB (o:=0) h (.pointer (de ⟨b,0,dl⟩));have h2:=aB (o:=1) h1 (.pointer (de ⟨b,1,dl⟩));have h3:=aB (o:=2) h2 (.pointer (de ⟨b,2,dl⟩));have h4:=aB (o:=3) h3 (.pointer (de ⟨b,3,dl⟩));exact aB (o:=4) h4 (.pointer (de ⟨b,4,dl⟩))
 have hx:=hx ((w.alloc (.cells #[.pointer dl,.pointer dl,.pointer dl,.pointer dl,.pointer dl] 123)).drewN nq) (aL w _);have hb:dd w.heap.size w ((((((((w.alloc (.cells #[.pointer dl,.pointer dl,.pointer dl,.pointer dl,.pointer dl] 123)).drewN nq).setCell ⟨w.heap.size,0,dl⟩ (.pointer (de ⟨b,0,dl⟩))).setCell ⟨w.heap.size,1,dl⟩ (.pointer (de ⟨b,1,dl⟩))).setCell ⟨w.heap.size,2,dl⟩ (.pointer (de ⟨b,2,dl⟩))).setCell ⟨w.heap.size,3,dl⟩ (.pointer (de ⟨b,3,dl⟩))).setCell ⟨w.heap.size,4,dl⟩ (.pointer (de ⟨b,4,dl⟩)))):=by
  refine kW (kW (kW (kW (kW (below_drewN (Below.alloc (aj _ _) (ag _) _) nq) ?_ _) ?_ _) ?_ _) ?_ _) ?_ _<;>exact ag _
 generalize a:World.setCell _ _ _=W;rw[a]at hb hx;clear a;refine aH (v:= .agg #[.pointer (de ⟨b,0,dl⟩),.pointer (de ⟨b,1,dl⟩),.pointer (de ⟨b,2,dl⟩),.pointer (de ⟨b,3,dl⟩),.pointer (de ⟨b,4,dl⟩)]) ?_ rfl ⟨rfl,hb⟩;have c0:=ej hx 0 rfl;have c1:=ej hx 1 rfl;have c:=ej hx 2 rfl;have d:=ej hx 3 rfl;have f:=ej hx 4 rfl;clear hx hb;simp[results,Tryz.results43,go_sem,c0,c1,c,d,f]
theorem GS(b k:Nat)(hk:k<5)(W:ax):
  (Instr.index 123 (.agg #[.pointer (de ⟨b,0,dl⟩),.pointer (de ⟨b,1,dl⟩),.pointer (de ⟨b,2,dl⟩),.pointer (de ⟨b,3,dl⟩),.pointer (de ⟨b,4,dl⟩)]) (.int .i64 k)).run ed W= .ok (.pointer (de ⟨b,k,dl⟩)) W:=by
 have h5:k=0\/k=1\/k=2\/k=3\/k=4:=by omega
 rcases h5 with rfl|rfl|rfl|rfl|rfl<;>(show _=_;kernel_rfl)
def rC(c:bk):Array bd:=#[c.kind,c.bD,c.seq,c.name,c.value]
theorem Kd(c:bk)(k:Nat)(hk:k<5):(rC c)[k]?=(c.AJ k):=by
 have h5:k=0\/k=1\/k=2\/k=3\/k=4:=by omega
 rcases h5 with rfl|rfl|rfl|rfl|rfl<;>rfl
theorem uJ(c:bk)(h:cS c=0)(k:Nat):0<=c.AJ k/\c.AJ k<=1073741824:=by
 unfold cS at h;split at h
 ·split at h
  ·rename_i h1 h2;subst h2
   match k with
   |0=>simp[bk.AJ,bk.zero]
   |1=>simp[bk.AJ,bk.zero]
   |2=>simp[bk.AJ,bk.zero]
   |3=>simp[bk.AJ,bk.zero]
   |k+4=>simp[bk.AJ,bk.zero]
  ·cases h
 ·split at h
  ·rename_i h1 h2;split at h
   ·cases h
   ·rename_i h3;have h4:mI c=dE:=by simpa using h3
    unfold mI at h4;have h4:=fF h4
    match k with
    |0=>simp only[bk.AJ];omega
    |1=>simp only[bk.AJ];omega
    |2=>simp only[bk.AJ];omega
    |3=>simp only[bk.AJ];omega
    |k+4=>simp only[bk.AJ];omega
  ·cases h
def KD(w:ax)(R:List UInt8)(c:Int)(e:Ending)(w':ax):Prop:=∃a,e= .returned (.tuple #[a,c])/\Own w' w.heap.size a R/\dd w.heap.size w w'
theorem Ft(c:bk)(w:ax)(hc:cS c=0):
  bl ed 25 #[eG c] w (KD w (pW c) 0):=by
 have L:=ae hc;have z:=λw'=>lR c w';rw[hc]at z;have C:=ae z;clear hc z;unfold eG at C|-;go_enter func25,ntmps25
 go_wp2_with fail
 refine(C.o _).m ?_;rintro e I ⟨rfl,l⟩;have G:I.heap[w.heap.size]?=de (.cells (rC c) 54 (0,0)):=(l.block _ (by simp)).t (aL w _);have a1:w.heap.size+1<=I.heap.size:=by have:=l.size;simpa using this
 have J:=ae (((aj w.heap.size w).alloc (ag _) (.cells (rC c) 54)).t (l.m (by simp)));have Q:=ae G;clear l G;go_wp2_with fail
 refine(sf _ _).m ?_;rintro e X ⟨rfl,m⟩;have V:w.heap.size+1<=X.heap.size:=by have:=m.size;omega
 have R:=ae ((m.block _ (by omega)).t Q.o);have K:=ae (J.o.t (m.m (by omega)));clear m;go_wp2_with fail
 have D:=λk hk W=>GS w.heap.size k hk W;have M:=ae D;clear D;go_loopw [5,14] (λv i wr=>∃k g cap n:Nat,k<=5/\i= .int .i64 k/\Own wr (w.heap.size+1) v (zZ c k)/\wr.heap[w.heap.size]?=de (.cells (rC c) 54 (0,0))/\dd w.heap.size w wr/\w.heap.size+1<=wr.heap.size)
  (λ_ i _=>5-(intOf i).toNat)
 case atStart=>exact⟨0,0,0,0,by omega,rfl,Own.nil _ _,R.o,K.o,V⟩
 case round=>
  obtain⟨k,_,_,_,hk,rfl,y,j,u,hS⟩:=hrel;have b:=ae y;have P:=ae j;have B:=ae u;by_cases hlt:k<5
  ·have S:=ej j k (Kd c k hlt);have Z:=M.o k hlt;obtain⟨q,hq⟩:=aK (c.AJ k);have U:0<=q:=by rw[hq];exact(uJ c L.o k).1
   rw[<-hq]at S;have O:=ae hq;have Y:=sr c k;clear y j u hq;go_wp2_with (go_at_call 39;refine(Hf _ (zZ c k) q (w.heap.size+1) _ b.o hS U (by omega)).m ?_;rintro e w3 ⟨v3,rfl,F,E⟩;have N:=ae F;have r:=ae E;clear F E)
   have a0:=b.o.lt;go_roundw
   case rel=>
    refine⟨k+1,0,0,0,by omega,by go_num,?_,?_,?_,?_⟩
    ·rw[zZ,<-O.o];exact N.o
    ·exact(r.o.block _ (by omega) (λe=>by have:=(b.o.lt _ e).1;omega)).t P.o
    ·exact B.o.t ((r.o.m (B':=w.heap.size) (S':=λ_=>False) (by omega) (λk hk h=>by have:=(b.o.lt _ h).1;omega)).below (λ_ _ h=>h))
    ·have:=r.o.size;omega
   case measure=>simp[intOf];omega
  ·clear y j u;go_wp2
   go_ret2
   have T:k=5:=by omega
   have h:=b.o;rw[T]at h;exact⟨_,rfl,h.m (by omega),B.o⟩
end Go.Proofs.YtcdmenphjilnnaaGreatDoor
namespace Go.Con
open Go.RowKit
set_option maxHeartbeats 8000000
theorem LF(x y:Nat)(hx:x<9223372036854775808)(hy:y<9223372036854775808):bits .or .i64 (x:Int) (y:Int)=((x|||y:Nat):Int):=by
 show IntKind.i64.wrap ((BitVec.ofInt 64 (x:Int)|||BitVec.ofInt 64 (y:Int)).toNat:Int)=_;have a:(x|||y)<2^63:=Nat.or_lt_two_pow hx hy;rw[iy,iy,BitVec.toNat_or,jl,jl,ft (by omega),ft (by omega)];exact IntWalk.i64_in _ (by omega)
theorem uh(a b i:Nat)(h:b<2^i):(a*2^i|||b)=a*2^i+b:=by
 have:=Nat.shiftLeft_add_eq_or_of_lt h a;rw[nl]at this;exact this.symm
theorem ya(a b c d:UInt8):
  bits .or .i64 (bits .or .i64 (bits .or .i64 (wrap64 (wrap64 (a.toNat:Int)*16777216)) (wrap64 (wrap64 (b.toNat:Int)*65536))) (wrap64 (wrap64 (c.toNat:Int)*256))) (wrap64 (d.toNat:Int))
   =((a.toNat*16777216+b.toNat*65536+c.toNat*256+d.toNat:Nat):Int):=by
 have h0:=a.toNat_lt;have h1:=b.toNat_lt;have h2:=c.toNat_lt;have h3:=d.toNat_lt;have w (n:Nat) (h:n<9223372036854775808):wrap64 (n:Int)=n:=IntWalk.wrap64_in _ (by omega);rw[w _ (by omega),w _ (by omega),w _ (by omega),w _ (by omega)];rw[show(a.toNat:Int)*16777216=((a.toNat*16777216:Nat):Int) by omega,show(b.toNat:Int)*65536=((b.toNat*65536:Nat):Int) by omega,show(c.toNat:Int)*256=((c.toNat*256:Nat):Int) by omega];rw[w _ (by omega),w _ (by omega),w _ (by omega)];have e1:=uh a.toNat (b.toNat*65536) 24 (by omega);have e2:=uh (a.toNat*256+b.toNat) (c.toNat*256) 16 (by omega);have e3:=uh (a.toNat*65536+b.toNat*256+c.toNat) d.toNat 8 (by omega);rw[LF _ _ (by omega) (by omega)];rw[show(2:Nat)^24=16777216 by rfl]at e1;rw[show(2:Nat)^16=65536 by rfl]at e2;rw[show(2:Nat)^8=256 by rfl]at e3;rw[e1,LF _ _ (by omega) (by omega)];rw[show a.toNat*16777216+b.toNat*65536=(a.toNat*256+b.toNat)*65536 by omega,e2,LF _ _ (by omega) (by omega)];rw[show(a.toNat*256+b.toNat)*65536+c.toNat*256=(a.toNat*65536+b.toNat*256+c.toNat)*256 by omega,e3]
set_option maxHeartbeats 800000
def Int64(n:Int):Prop:=-9223372036854775808<=n/\n<=9223372036854775807
def Mp(x:bk):Prop:=Int64 x.kind/\Int64 x.bD/\Int64 x.seq/\Int64 x.name/\Int64 x.value
set_option maxHeartbeats 4000000
def rG(s:Int)(b v:cF):cF:=if v.slot=s/\0<dX v.bG b.bG then v else b
def dJ(s:Int)(b:cF)(l:List cF):cF:=l.foldl (rG s) b
theorem uX(s:Int)(b:cF)(l:List cF)(v:cF):dJ s b (l++[v])=rG s (dJ s b l) v:=by
 unfold dJ;rw[List.foldl_append];rfl
theorem lH(s:Int)(b:cF)(l m:List cF):dJ s b (l++m)=dJ s (dJ s b l) m:=by
 unfold dJ;rw[List.foldl_append]
def vQ(w:ax)(v:bd)(ls:List (List cF)):Prop:=
 ∃a c,v= .slice a ls.length c/\ls.length<=c/\c<=maxLen/\(ls≠[]->∃b off,a=de ⟨b,off,dl⟩/\b<w.heap.size/\∀i,i<ls.length->∃x,w.cell? ⟨b,off+i,dl⟩=de x/\gN 8 aS cF.zero w x (ls.getD i []))
theorem vQ.stay{w w':ax}{v:bd}{ls:List (List cF)}(h:vQ w v ls)(hb:dd w.heap.size w w'):vQ w' v ls:=by
 obtain⟨a,c,rfl,h1,h2,h3⟩:=h;refine⟨a,c,rfl,h1,h2,λhl=>?_⟩;obtain⟨b,off,rfl,d,hc⟩:=h3 hl;refine⟨b,off,rfl,ai d hb.size,λi hi=>?_⟩;obtain⟨x,hx,hr⟩:=hc i hi;refine⟨x,?_,hr.heap (λq _ hq=>hb.block q hq)⟩;rw[<-hx];exact aw (w:=w) (hb.block b d)
structure Ky(t30 t32:TypeId)(w wr:ax)(b:cF):Prop where
 o:wr.heap[w.heap.size]?=de (.cells #[.int .i64 0,.int .i64 0,.int .i64 0,.int .i64 0,.int .i64 0] t30 (0,0))
 Ip:wr.heap[w.heap.size+1]?=de (.cells (aS b).toArray t32 (0,0))
 below:dd w.heap.size w wr
 room:w.heap.size+1<wr.heap.size
end Go.Con
namespace Go.Proofs.YtcdmenphjilnnaaGreatDoor
open Go.RowKit Go.Con
set_option maxHeartbeats 4000000
abbrev yB:=Ky 54 109
theorem IC(v:bd)(ls:List (List cF))(s:Int)(w:ax)(hv:vQ w v ls)(f0:0<=s)(f1:s<40)(b4:∀l∈ls,∀x∈l,jJ x=dE):
  bl ed 131 #[v,.int .i64 s] w λe w'=>e= .returned (.tuple #[eG (dJ s cF.zero ls.flatten).cW,.bool (decide (0<(dJ s cF.zero ls.flatten).bG.1)),.int .i64 0])/\dd w.heap.size w w':=by
 obtain⟨ea,ec,rfl,hle,d4,-⟩:=id hv;obtain⟨n,hn⟩:=aK ls.length;rw[<-hn]at hv hle|-;have e6:ec<=9223372036854775807:=d4;obtain⟨R,hR⟩:=aK (dJ s cF.zero ls.flatten);rw[<-hR];have HV:=ae hv;have HN:=ae hn;have HR:=ae hR;have c4:=ae b4;have d0:decide (s<0)=dT:=by rw[ah];omega
 have d1:decide (40<=s)=dT:=by rw[ah];omega
 clear hv hn hR b4;go_enter func131,ntmps131
 go_wp2_with fail
 generalize u:World.alloc _ _=w1;have c1:yB w w1 (dJ s cF.zero (ls.take 0).flatten):=by
  rw[<-u];refine⟨?_,?_,((aj _ _).alloc (ag _) _).alloc (by simp) _,by simp⟩
  ·rw[bC _ _ _ (by simp)];exact aL _ _
  ·have h:=aL (w.alloc (.cells #[.int .i64 0,.int .i64 0,.int .i64 0,.int .i64 0,.int .i64 0] 54)) (.cells #[.int .i64 0,.int .i64 0,.int .i64 0,.int .i64 0,.int .i64 0,.int .i64 0,.int .i64 0,.int .i64 0] 109);have e:(w.alloc (.cells #[.int .i64 0,.int .i64 0,.int .i64 0,.int .i64 0,.int .i64 0] 54)).heap.size=w.heap.size+1:=by simp
   rw[e]at h;exact h
 have c8:=ae c1;clear c1 u;go_loopw [21] (λi wr=>∃j:Nat,j<=n/\i= .int .i64 j/\Hid (yB w wr (dJ s cF.zero (ls.take j).flatten))) (λi _=>n-(intOf i).toNat)
 case atStart=>exact⟨0,by omega,rfl,c8⟩
 case round=>
  obtain⟨j,e7,rfl,a⟩:=hrel;by_cases h1:j<n
  ·have d5:decide ((j:Int)<n)=dE:=by rw[ap];omega
   have d6:decide (j<n)=dE:=by rw[ap];omega
   obtain⟨a',c',he,-,-,a8⟩:=HV.o;injection he with e1 e2 e3;subst e1;obtain⟨eb,c9,rfl,b0,a9⟩:=a8 (by intro h;have h2:=HN.o;rw[h]at h2;simp at h2;omega);have U:j<ls.length:=by rw[<-HN.o];exact h1
   obtain⟨x,hx,Q⟩:=a9 j U;obtain⟨l,hl⟩:=aK (ls.getD j []);rw[<-hl]at Q;have b8:(ls.take (j+1)).flatten=(ls.take j).flatten++l:=by
    rw[eA,aC U,hl,au,aC U,List.flatten_append];simp
   have b6:∀y∈l,jJ y=dE:=c4.o l (by rw[hl,au,aC U];exact dW _);have c0:wr.cell? ⟨eb,c9+j,dl⟩=de x:=by
    rw[<-hx];exact aw (w:=w) (a.o.below.block eb b0)
   obtain⟨la,lc,rfl,d9,e0,-⟩:=id Q;obtain⟨m,hm⟩:=aK l.length;rw[<-hm]at d9 c0 Q;have e8:lc<=9223372036854775807:=e0;have c6:=ae Q;have HM:=ae hm;have c7:=ae b8;have c5:=ae b6;clear a8 a9 hx Q hl b8 b6 hm b0 e2 e3;go_wp2_with fail
   clear c0;obtain⟨o,a5⟩:=aK (dJ s cF.zero (ls.take j).flatten);rw[<-a5]at a;have c3:=ae a5;clear a5;have inv1:Hid (yB w wr (dJ s o (l.take 0))):=ae a.o;go_loopw [27] (λi wr=>∃q:Nat,q<=m/\i= .int .i64 q/\Hid (yB w wr (dJ s o (l.take q)))) (λi _=>m-(intOf i).toNat)
   case atStart=>exact⟨0,by omega,rfl,inv1⟩
   case round=>
    clear inv1 a;obtain⟨q,e9,rfl,a⟩:=hrel;by_cases h2:q<m
    ·have d7:decide ((q:Int)<m)=dE:=by rw[ap];omega
     have d8:decide (q<m)=dE:=by rw[ap];omega
     obtain⟨fb,d2,rfl,hfl,a7⟩:=c6.o.cells.2.2 q h2;have V:q<l.length:=by rw[<-HM.o];exact h2
     obtain⟨v,hv⟩:=aK (l.getD q cF.zero);rw[<-hv]at a7;have b9:jJ v=dE:=c5.o v (by rw[hv,au,aC V];exact dW _);have T:dJ s o (l.take (q+1))=rG s (dJ s o (l.take q)) v:=by
      rw[<-uX,eA,aC V,hv,au,aC V];rfl
     obtain⟨B,hB⟩:=aK (dJ s o (l.take q));rw[<-hB]at a T;have b1:∀p,p<8->wr.cell? ⟨fb,d2+(8*q+p),dl⟩=(aS v)[p]?:=λp hp=>by
      rw[<-a7 p hp];exact aw (w:=w) (a.o.below.block fb hfl)
     have I:=a.o.room;obtain⟨sl,⟨P,O⟩,⟨k,cl,X,W,Z⟩⟩:=v;obtain⟨tl,⟨K,Y⟩,⟨tk,E,G,F,H⟩⟩:=B;obtain⟨x0,x1,x2,x3,x4,x5,x6,x7⟩:=rD b1;dsimp only at x0 x1 x2 x3 x4 x5 x6 x7 T;obtain⟨c2,a6⟩:=aK (dX (P,O) (K,Y));have e4:=ae a6.symm;have e5:=ae b9;have d3:((sl==s)=dT/\dJ s o (l.take (q+1))=⟨tl,(K,Y),⟨tk,E,G,F,H⟩⟩)\/((sl==s)=dE/\decide (0<c2)=dT/\dJ s o (l.take (q+1))=⟨tl,(K,Y),⟨tk,E,G,F,H⟩⟩)\/((sl==s)=dE/\decide (0<c2)=dE/\dJ s o (l.take (q+1))=⟨sl,(P,O),⟨k,cl,X,W,Z⟩⟩):=by
      rw[T];unfold rG;dsimp only;rw[<-a6];by_cases C:sl=s
      ·by_cases M:0<c2
       ·exact .inr (.inr ⟨by simpa using C,by simpa using M,ar ⟨C,M⟩⟩)
       ·exact .inr (.inl ⟨by simpa using C,by simpa using M,ak (λh=>M h.2)⟩)
      ·exact .inl ⟨by simpa using C,ak (λh=>C h.1)⟩
     clear a7 b1 hv b9 T hB a6 V hfl;rcases d3 with⟨C,D⟩|⟨C,M,D⟩|⟨C,M,D⟩
     ·have N:=ae D;clear D;go_wp2_with (first
       |(go_at_call 116;refine(nO _ _ _ _ _ _ _ _ _ _ (by assumption)).m ?_;rintro e w2 ⟨rfl,r⟩;have f:=ae (((aj wr.heap.size wr).alloc (ag _) (.cells #[.int .i64 sl,.int .i64 P,.int .i64 O,.int .i64 k,.int .i64 cl,.int .i64 X,.int .i64 W,.int .i64 Z] 109)).t (r.m (by simp)));have d:=(r.block wr.heap.size (by simp)).t (aL _ _);have u0:=ej d 0 rfl;clear r d))
      have g:Hid (yB w w2 (dJ s o (l.take (q+1)))):=ae (by
       rw[N.o];refine⟨(f.o.block _ (by omega)).t a.o.o,(f.o.block _ I).t a.o.Ip,a.o.below.t (f.o.m (by omega)),ai I f.o.size⟩)
      go_roundw
      case rel=>exact⟨q+1,by omega,by go_num,g⟩
      case measure=>simp[intOf];omega
     ·have N:=ae D;clear D;go_wp2_with (first
       |(go_at_call 116;refine(nO _ _ _ _ _ _ _ _ _ _ (by assumption)).m ?_;rintro e w2 ⟨rfl,r⟩;have f:=ae (((aj wr.heap.size wr).alloc (ag _) (.cells #[.int .i64 sl,.int .i64 P,.int .i64 O,.int .i64 k,.int .i64 cl,.int .i64 X,.int .i64 W,.int .i64 Z] 109)).t (r.m (by simp)));have d:=(r.block wr.heap.size (by simp)).t (aL _ _);have G5:=ae d;have t:=(f.o.block _ I).t a.o.Ip;have G7:=ae t;have u0:=ej d 0 rfl;have u1:=ej d 1 rfl;have u2:=ej d 2 rfl;have p1:=ej t 1 rfl;have p2:=ej t 2 rfl;clear r d t)
       |(go_at_call 114;refine(iP _ _ _ _ _ _ (by assumption)).m ?_;rintro e w3 ⟨rfl,J⟩;have z:=ae (f.o.t (J.m f.o.size));clear J))
      have g:Hid (yB w w3 (dJ s o (l.take (q+1)))):=ae (by
       rw[N.o];refine⟨(z.o.block _ (by omega)).t a.o.o,(z.o.block _ I).t a.o.Ip,a.o.below.t (z.o.m (by omega)),ai I z.o.size⟩)
      go_roundw
      case rel=>exact⟨q+1,by omega,by go_num,g⟩
      case measure=>simp[intOf];omega
     ·have N:=ae D;clear D;go_upto_region 14 with(first
       |(go_at_call 116;refine(nO _ _ _ _ _ _ _ _ _ _ (by assumption)).m ?_;rintro e w2 ⟨rfl,r⟩;have f:=ae (((aj wr.heap.size wr).alloc (ag _) (.cells #[.int .i64 sl,.int .i64 P,.int .i64 O,.int .i64 k,.int .i64 cl,.int .i64 X,.int .i64 W,.int .i64 Z] 109)).t (r.m (by simp)));have d:=(r.block wr.heap.size (by simp)).t (aL _ _);have G5:=ae d;have t:=(f.o.block _ I).t a.o.Ip;have G7:=ae t;have u0:=ej d 0 rfl;have u1:=ej d 1 rfl;have u2:=ej d 2 rfl;have p1:=ej t 1 rfl;have p2:=ej t 2 rfl;clear r d t)
       |(go_at_call 114;refine(iP _ _ _ _ _ _ (by assumption)).m ?_;rintro e w3 ⟨rfl,J⟩;have z:=ae (f.o.t (J.m f.o.size));have c:=(J.block _ (hF G5.o)).t G5.o;have b:=(J.block _ (hF G7.o)).t G7.o;have K7:=ae b;have y0:=ej c 0 rfl;have y1:=ej c 1 rfl;have y2:=ej c 2 rfl;have y3:=ej c 3 rfl;have y4:=ej c 4 rfl;have y5:=ej c 5 rfl;have y6:=ej c 6 rfl;have y7:=ej c 7 rfl;have z0:=ej b 0 rfl;have z1:=ej b 1 rfl;have z2:=ej b 2 rfl;have z3:=ej b 3 rfl;have z4:=ej b 4 rfl;have z5:=ej b 5 rfl;have z6:=ej b 6 rfl;have z7:=ej b 7 rfl;have zf:=aO b;clear J c b))
      generalize u:World.setCell _ _ _=w4;have g:Hid (yB w w4 (dJ s o (l.take (q+1)))):=ae (by
       rw[N.o,<-u];have A:w.heap.size≠w.heap.size+1:=by omega
       have hle:w.heap.size<=w.heap.size+1:=by omega
       have b3:=a.o.below.t (z.o.m (by omega));refine⟨?_,?_,?_,?_⟩
       ·rw[aA _ _ A,aA _ _ A,aA _ _ A,aA _ _ A,aA _ _ A,aA _ _ A,aA _ _ A,aA _ _ A];exact(z.o.block _ (by omega)).t a.o.o
       ·exact aB (aB (aB (aB (aB (aB (aB (aB K7.o _) _) _) _) _) _) _) _
       ·exact(((((((b3.setCell hle _).setCell hle _).setCell hle _).setCell hle _).setCell hle _).setCell hle _).setCell hle _).setCell hle _
       ·simp;exact ai I z.o.size)
      clear u;clear z0 z1 z2 z3 z4 z5 z6 z7 zf y0 y1 y2 y3 y4 y5 y6 y7;go_wp2_with fail
      go_roundw
      case rel=>exact⟨q+1,by omega,by go_num,g⟩
      case measure=>simp[intOf];omega
    ·have b7:q=m:=by omega
     have d7:decide ((q:Int)<m)=dT:=by rw[ah];omega
     have d8:decide (q<m)=dT:=by rw[ah];omega
     have g:Hid (yB w wr (dJ s cF.zero (ls.take (j+1)).flatten)):=ae (by
      have h:=a.o;rw[show l.take q=l by rw[b7,HM.o,dV],c3.o,<-lH,<-c7.o]at h;exact h)
     clear b7;go_wp2_with fail
     go_roundw
     case rel=>exact⟨j+1,by omega,by go_num,g⟩
     case measure=>simp[intOf];omega
  ·have b2:j=n:=by omega
   have d5:decide ((j:Int)<n)=dT:=by rw[ah];omega
   have d6:decide (j<n)=dT:=by rw[ah];omega
   have g:Hid (yB w wr R):=ae (by
    have h:=a.o;rw[show ls.take j=ls by rw[b2,HN.o,dV],<-HR.o]at h;exact h)
   clear b2;obtain⟨tl,⟨K,Y⟩,⟨tk,E,G,F,H⟩⟩:=R;have b:=g.o.Ip;have c:=g.o.o;have z1:wr.cell? ⟨w.heap.size+1,1,dl⟩=de (.int .i64 K):=ej b 1 rfl;have z3:wr.cell? ⟨w.heap.size+1,3,dl⟩=de (.int .i64 tk):=ej b 3 rfl;have z4:wr.cell? ⟨w.heap.size+1,4,dl⟩=de (.int .i64 E):=ej b 4 rfl;have z5:wr.cell? ⟨w.heap.size+1,5,dl⟩=de (.int .i64 G):=ej b 5 rfl;have z6:wr.cell? ⟨w.heap.size+1,6,dl⟩=de (.int .i64 F):=ej b 6 rfl;have z7:wr.cell? ⟨w.heap.size+1,7,dl⟩=de (.int .i64 H):=ej b 7 rfl;have y0:wr.cell? ⟨w.heap.size,0,dl⟩=de (.int .i64 0):=ej c 0 rfl;have y1:wr.cell? ⟨w.heap.size,1,dl⟩=de (.int .i64 0):=ej c 1 rfl;have y2:wr.cell? ⟨w.heap.size,2,dl⟩=de (.int .i64 0):=ej c 2 rfl;have y3:wr.cell? ⟨w.heap.size,3,dl⟩=de (.int .i64 0):=ej c 3 rfl;have y4:wr.cell? ⟨w.heap.size,4,dl⟩=de (.int .i64 0):=ej c 4 rfl;have yf:=aO c;clear c b;go_wp2_with fail
   go_region_held3 (λw'=>w'.cell? ⟨w.heap.size+1,1,dl⟩=de (.int .i64 K)/\w'.cell? ⟨w.heap.size+1,3,dl⟩=de (.int .i64 tk)/\w'.cell? ⟨w.heap.size+1,4,dl⟩=de (.int .i64 E)/\w'.cell? ⟨w.heap.size+1,5,dl⟩=de (.int .i64 G)/\w'.cell? ⟨w.heap.size+1,6,dl⟩=de (.int .i64 F)/\w'.cell? ⟨w.heap.size+1,7,dl⟩=de (.int .i64 H)) (go_keep) (fail)
   all_goals go_wp2_with fail
   generalize u:World.drew _=L;have S:L.heap[w.heap.size]?=de (.cells #[.int .i64 tk,.int .i64 E,.int .i64 G,.int .i64 F,.int .i64 H] 54 (0,0)):=by
    rw[<-u];exact aB (aB (aB (aB (aB g.o.o _) _) _) _) _
   have b5:dd w.heap.size w L:=by
    have hle:w.heap.size<=w.heap.size:=ag _;rw[<-u];exact(((((g.o.below.setCell hle _).setCell hle _).setCell hle _).setCell hle _).setCell hle _).drew
   clear u z1 z3 z4 z5 z6 z7 y0 y1 y2 y3 y4 yf;have a0:L.cell? ⟨w.heap.size,0,dl⟩=de (.int .i64 tk):=ej S 0 rfl;have a1:L.cell? ⟨w.heap.size,1,dl⟩=de (.int .i64 E):=ej S 1 rfl;have a2:L.cell? ⟨w.heap.size,2,dl⟩=de (.int .i64 G):=ej S 2 rfl;have a3:L.cell? ⟨w.heap.size,3,dl⟩=de (.int .i64 F):=ej S 3 rfl;have a4:L.cell? ⟨w.heap.size,4,dl⟩=de (.int .i64 H):=ej S 4 rfl;refine aH (v:= .tuple #[.agg #[.int .i64 tk,.int .i64 E,.int .i64 G,.int .i64 F,.int .i64 H],.bool (decide (0<K)),.int .i64 0]) ?_ rfl ⟨rfl,b5⟩;simp[results,Tryz.results131,go_sem,a0,a1,a2,a3,a4]
end Go.Proofs.YtcdmenphjilnnaaGreatDoor
namespace Go.Con
set_option maxHeartbeats 800000
structure dA where
 n:List Int
 r:List Bool
 deriving DecidableEq
def dA.zero:dA:=⟨List.replicate 32 0,List.replicate 8 dT⟩
def dA.val(s:dA)(i:Nat):Int:=s.n.getD i 0
def dA.last(s:dA)(c:Nat):Int:=s.n.getD (8+c) 0
def dA.code(s:dA)(c:Nat):Int:=s.n.getD (16+2*c) 0
def dA.qN(s:dA)(c:Nat):Int:=s.n.getD (17+2*c) 0
def dA.rev(s:dA)(c:Nat):Bool:=s.r.getD c dT
def dA.cells(s:dA):List bd:=s.n.map (Value.int .i64)++s.r.map Value.bool
structure dA.Ok(s:dA):Prop where
 ln:s.n.length=32
 lr:s.r.length=8
 Lp:∀i,i<8->0<=s.val i
 Lo:∀i,i<8->s.val i<=1073741824
 KT:∀c,c<8->0<=s.last c
 KS:∀c,c<8->s.last c<=1048577
 none:∀c,c<8->s.last c=0->s.code c=0/\s.qN c=0
 Nw:∀c,c<8->s.code c=0
 OG:∀c,c<8->0<=s.qN c
 OD:∀c,c<8->s.qN c<=1073741824
def dA.fresh(s:dA)(c:bk):Bool:=decide (c.kind≠0)&&(decide (s.last c.bD.toNat<=c.seq)&&!s.rev c.bD.toNat)
def dA.told(s:dA)(c:bk):Int:=if c.kind=1 then c.value else if c.kind=2 then s.val c.name.toNat else 0
def dA.done(s:dA)(c:bk):dA:=
 ⟨(((if c.kind=1 then(s.n.set (8+c.bD.toNat) (c.seq+1)).set c.name.toNat c.value else s.n.set (8+c.bD.toNat) (c.seq+1)).set (16+2*c.bD.toNat) 0).set (17+2*c.bD.toNat) (s.told c)),
  if c.kind=3 then s.r.set c.name.toNat dE else s.r⟩
def dA.next(s:dA)(c:bk):dA:=if s.fresh c then s.done c else s
def dA.answer(s:dA)(c:bk):Int×Int:=
 if c.kind=0 then(0,0)
 else if c.seq+1=s.last c.bD.toNat then(s.code c.bD.toNat,s.qN c.bD.toNat)
 else if c.seq<s.last c.bD.toNat then(7,0)
 else if s.rev c.bD.toNat=dE then(11,0)
 else(0,s.told c)
theorem dA.sR:dA.zero.Ok:=by
 refine⟨rfl,rfl,?_,?_,?_,?_,?_,?_,?_,?_⟩<;>decide
structure bk.Real(c:bk):Prop where
 k1:1<=c.kind
 k3:c.kind<=3
 c0:0<=c.bD
 c7:c.bD<=7
 s0:0<=c.seq
 s1:c.seq<=1048576
 n0:0<=c.name
 n7:c.name<=7
 v0:0<=c.value
 v1:c.value<=1073741824
theorem oN{c:bk}(h:cS c=0):c=bk.zero\/c.Real:=by
 unfold cS at h;by_cases h0:c.kind=0
 ·rw[ar h0]at h;by_cases b:c=bk.zero
  ·exact Or.inl b
  ·rw[ak b]at h;exact absurd h (by decide)
 ·rw[ak h0]at h;by_cases h1:1<=c.kind/\c.kind<=3
  ·rw[ar h1]at h;by_cases hr:mI c=dT
   ·rw[ar hr]at h;exact absurd h (by decide)
   ·have a:mI c=dE:=by simpa using hr
    unfold mI at a;rw[ap]at a;exact Or.inr ⟨h1.1,h1.2,a.1,a.2.1,a.2.2.1,a.2.2.2.1,a.2.2.2.2.1,a.2.2.2.2.2.1,a.2.2.2.2.2.2.1,a.2.2.2.2.2.2.2⟩
  ·rw[ak h1]at h;exact absurd h (by decide)
theorem qI{α:Type}(l:List α)(i j:Nat)(x d:α):(l.set i x).getD j d=if i=j/\j<l.length then x else l.getD j d:=by
 by_cases h:i=j
 ·subst h;by_cases hl:i<l.length
  ·simp[hl]
  ·simp[hl]
 ·simp[h,gB]
theorem dA.ye(s:dA)(h:s.Ok)(c:bk)(hc:c.Real)(j:Nat):(s.done c).n.getD j 0=
  if j=17+2*c.bD.toNat then s.told c else if j=16+2*c.bD.toNat then 0 else if c.kind=1/\j=c.name.toNat then c.value else if j=8+c.bD.toNat then c.seq+1 else s.n.getD j 0:=by
 have h1:=hc.c0;have h2:=hc.c7;have h3:=hc.n0;have h4:=hc.n7;have hl:=h.ln;unfold dA.done;dsimp only;by_cases hk:c.kind=1
 ·simp only[hk,if_true,true_and];repeat rw[qI]
  simp only[cD,hl];by_cases a1:j=17+2*c.bD.toNat
  ·rw[ar ⟨a1.symm,by omega⟩,ar a1]
  rw[ak (by intro h;exact a1 h.1.symm),ak a1];by_cases a2:j=16+2*c.bD.toNat
  ·rw[ar ⟨a2.symm,by omega⟩,ar a2]
  rw[ak (by intro h;exact a2 h.1.symm),ak a2];by_cases a3:j=c.name.toNat
  ·rw[ar ⟨a3.symm,by omega⟩,ar a3]
  rw[ak (by intro h;exact a3 h.1.symm),ak a3];by_cases a4:j=8+c.bD.toNat
  ·rw[ar ⟨a4.symm,by omega⟩,ar a4]
  rw[ak (by intro h;exact a4 h.1.symm),ak a4]
 ·simp only[hk,if_false,false_and];repeat rw[qI]
  simp only[cD,hl];by_cases a1:j=17+2*c.bD.toNat
  ·rw[ar ⟨a1.symm,by omega⟩,ar a1]
  rw[ak (by intro h;exact a1 h.1.symm),ak a1];by_cases a2:j=16+2*c.bD.toNat
  ·rw[ar ⟨a2.symm,by omega⟩,ar a2]
  rw[ak (by intro h;exact a2 h.1.symm),ak a2];by_cases a4:j=8+c.bD.toNat
  ·rw[ar ⟨a4.symm,by omega⟩,ar a4]
  rw[ak (by intro h;exact a4 h.1.symm),ak a4]
theorem dA.Ab(s:dA)(h:s.Ok)(c:bk)(hc:c.Real)(i:Nat)(hi:i<8):(s.done c).val i=if c.kind=1/\i=c.name.toNat then c.value else s.val i:=by
 unfold dA.val;rw[dA.ye s h c hc,ak (by omega),ak (by omega)];by_cases a:c.kind=1/\i=c.name.toNat
 ·rw[ar a,ar a]
 ·rw[ak a,ak a,ak (by omega)]
theorem dA.rA(s:dA)(h:s.Ok)(c:bk)(hc:c.Real)(k:Nat)(hk:k<8):(s.done c).last k=if k=c.bD.toNat then c.seq+1 else s.last k:=by
 have h1:=hc.c0;have h2:=hc.c7;have h3:=hc.n0;have h4:=hc.n7;unfold dA.last;rw[dA.ye s h c hc,ak (by omega),ak (by omega),ak (by omega)];by_cases a:k=c.bD.toNat
 ·rw[ar (by omega),ar a]
 ·rw[ak (by omega),ak a]
theorem dA.wV(s:dA)(h:s.Ok)(c:bk)(hc:c.Real)(k:Nat)(hk:k<8):(s.done c).code k=if k=c.bD.toNat then 0 else s.code k:=by
 have h1:=hc.c0;have h2:=hc.c7;have h3:=hc.n0;have h4:=hc.n7;unfold dA.code;rw[dA.ye s h c hc,ak (by omega)];by_cases a:k=c.bD.toNat
 ·rw[ar (by omega),ar a]
 ·rw[ak (by omega),ak (by omega),ak (by omega),ak a]
theorem dA.rB(s:dA)(h:s.Ok)(c:bk)(hc:c.Real)(k:Nat)(hk:k<8):(s.done c).qN k=if k=c.bD.toNat then s.told c else s.qN k:=by
 have h1:=hc.c0;have h2:=hc.c7;have h3:=hc.n0;have h4:=hc.n7;unfold dA.qN;rw[dA.ye s h c hc];by_cases a:k=c.bD.toNat
 ·rw[ar (by omega),ar a]
 ·rw[ak (by omega),ak (by omega),ak (by omega),ak (by omega),ak a]
theorem dA.Df(s:dA)(h:s.Ok)(c:bk)(hc:c.Real):(s.done c).Ok:=by
 have f:=hc.s0;have g:=hc.s1;have b:0<=s.told c/\s.told c<=1073741824:=by
  have d:=hc.n0;have e:=hc.n7;unfold dA.told;split
  ·exact⟨hc.v0,hc.v1⟩
  ·split
   ·exact⟨h.Lp _ (by omega),h.Lo _ (by omega)⟩
   ·exact⟨by omega,by omega⟩
 refine⟨?_,?_,λi hi=>?_,λi hi=>?_,λk hk=>?_,λk hk=>?_,λk hk h0=>?_,λk hk=>?_,λk hk=>?_,λk hk=>?_⟩
 ·unfold dA.done;dsimp only;split<;>simp[h.ln]
 ·unfold dA.done;dsimp only;split<;>simp[h.lr]
 ·rw[dA.Ab s h c hc i hi];split
  ·exact hc.v0
  ·exact h.Lp i hi
 ·rw[dA.Ab s h c hc i hi];split
  ·exact hc.v1
  ·exact h.Lo i hi
 ·rw[dA.rA s h c hc k hk];split
  ·omega
  ·exact h.KT k hk
 ·rw[dA.rA s h c hc k hk];split
  ·omega
  ·exact h.KS k hk
 ·rw[dA.rA s h c hc k hk]at h0;by_cases a:k=c.bD.toNat
  ·rw[ar a]at h0;omega
  ·rw[ak a]at h0;rw[dA.wV s h c hc k hk,dA.rB s h c hc k hk,ak a,ak a];exact h.none k hk h0
 ·rw[dA.wV s h c hc k hk];split
  ·rfl
  ·exact h.Nw k hk
 ·rw[dA.rB s h c hc k hk];split
  ·exact b.1
  ·exact h.OG k hk
 ·rw[dA.rB s h c hc k hk];split
  ·exact b.2
  ·exact h.OD k hk
theorem dA.CU(s:dA)(h:s.Ok)(c:bk)(hc:cS c=0):(s.next c).Ok:=by
 unfold dA.next;by_cases a:s.fresh c=dE
 ·rw[ar a];rcases oN hc with rfl|hr
  ·simp[dA.fresh,bk.zero]at a
  ·exact dA.Df s h c hr
 ·rw[ak a];exact h
def dA.all(s:dA):List bk->dA
 |[]=>s
 |c::l=>(s.next c).all l
theorem dA.Iu(s:dA)(l:List bk)(c:bk):s.all (l++[c])=(s.all l).next c:=by
 induction l generalizing s with
 |nil=>rfl
 |cons d l a=>exact a (s.next d)
set_option maxHeartbeats 400000
theorem dA.Bt(s:dA)(c:bk)(hc:c.Real)(hl:s.last c.bD.toNat<=c.seq)(hr:s.rev c.bD.toNat=dT):s.next c=s.done c/\s.answer c=(0,s.told c):=by
 have hk:=hc.k1;have a:s.fresh c=dE:=by unfold dA.fresh;simp[hl,hr];omega
 refine⟨by unfold dA.next;rw[if_pos a],?_⟩;unfold dA.answer;rw[ak (by omega),ak (by omega),ak (by omega),ak (by simp[hr])]
theorem dA.Gt(s:dA)(c:bk)(hc:c.Real)(hl:s.last c.bD.toNat<=c.seq)(hr:s.rev c.bD.toNat=dE):s.next c=s/\s.answer c=(11,0):=by
 have hk:=hc.k1;have a:s.fresh c=dT:=by unfold dA.fresh;simp[hr]
 refine⟨by unfold dA.next;rw[a];rfl,?_⟩;unfold dA.answer;rw[ak (by omega),ak (by omega),ak (by omega),ar hr]
theorem dA.Gu(s:dA)(c:bk)(hc:c.Real)(hl:c.seq+1<s.last c.bD.toNat):s.next c=s/\s.answer c=(7,0):=by
 have hk:=hc.k1;have a:s.fresh c=dT:=by
  unfold dA.fresh;rw[show decide (s.last c.bD.toNat<=c.seq)=dT by rw[ah];omega];simp
 refine⟨by unfold dA.next;rw[a];rfl,?_⟩;unfold dA.answer;rw[ak (by omega),ak (by omega),ar (by omega)]
theorem dA.Em(s:dA)(c:bk)(hc:c.Real)(hl:c.seq+1=s.last c.bD.toNat):s.next c=s/\s.answer c=(s.code c.bD.toNat,s.qN c.bD.toNat):=by
 have hk:=hc.k1;have a:s.fresh c=dT:=by
  unfold dA.fresh;rw[show decide (s.last c.bD.toNat<=c.seq)=dT by rw[ah];omega];simp
 refine⟨by unfold dA.next;rw[a];rfl,?_⟩;unfold dA.answer;rw[ak (by omega),ar hl]
theorem dA.wM(s:dA):s.next bk.zero=s/\s.answer bk.zero=(0,0):=by
 refine⟨by unfold dA.next dA.fresh;simp[bk.zero],by unfold dA.answer;rw[if_pos (show bk.zero.kind=0 from rfl)]⟩
section
variable{P:Program}(w:ax)
end
def dA.DB(s:dA):List Int:=s.n.take 8
def dA.wP(s:dA):List Int:=(s.n.drop 8).take 8
def dA.aX(s:dA)(o:Nat)(n:Int):dA:=⟨s.n.set o n,s.r⟩
def dA.Jp(s:dA)(i:Nat):dA:=⟨s.n,s.r.set i dE⟩
theorem sZ{w:ax}{b:Nat}{t:TypeId}{s:dA}{o:Nat}(h:w.heap[b]?=de (.cells s.cells.toArray t (0,0)))(hl:s.n.length=32)(ho:o<32)(n:Int):
  (w.setCell (b,o) n).heap[b]?=de (.cells (s.aX o n).cells.toArray t (0,0)):=by
 have e:s.cells.toArray.setIfInBounds o n=(s.aX o n).cells.toArray:=by
  unfold dA.cells dA.aX;simp[List.set_append,hl,ho,List.map_set]
 rw[aB h,e]
theorem Jo{w:ax}{b:Nat}{t:TypeId}{s:dA}{i:Nat}(h:w.heap[b]?=de (.cells s.cells.toArray t (0,0)))(hl:s.n.length=32)(hr:s.r.length=8)(hi:i<8):
  (w.setCell (b,32+i) (.bool dE)).heap[b]?=de (.cells (s.Jp i).cells.toArray t (0,0)):=by
 have e:s.cells.toArray.setIfInBounds (32+i) (.bool dE)=(s.Jp i).cells.toArray:=by
  unfold dA.cells dA.Jp;simp[List.set_append,hl,List.map_set]
 rw[aB h,e]
theorem jv{w:ax}{b:Nat}{t:TypeId}{s:dA}{o:Nat}(h:w.heap[b]?=de (.cells s.cells.toArray t (0,0)))(hl:s.n.length=32)(ho:o<32):
  w.cell? (b,o)=(s.n.getD o 0):=by
 refine ej h o ?_;unfold dA.cells;have h1:o<s.n.length:=by omega
 simp[List.getElem?_append,h1]
theorem xD{w:ax}{b:Nat}{t:TypeId}{s:dA}{i:Nat}(h:w.heap[b]?=de (.cells s.cells.toArray t (0,0)))(hl:s.n.length=32)(hr:s.r.length=8)(hi:i<8):
  w.cell? (b,32+i)=de (.bool (s.rev i)):=by
 refine ej h (32+i) ?_;unfold dA.cells dA.rev;have h1:i<s.r.length:=by omega
 simp[List.getElem?_append,hl,h1]
end Go.Con
namespace Go.Proofs.YtcdmenphjilnnaaGreatDoor
open Go.RowKit Go.Con
set_option maxHeartbeats 400000
def MG(s:dA):bd:= .agg (s.DB.map (Value.int .i64)).toArray
def LQ(s:dA):bd:= .agg (s.wP.map (Value.int .i64)).toArray
theorem oz:(prog.info? 85).map (λx=>x.size)=de 40:=by kernel_rfl
theorem jd{s:dA}(h:s.Ok):s.cells.length=40:=by unfold dA.cells;simp[h.ln,h.lr]
theorem iW{s:dA}(h:s.Ok):s.cells.toArray.size=40:=by rw[dL];exact jd h
theorem oA(s:dA):s.cells.toArray.all (·.oneCell')=dE:=by
 refine dx (λv hv=>?_);unfold dA.cells at hv;rw[dR]at hv;rcases hv with hv|hv
 ·obtain⟨n,_,rfl⟩:=cH.1 hv;rfl
 ·obtain⟨n,_,rfl⟩:=cH.1 hv;rfl
theorem BI{s:dA}(h:s.Ok)(i:Nat)(hi:i<8)(W:ax):(Instr.index 79 (MG s) i).run ed W= .ok (s.val i) W:=by
 obtain⟨n,r⟩:=s;have a:=h.ln;clear h;dsimp only at a;have b:i=0\/i=1\/i=2\/i=3\/i=4\/i=5\/i=6\/i=7:=by omega
 match n,a with
 |[a0,a1,a2,a3,a4,a5,a6,a7,D,E,c,d,e,f,g,j,k,l,m,o,p,q,t,u,v,w,x,y,z,A,B,C],_=>rcases b with rfl|rfl|rfl|rfl|rfl|rfl|rfl|rfl<;>(show _=_;kernel_rfl)
theorem zR{s:dA}(h:s.Ok)(i:Nat)(hi:i<8)(W:ax):(Instr.index 79 (LQ s) i).run ed W= .ok (s.last i) W:=by
 obtain⟨n,r⟩:=s;have a:=h.ln;clear h;dsimp only at a;have b:i=0\/i=1\/i=2\/i=3\/i=4\/i=5\/i=6\/i=7:=by omega
 match n,a with
 |[a0,a1,a2,a3,a4,a5,a6,a7,D,E,c,d,e,f,g,j,k,l,m,o,p,q,t,u,v,w,x,y,z,A,B,C],_=>rcases b with rfl|rfl|rfl|rfl|rfl|rfl|rfl|rfl<;>(show _=_;kernel_rfl)
theorem CF{s:dA}(h:s.Ok):s.DB.length=8:=by unfold dA.DB;simp[h.ln]
theorem zN{s:dA}(h:s.Ok):s.wP.length=8:=by unfold dA.wP;simp[h.ln]
end Go.Proofs.YtcdmenphjilnnaaGreatDoor
namespace Go.Con
set_option maxHeartbeats 400000
theorem Ka{a b:Int}:mC a b<=0<->a<=b:=by
 rcases il a b with⟨h,hr⟩|⟨h,hr⟩|⟨h,hr⟩<;>rw[hr]<;>omega
theorem yi{a b:Int×Int}:dX a b<=0<->a.1<b.1\/(a.1=b.1/\a.2<=b.2):=by
 unfold dX;rcases il a.1 b.1 with⟨h,hr⟩|⟨h,hr⟩|⟨h,hr⟩
 ·rw[hr,ar (by decide)];omega
 ·rw[hr,ak (by decide),Ka];omega
 ·rw[hr,ar (by decide)];omega
theorem Dh{a b:Int×Int}:0<dX a b<->b.1<a.1\/(a.1=b.1/\b.2<a.2):=by
 have h:=@yi a b;constructor
 ·intro h1;have:¬dX a b<=0:=by omega
  rw[h]at this;omega
 ·intro h1;have:¬dX a b<=0:=by rw[h];omega
  omega
def IK(s:Int)(l:List cF)(r:cF):Prop:=
 (r=cF.zero/\∀v∈l,v.slot≠s)\/(r∈l/\r.slot=s/\∀v∈l,v.slot=s->dX v.bG r.bG<=0)
theorem Io(s:Int)(l:List cF)(hl:∀v∈l,1<=v.bG.1):IK s l (dJ s cF.zero l):=by
 have key:∀k,k<=l.length->IK s (l.take k) (dJ s cF.zero (l.take k)):=by
  intro k;induction k with
  |zero=>intro _;exact .inl ⟨rfl,λv hv=>by simp at hv⟩
  |succ k c=>
   intro hk;have c:=c (by omega);have hkl:k<l.length:=by omega
   have e:l.take (k+1)=l.take k++[l[k]]:=by rw[eA,aC hkl];rfl
   rw[e,uX];have h1:1<=(l[k]).bG.1:=hl _ (dW hkl);generalize dJ s cF.zero (l.take k)=b at c|-;generalize l[k]=v at h1|-;unfold rG;by_cases hs:v.slot=s
   ·by_cases hc:0<dX v.bG b.bG
    ·rw[ar ⟨hs,hc⟩];refine .inr ⟨by simp,hs,λu hu a=>?_⟩;rcases dR.1 hu with hu|hu
     ·rcases c with⟨-,h⟩|⟨-,-,h⟩
      ·exact absurd a (h u hu)
      ·have h2:=h u hu a;rw[yi]at h2|-;rw[Dh]at hc;omega
     ·rw[cL.1 hu,yi];omega
    ·rw[ak (λh=>hc h.2)];rcases c with⟨rfl,h⟩|⟨h,h2,h3⟩
     ·exfalso;apply hc;rw[Dh];left;show(0:Int)<_;omega
     ·refine .inr ⟨by simp[h],h2,λu hu a=>?_⟩;rcases dR.1 hu with hu|hu
      ·exact h3 u hu a
      ·rw[cL.1 hu];omega
   ·rw[ak (λh=>hs h.1)];rcases c with⟨rfl,h⟩|⟨h,h2,h3⟩
    ·refine .inl ⟨rfl,λu hu=>?_⟩;rcases dR.1 hu with hu|hu
     ·exact h u hu
     ·rw[cL.1 hu];exact hs
    ·refine .inr ⟨by simp[h],h2,λu hu a=>?_⟩;rcases dR.1 hu with hu|hu
     ·exact h3 u hu a
     ·rw[cL.1 hu]at a;exact absurd a hs
 have h:=key l.length (ag _);rwa[dV]at h
end Go.Con
