/-
  Parts of the proofs of the laws of the whole (what the functions compute, and plain laws of it); no conditions.
-/
import Derived.Test.YtcdmenphjilnnaaGreatDoorProg
import Derived.Below
import Derived.Deep.RegionHeld
import Derived.Deep.LoopGhost
import Derived.Lib.Hide
import Derived.Laws.AppendOwn
import Derived.Tactics
import Derived.Laws.World
import Derived.Deep.MidRow
import Derived.Deep.Quiet
import Derived.Laws.Entries
import Derived.OrdersHeld
import Derived.Laws.Sem
import Derived.Orders
import Derived.Lib.AppendZeros
import Derived.Lib.SliceRun
import Derived.Laws.BitsLemmas
import Derived.Calls
import Derived.Laws.AppendOwnNone
import Derived.Laws.Tables
import Derived.WalkKit
import Derived.Deep.Draws
import Derived.StillTail
import Derived.Deep.QuietTactic
import Derived.BigQuiet
import Derived.Test.YtcdmenphjilnnaaGreatDoorRows
import Derived.WalkSpells
import Derived.WalkLawsBesides
import Derived.LoopTactic
import Derived.Lib.BufferRead
import Derived.Deep.RegionHeld3
import Derived.Deep.Cut
import Derived.Maps.AppendAt
import Derived.Lib.AppendZerosOnto
import Derived.Deep.CutRange
import Derived.Deep.RegionLaw
set_option linter.unusedVariables false
set_option linter.unusedSimpArgs false
set_option maxRecDepth 100000
set_option maxHeartbeats 1000000
open Go.Proofs.Tryz
open Go renaming World->ax,Value->bd,Calls->bl
open Go.RowKit renaming Below->dd
open Option renaming some->de,none->dl
open Bool renaming true->dE,false->dT
open Go.Proofs.Tryz renaming prog->ed
abbrev Eq.t:=@Eq.trans
abbrev Iff.t:=@Iff.trans
abbrev Go.RowKit.Below.t:=@Go.RowKit.Below.trans
abbrev Go.RowKit.Below.m:=@Go.RowKit.Below.mono
abbrev Go.Calls.m:=@Go.Calls.mono
namespace Go
open Go.RowKit
set_option maxHeartbeats 8000000
abbrev ae:=@Lib.hid
abbrev ag:=@Nat.le_refl
abbrev ah:=@decide_eq_false_iff_not
abbrev ai:=@Nat.lt_of_lt_of_le
abbrev aj:=@Go.RowKit.Below.refl
abbrev ak:=@if_neg
abbrev ap:=@decide_eq_true_eq
abbrev aq:=@List.setIfInBounds_toArray
abbrev ar:=@if_pos
abbrev au:=@List.getD_eq_getElem?_getD
abbrev aw:=@Go.World.cell?_of_block
abbrev aC:=@List.getElem?_eq_getElem
abbrev aD:=@List.length_append
abbrev aE:=@Nat.le_trans
abbrev aF:=@List.set_cons_zero
abbrev aG:=@List.set_cons_succ
abbrev aH:=@Go.bodyPost_ret
abbrev aI:=@Go.World.block_lt_of_cell?
abbrev aJ:=@beq_eq_false_iff_ne
abbrev aM:=@List.length_take
abbrev aP:=@Bool.and_eq_true
abbrev aU:=@Go.run_loadVar_mid
abbrev aY:=@List.length_map
abbrev aZ:=@List.length_cons
abbrev bj:=@List.mem_range
abbrev bm:=@Array.getElem?_eq_getElem
abbrev bq:=@List.eq_nil_of_length_eq_zero
abbrev bt:=@Go.wpQuiet_nil
abbrev bw:=@List.mem_cons_of_mem
abbrev bz:=@Go.wpList_store_mid
abbrev bB:=@Array.getD_eq_getD_getElem?
abbrev bF:=@List.getElem?_append_right
abbrev bH:=@List.take_succ_cons
abbrev bJ:=@List.append_assoc
abbrev bK:=@List.take_of_length_le
abbrev bM:=@UInt8.toNat_ofNat'
abbrev bO:=@List.mem_cons_self
abbrev bT:=@List.drop_succ_cons
abbrev bU:=@List.getElem?_append_left
abbrev bX:=@Nat.zero_le
abbrev bZ:=@List.mem_filter
abbrev ca:=@Nat.zero_add
abbrev cp:=@Go.World.size_alloc
abbrev cC:=@List.drop_zero
abbrev cD:=@List.length_set
abbrev cH:=@List.mem_map
abbrev cK:=@List.nil_append
abbrev cL:=@List.mem_singleton
abbrev cM:=@Go.wpList_load_mid
abbrev cN:=@Decidable.of_not_not
abbrev cO:=@List.length_drop
abbrev cQ:=@List.take_zero
abbrev cR:=@List.getElem?_take
abbrev cV:=@Array.getElem?_setIfInBounds_ne
abbrev cX:=@List.getElem?_eq_some_iff
abbrev dg:=@List.take_append_drop
abbrev dm:=@List.map_cons
abbrev dq:=@Go.wp_region_quiet_lit
abbrev dt:=@Go.run_underlying
abbrev du:=@List.map_append
abbrev dw:=@List.length_pos_iff
abbrev dx:=@Go.all_oneCell_toArray
abbrev dy:=@Nat.lt_or_ge
abbrev dz:=@congrArg
abbrev dF:=@List.mem_cons
abbrev dH:=@List.foldl_cons
abbrev dL:=@List.size_toArray
abbrev dP:=@List.flatMap_append
abbrev dQ:=@List.filter_eq_self
abbrev dR:=@List.mem_append
abbrev dS:=@Bool.or_eq_true
abbrev dU:=@Go.wpAnyH_take
abbrev dV:=@List.take_length
abbrev dW:=@List.getElem_mem
abbrev dY:=@Go.results_none
abbrev eu:=@Go.Sem.run_bind
abbrev eA:=@List.take_add_one
abbrev eB:=@List.idxOf_lt_length_of_mem
abbrev eE:=@beq_iff_eq
abbrev eF:=@Go.RowKit.Below.heap_alloc
abbrev eH:=@Option.map_some
abbrev eI:=@Nat.add_assoc
abbrev eJ:=@Nat.mul_comm
abbrev eP:=@bne_iff_ne
abbrev eX:=@Go.Result.andThen_ok
abbrev fh:=@Go.wpOp_mono
abbrev fi:=@Array.getElem?_setIfInBounds
abbrev fm:=@Nat.mod_lt
abbrev ft:=@Nat.mod_eq_of_lt
abbrev fF:=@of_decide_eq_true
abbrev fG:=@decide_eq_true
abbrev fH:=@Nat.le_of_lt
abbrev fI:=@Nat.add_zero
abbrev fJ:=@List.take_succ_eq_append_getElem
abbrev fK:=@List.length_eraseIdx_of_lt
abbrev fL:=@List.getElem?_map
abbrev fM:=@List.filter_eq_nil_iff
abbrev fO:=@List.getElem_of_mem
abbrev fT:=@Option.some.inj
abbrev fU:=@Array.getElem?_toList
abbrev fY:=@of_decide_eq_false
abbrev fZ:=@List.filter_cons
abbrev gg:=@List.any_eq_true
abbrev gi:=@Nat.le_of_eq
abbrev gq:=@Nat.mul_le_mul_right
abbrev gu:=@List.take_append_of_le_length
abbrev gw:=@Go.bodyPost_end
abbrev gA:=@Nat.add_sub_cancel_left
abbrev gB:=@List.getElem?_set
abbrev gC:=@List.flatMap_cons
abbrev gE:=@decide_eq_false
abbrev gF:=@List.take_left'
abbrev gG:=@List.nodup_cons
abbrev gJ:=@Go.Lib.wp_append_run
abbrev gQ:=@Nat.lt_succ_self
abbrev gR:=@List.all_eq_true
abbrev gW:=@Go.Sem.run_pure
abbrev gY:=@Go.Addr.add_mid
abbrev gZ:=@List.getElem?_drop
abbrev hJ:=@Array.getElem?_eq_some_iff
abbrev im:=@Go.Lib.run_eql_slice_nil
abbrev iw:=@List.foldl_append
abbrev iy:=@BitVec.ofInt_natCast
abbrev iR:=@Array.length_toList
abbrev iS:=@List.take_take
abbrev iT:=@List.drop_drop
abbrev iU:=@Int.eq_ofNat_of_zero_le
abbrev jg:=@Go.IntKind.wrap_i64
abbrev ji:=@Option.map_eq_some_iff
abbrev jk:=@Nat.lt_of_le_of_lt
abbrev jl:=@BitVec.toNat_ofNat
abbrev jE:=@List.length_singleton
abbrev jF:=@List.getElem?_eq_none
abbrev jI:=@List.flatten_cons
abbrev jW:=@List.range_eq_range'
abbrev jX:=@List.nodup_nil
abbrev jY:=@List.mem_of_mem_take
abbrev jZ:=@Int.le_refl
abbrev kz:=@Option.isNone_iff_eq_none
abbrev kA:=@Nat.shiftRight_eq_div_pow
abbrev kB:=@Go.Calls.m
abbrev kI:=@bne_eq_false_iff_eq
abbrev kJ:=@List.map_congr_left
abbrev kW:=@Go.RowKit.Below.setCell
abbrev lu:=@Nat.not_lt_zero
abbrev ly:=@List.range_succ
abbrev lJ:=@UInt32.toNat_shiftRight
abbrev lK:=@List.getElem?_replicate
abbrev mu:=@Nat.pow_succ
abbrev mv:=@List.zipWith_cons_cons
abbrev mw:=@List.nodup_append
abbrev my:=@List.filter_congr
abbrev mz:=@List.drop_of_length_le
abbrev mY:=@Go.wpList_append_own_none
abbrev mZ:=@Go.setRow_other
abbrev ng:=@List.length_replicate
abbrev nh:=@List.getElem?_toArray
abbrev ni:=@List.erase_of_not_mem
abbrev nj:=@UInt32.toNat_add
abbrev nk:=@Option.getD_some
abbrev nl:=@Nat.shiftLeft_eq
abbrev np:=@List.mem_flatten
abbrev nL:=@UInt32.toNat_toUInt8
abbrev nM:=@Nat.pow_le_pow_right
abbrev ot:=@List.length_nil
abbrev oy:=@UInt32.toNat_ofNat'
abbrev pj:=@Nat.eq_zero_or_pos
abbrev pk:=@Bool.false_eq_true
abbrev pM:=@List.getElem_append_right
abbrev qp:=@List.length_erase_of_mem
abbrev qV:=@List.length_eq_zero_iff
abbrev vC:=@Array.getElem?_setIfInBounds_self_of_lt
end Go
namespace Go.Proofs.YtcdmenphjilnnaaGreatDoor
open Go.RowKit
set_option maxHeartbeats 8000000
instance:Coe Int bd:=⟨.int .i64⟩
instance:Coe Nat bd:=⟨λn=>.int .i64 n⟩
instance:Coe Addr bd:=⟨λa=>.pointer (de a)⟩
instance(b o:Nat):CoeDep (Nat×Nat) (b,o) Addr:=⟨⟨b,o,dl⟩⟩
instance(b o:Nat):CoeDep (Nat×Nat) (b,o) bd:=⟨.pointer (de ⟨b,o,dl⟩)⟩
instance(b o:Nat):CoeDep (Nat×Nat) (b,o) (Option Addr):=⟨de ⟨b,o,dl⟩⟩
instance(b o:Nat):CoeDep (Nat×Nat) (b,o) (Option bd):=⟨de (.pointer (de ⟨b,o,dl⟩))⟩
theorem _root_.Go.RowKit.Hid.o{p:Prop}(h:RowKit.Hid p):p:=h
theorem _root_.Go.Shut.o{p:Prop}(h:Shut p):p:=h
theorem _root_.Go.Aside.o{p:Prop}(h:Aside p):p:=h
end Go.Proofs.YtcdmenphjilnnaaGreatDoor
namespace Go.Con
open Go.RowKit
set_option maxHeartbeats 8000000
structure Kept(B:Nat)(S:Nat->Prop)(a w:ax):Prop where
 os:w.os=a.os
 tape:w.tape=a.tape
 output:w.output=a.output
 size:a.heap.size<=w.heap.size
 block:∀k,k<B->¬S k->w.heap[k]?=a.heap[k]?
theorem Kept.refl(B:Nat)(S:Nat->Prop)(w:ax):Kept B S w w:=⟨rfl,rfl,rfl,ag _,λ_ _ _=>rfl⟩
theorem Kept.t{B:Nat}{S:Nat->Prop}{a b c:ax}(h:Kept B S a b)(k:Kept B S b c):Kept B S a c:=
 ⟨k.os.t h.os,k.tape.t h.tape,k.output.t h.output,aE h.size k.size,λi hi hs=>(k.block i hi hs).t (h.block i hi hs)⟩
theorem Kept.m{B B':Nat}{S S':Nat->Prop}{a w:ax}(h:Kept B S a w)(c:B'<=B)(hS:∀k,k<B'->S k->S' k):Kept B' S' a w:=
 ⟨h.os,h.tape,h.output,h.size,λk hk hs=>h.block k (by omega) (λb=>hs (hS k hk b))⟩
theorem Kept.drewN{B:Nat}{S:Nat->Prop}{a w:ax}(h:Kept B S a w)(n:Nat):Kept B S a (w.drewN n):=⟨h.os,h.tape,h.output,h.size,h.block⟩
theorem Kept.drew{B:Nat}{S:Nat->Prop}{a w:ax}(h:Kept B S a w):Kept B S a w.drew:=⟨h.os,h.tape,h.output,h.size,h.block⟩
theorem Kept.alloc{B:Nat}{S:Nat->Prop}{a w:ax}(h:Kept B S a w)(b:B<=w.heap.size)(o:Obj):Kept B S a (w.alloc o):=
 h.t ⟨rfl,rfl,rfl,by simp,λk hk _=>eF _ _ _ (by omega)⟩
theorem Kept.setCell{B:Nat}{S:Nat->Prop}{a w:ax}(h:Kept B S a w){p:Addr}(hp:B<=p.block\/S p.block)(u:bd):Kept B S a (w.setCell p u):=
 h.t ⟨rfl,rfl,rfl,by simp[World.setCell],λk hk hs=>Below.heap_setCell _ _ _ _ (λe=>by
  subst e;exact hp.elim (by omega) hs)⟩
theorem Kept.below{B:Nat}{S:Nat->Prop}{a w:ax}(h:Kept B S a w)(hS:∀k,k<B->¬S k):dd B a w:=
 ⟨h.os,h.tape,h.output,h.size,λk hk=>h.block k hk (hS k hk)⟩
theorem Kept.ma{B:Nat}{S:Nat->Prop}{a w:ax}{row:Option Nat}(h:a.grownBy w row)(b:B<=a.heap.size)(hr:∀k,row=de k->B<=k\/S k):Kept B S a w:=
 ⟨h.os,h.tape,h.output,h.size,λk hk hs=>h.block k (by omega) (λe=>by
  rcases hr k e.symm with h|h
  ·omega
  ·exact hs h)⟩
theorem Kept.cell{B:Nat}{S:Nat->Prop}{a w:ax}(h:Kept B S a w){p:Addr}(hp:p.block<B)(hs:¬S p.block):w.cell? p=a.cell? p:=aw (w:=a) (h.block p.block hp hs)
theorem below_drewN{B:Nat}{a w:ax}(h:dd B a w)(n:Nat):dd B a (w.drewN n):=⟨h.os,h.tape,h.output,h.size,h.block⟩
theorem ej{w:ax}{b:Nat}{c:Array bd}{e:TypeId}{f:Nat×Nat}(h:w.heap[b]?=de (.cells c e f))(o:Nat){v:bd}(hv:c[o]?=de v):w.cell? (b,o)=de v:=by
 simp[World.cell?,h,hv]
theorem aO{w:ax}{b:Nat}{c:Array bd}{e:TypeId}(h:w.heap[b]?=de (.cells c e (0,0)))(o:Nat):w.frozen? (b,o)=dT:=by
 simp[World.frozen?,h]
theorem aB{w:ax}{b o:Nat}{c:Array bd}{e:TypeId}{f:Nat×Nat}(h:w.heap[b]?=de (.cells c e f))(v:bd):
  (w.setCell (b,o) v).heap[b]?=de (.cells (c.setIfInBounds o v) e f):=by
 simp[World.setCell,Array.getElem?_modify,h]
theorem aA{w:ax}{b k:Nat}(o:Nat)(v:bd)(hk:k≠b):(w.setCell (b,o) v).heap[k]?=w.heap[k]?:=
 Below.heap_setCell _ _ _ _ hk
theorem aL(w:ax)(o:Obj):(w.alloc o).heap[w.heap.size]?=de o:=heap_alloc_new w o
theorem bC(w:ax)(o:Obj)(k:Nat)(h:k<w.heap.size):(w.alloc o).heap[k]?=w.heap[k]?:=heap_alloc_old w o h
theorem gl(w:ax)(A B:Obj):((w.alloc A).alloc B).heap[w.heap.size+1]?=de B:=by
 have e:(w.alloc A).heap.size=w.heap.size+1:=by simp
 rw[<-e];exact aL _ _
theorem gT(w:ax)(A B:Obj):((w.alloc A).alloc B).heap[w.heap.size]?=de A:=by
 rw[bC _ _ _ (by simp)];exact aL _ _
theorem hF{w:ax}{b:Nat}{o:Obj}(h:w.heap[b]?=de o):b<w.heap.size:=(hJ.1 h).1
theorem uS{w:ax}{b:Nat}{c:Array bd}{e:TypeId}{f:Nat×Nat}(h:w.heap[b]?=de (.cells c e f))(o:Nat)(ho:o<c.size):w.cell? (b,o)=de (c.getD o undef):=
 ej h o (by simp[ho])
theorem yc{w:ax}{b k n:Nat}{c:Array bd}{e:TypeId}(nq:Nat){g:Nat->bd}{v:bd}(h:w.heap[b]?=de (.cells c e (0,0)))(hs:c.size=n)(hk:k<n)
  (hold:∀j,j<k->c[j]?=de (g j))(hv:v=g k):
  ∃a,((w.drewN nq).setCell (b,k) v).heap[b]?=de (.cells a e (0,0))/\a.size=n/\∀j,j<k+1->a[j]?=de (g j):=by
 refine⟨c.setIfInBounds k v,aB (w:=w.drewN nq) h v,by simp[hs],λj hj=>?_⟩;by_cases d:j=k
 ·subst d;subst hv;simp[hs,hk]
 ·rw[fi,ak (by omega)];exact hold j (by omega)
theorem NK{w:ax}{b:Nat}{c0 c1 d f g c5 i c7:bd}{e:TypeId}(h:w.heap[b]?=de (.cells #[c0,c1,d,f,g,c5,i,c7] e (0,0)))(v0 v1 v2 v3 v4 a v6 c:bd):
  ((((((((w.setCell (b,0) v0).setCell (b,1) v1).setCell (b,2) v2).setCell (b,3) v3).setCell (b,4) v4).setCell (b,5) a).setCell (b,6) v6).setCell (b,7) c).heap[b]?=de (.cells #[v0,v1,v2,v3,v4,a,v6,c] e (0,0)):=
 by
 have h1:=aB (o:=0) h v0;have h2:=aB (o:=1) h1 v1;have h3:=aB (o:=2) h2 v2;have h4:=aB (o:=3) h3 v3;have h5:=aB (o:=4) h4 v4;have h6:=aB (o:=5) h5 a;have j:=aB (o:=6) h6 v6;have k:=aB (o:=7) j c;rw[k];simp
theorem Og{a:Array bd}{g:Nat->bd}(hs:a.size=8)(h:∀j,j<8->a[j]?=de (g j)):a=#[g 0,g 1,g 2,g 3,g 4,g 5,g 6,g 7]:=by
 apply Array.ext (by simpa using hs);intro i h1 h2;have hi:i<8:=by omega
 have:=h i hi;rw[bm h1]at this;rw[fT this]
 match i,hi with
 |0,_=>rfl
 |1,_=>rfl
 |2,_=>rfl
 |3,_=>rfl
 |4,_=>rfl
 |5,_=>rfl
 |6,_=>rfl
 |7,_=>rfl
theorem sW{w:ax}{b k n:Nat}{c:Array bd}{e:TypeId}(nq:Nat){g g':Nat->bd}{v:bd}(h:w.heap[b]?=de (.cells c e (0,0)))(hs:c.size=n)(hk:k<n)
  (hold:∀j,j<n->c[j]?=de (g j))(hv:v=g' k)(hg:∀j,j<n->j≠k->g' j=g j):
  ∃a,((w.drewN nq).setCell (b,k) v).heap[b]?=de (.cells a e (0,0))/\a.size=n/\∀j,j<n->a[j]?=de (g' j):=by
 refine⟨c.setIfInBounds k v,aB (w:=w.drewN nq) h v,by simp[hs],λj hj=>?_⟩;by_cases d:j=k
 ·subst d;subst hv;simp[hs,hk]
 ·rw[fi,ak (by omega),hold j hj,hg j hj d]
def fs(b:UInt8):bd:= .int .u8 b.toNat
def zL:bd->Nat| .slice _ n _=>n|_=>0
theorem ofInt8(x:UInt8):BitVec.ofInt 8 (x.toNat:Int)=x.toBitVec:=by
 apply BitVec.eq_of_toNat_eq;simp
theorem ofInt32(x:UInt32):BitVec.ofInt 32 (x.toNat:Int)=x.toBitVec:=by
 apply BitVec.eq_of_toNat_eq;simp
theorem AN(x:BitVec 8):IntKind.u8.wrap (x.toNat:Int)=x.toNat:=by
 have:=x.isLt;exact IntWalk.u8_in _ (by omega)
theorem sS(x:BitVec 32):IntKind.u32.wrap (x.toNat:Int)=x.toNat:=by
 have:=x.isLt;exact IntWalk.u32_in _ (by omega)
theorem qs(x y:UInt8):bits .xor .u8 (x.toNat:Int) (y.toNat:Int)=((x^^^y).toNat:Int):=by
 show IntKind.u8.wrap ((BitVec.ofInt 8 (x.toNat:Int)^^^BitVec.ofInt 8 (y.toNat:Int)).toNat:Int)=_;rw[ofInt8,ofInt8,AN];rfl
theorem Lr(x y:UInt8):bits .or .u8 (x.toNat:Int) (y.toNat:Int)=((x|||y).toNat:Int):=by
 show IntKind.u8.wrap ((BitVec.ofInt 8 (x.toNat:Int)|||BitVec.ofInt 8 (y.toNat:Int)).toNat:Int)=_;rw[ofInt8,ofInt8,AN];rfl
theorem CG(x y:UInt8):bits .and .u8 (x.toNat:Int) (y.toNat:Int)=((x&&&y).toNat:Int):=by
 show IntKind.u8.wrap ((BitVec.ofInt 8 (x.toNat:Int)&&&BitVec.ofInt 8 (y.toNat:Int)).toNat:Int)=_;rw[ofInt8,ofInt8,AN];rfl
theorem lT(x y:UInt32):bits .xor .u32 (x.toNat:Int) (y.toNat:Int)=((x^^^y).toNat:Int):=by
 show IntKind.u32.wrap ((BitVec.ofInt 32 (x.toNat:Int)^^^BitVec.ofInt 32 (y.toNat:Int)).toNat:Int)=_;rw[ofInt32,ofInt32,sS];rfl
theorem oR(x y:UInt32):bits .or .u32 (x.toNat:Int) (y.toNat:Int)=((x|||y).toNat:Int):=by
 show IntKind.u32.wrap ((BitVec.ofInt 32 (x.toNat:Int)|||BitVec.ofInt 32 (y.toNat:Int)).toNat:Int)=_;rw[ofInt32,ofInt32,sS];rfl
theorem yT(x y:UInt32):bits .and .u32 (x.toNat:Int) (y.toNat:Int)=((x&&&y).toNat:Int):=by
 show IntKind.u32.wrap ((BitVec.ofInt 32 (x.toNat:Int)&&&BitVec.ofInt 32 (y.toNat:Int)).toNat:Int)=_;rw[ofInt32,ofInt32,sS];rfl
theorem FF(x:UInt32):bits .xor .u32 4294967295 (x.toNat:Int)=((~~~x).toNat:Int):=by
 show IntKind.u32.wrap ((BitVec.ofInt 32 4294967295^^^BitVec.ofInt 32 (x.toNat:Int)).toNat:Int)=_;rw[ofInt32,sS];have:(BitVec.ofInt 32 4294967295^^^x.toBitVec)= ~~~x.toBitVec:=by
  have h:BitVec.ofInt 32 4294967295=BitVec.allOnes 32:=by decide
  rw[h,BitVec.allOnes_xor]
 rw[this];rfl
theorem we(x:UInt32)(n:Nat)(m:UInt32)(p:Int)(a:n<32)(hm:m.toNat=n)(hp:p=((2^n:Nat):Int)):(x.toNat:Int)*p%4294967296=((x<<<m).toNat:Int):=by
 subst hp;rw[UInt32.toNat_shiftLeft,hm,ft a,nl];rw[show((x.toNat:Int)*((2^n:Nat):Int))=((x.toNat*2^n:Nat):Int) by simp];omega
theorem KJ(x:UInt32)(n:Nat)(m:UInt32)(p:Int)(a:n<32)(hm:m.toNat=n)(hp:p=((2^n:Nat):Int)):(x.toNat:Int)/p=((x>>>m).toNat:Int):=by
 subst hp;rw[lJ,hm,ft a,kA];simp
theorem yS(b:UInt8):(b.toNat:Int)%4294967296=(b.toUInt32.toNat:Int):=by
 have:=b.toNat_lt;rw[UInt8.toNat_toUInt32];omega
theorem Fz(a b c d:UInt8):
  bits .or .u32 (bits .or .u32 (bits .or .u32 ((a.toNat:Int)%4294967296*16777216%4294967296) ((b.toNat:Int)%4294967296*65536%4294967296)) ((c.toNat:Int)%4294967296*256%4294967296)) ((d.toNat:Int)%4294967296)
   =((a.toUInt32<<<24|||b.toUInt32<<<16|||c.toUInt32<<<8|||d.toUInt32).toNat:Int):=by
 rw[yS,yS,yS,yS,we _ 24 24 16777216 (by decide) rfl (by decide),we _ 16 16 65536 (by decide) rfl (by decide),we _ 8 8 256 (by decide) rfl (by decide),oR,oR,oR]
section
variable{P:Program}{ops:Array Oper}{md:Region.Mode}{C:ax->Prop}
def qP(P:Program)(md:Region.Mode)(ops:Array Oper)(C:ax->Prop)(n:Nat)(L:Array Bool->Act->Prop):Nat->Array Bool->Act->Prop
 |0,listed,a=>L listed a
 |f+1,listed,a=>
  Region.ready md ops listed≠[]/\∀i∈Region.ready md ops listed,i<n/\qOp P ops C i (qP P md ops C n L f (listed.setIfInBounds i dE)) a
theorem sC{n g:Nat}{L:Array Bool->Act->Prop}{Q:Exit->Act->ax->Prop}(b:∀listed a w,C w->L listed a->wpAny P md ops Q g listed a w):
  ∀(f:Nat) (listed:Array Bool) (a:Act) (w:ax),C w->qP P md ops C n L f listed a->wpAny P md ops Q (f+g) listed a w
 |0,listed,a,w,hw,h=>by rw[ca];exact b _ _ _ hw h
 |f+1,listed,a,w,hw,h=>by
  rw[show f+1+g=(f+g)+1 by omega];exact⟨λh0=>absurd h0 h.1,λi hi=>wpOp_of_qOp hw (λa' w' d c=>sC b f _ a' w' d c) (h.2 i hi).2⟩
theorem vM{n i:Nat}{oi:Oper}{v:bd}{L:Array Bool->Act->Prop}(hi:ops[i]?=de oi)(u:∀(j:Nat) (o:Oper) cs b,ops[j]?=de o->o.op≠.select cs b)
  (hs:Region.sinkB md ops n=dE)(hc:Region.chainB md ops n=dE)(t:n<ops.size)(q:i<n)
  (x:∀listed a,L listed a->∀j∈Region.ready md ops listed,n<=j):
  ∀(f:Nat) (listed:Array Bool) (a:Act),HeadInv md ops n listed->
   (∀j g,ops[j]?=de g->j≠i->listed.getD j dE=dT->(∀e∈g.after,Region.binds md e=dE->e.on≠i)->oi.apart ops g=dE)->
   i∈Region.ready md ops listed->YieldsIn P ops C oi v a->
   qP P md ops C n L f (listed.setIfInBounds i dE) (a.put oi.dst v)->qP P md ops C n L (f+1) listed a:=by
 intro f;induction f with
 |zero=>
  intro listed a inv _ hr hy H;have d:=(mem_ready.1 hr).1;refine⟨λh=>(by rw[h]at hr;cases hr),λj hj=>?_⟩;have l:j<n:=by
   rcases dy j n with h|h
   ·exact h
   ·exact absurd hj (tail_waits hs hc t inv _ i rfl q d j h)
  refine⟨l,?_⟩;by_cases c:j=i
  ·subst c;exact hy.qOp hi H
  ·have:=x _ _ H j (ready_mono hj c);omega
 |succ f E=>
  intro listed a inv p hr hy H;have d:=(mem_ready.1 hr).1;refine⟨λh=>(by rw[h]at hr;cases hr),λj hj=>?_⟩;have l:j<n:=by
   rcases dy j n with h|h
   ·exact h
   ·exact absurd hj (tail_waits hs hc t inv _ i rfl q d j h)
  refine⟨l,?_⟩;by_cases c:j=i
  ·subst c;exact hy.qOp hi H
  ·have h1:=(H.2 j (ready_mono hj c)).2;obtain⟨s,g,m,w⟩:=mem_ready.1 hj;have D:∀e∈g.after,Region.binds md e=dE->e.on≠i:=λe he hb y=>by
    have h1:=w e he hb;rw[y,getD_both d]at h1;cases h1
   have h2:=qOp_put m (p j g m c s D) (λcs b=>u i oi cs b hi) (λcs b=>u j g cs b m) hy h1;have z:∀k ok,ops[k]?=de ok->k≠i->(listed.setIfInBounds j dE).getD k dE=dT->
     (∀e∈ok.after,Region.binds md e=dE->e.on≠i)->oi.apart ops ok=dE:=λk ok hk A d B=>by
    refine p k ok hk A ?_ B;by_cases r:j=k
    ·subst r;exact s
    ·rw[getD_set_ne dE r]at d;exact d
   refine qOp_mono (λa' h3=>E (listed.setIfInBounds j dE) a' (inv.set hj l) z (ready_mono hr (Ne.symm c)) h3.1 ?_) h2;rw[Array.setIfInBounds_comm _ _ c];exact h3.2
theorem sD{n g:Nat}{c:Act->Prop}(f:Region.noSelect ops=dE)(hs:Region.sinkB md ops n=dE)(hc:Region.chainB md ops n=dE)(d:n<ops.size):
  ∀(l:List Oper) (k:Nat) (listed:Array Bool) (a:Act),(∀j,j<l.length->l[j]?=ops[k+j]?)->k+l.length=n->HeadInv md ops n listed->
  Region.lexHead md ops g l.length k listed=dE->wpQuiet P ops C c l a->
  qP P md ops C n (λi a'=>Region.seqB md ops g n i=dE/\c a') l.length listed a
 |[],k,listed,a,_,hk,_,b,h=>by
  have:k=n:=by simpa using hk
  subst this;exact⟨by simpa[Region.lexHead]using b,h⟩
 |o::l,k,listed,a,hl,hk,inv,b,h=>by
  have h0:ops[k]?=de o:=by simpa using(hl 0 (by simp)).symm
  simp only[aZ,Region.lexHead,aP]at b;obtain⟨⟨hr,q⟩,m⟩:=b;have hkn:k<n:=by simp only[aZ]at hk;omega
  have e:k∈Region.ready md ops listed:=by simpa using hr
  have r:qOp P ops C k (wpQuiet P ops C c l) a:=by unfold qOp;simp only[h0];exact h
  obtain⟨v,hy,hK⟩:=yieldsIn_of_qOp h0 r;exact vM h0 (Region.noSelect_spec f) hs hc d hkn (λi a' p=>seqB_ready p.1) l.length listed a inv (Region.free_spec h0 q) e hy
   (sD f hs hc d l (k+1) _ _ (λj hj=>by have:=hl (j+1) (by simp;omega);simpa[eI,Nat.add_comm 1 j]using this) (by simp only[aZ]at hk;omega) (inv.set e hkn) m hK)
theorem oF{id:Nat}{Q:Exit->Act->ax->Prop}{a:Act}{w:ax}{l:List Oper}(n:Nat)(hm:P.follows .mixedOrders=dE)(c:Region.lexTailB .any l.toArray n=dE)
  (hC:C {w with drawn:=w.drawn+1})
  (h:wpQuiet P l.toArray C (λa'=>∀w',C w'->wpList P l.toArray Q (l.drop n) a' w') (l.take n) a):(Code.region id l.toArray dE).wp P Q a w:=by
 simp only[Region.lexTailB,aP,ap]at c;obtain⟨⟨⟨⟨m,f⟩,hs⟩,hc⟩,k⟩:=c;have r:n<l.length:=by simpa using f
 have b:(l.take n).length=n:=by simp;omega
 have e:(l.drop n).length=l.toArray.size-n:=by simp
 have q:HeadInv .any l.toArray n (Array.replicate l.toArray.size dT):=
  ⟨by simp,λj s _ hl=>(by rw[getD_replicate_false]at hl;cases hl),λt _ o=>getD_in (by simpa using o) (getD_replicate_false _ _)⟩
 have H:=sD (md:= .any) (g:=l.toArray.size-n) m hs hc f (l.take n) 0 _ a (λj hj=>by
  have i:j<n:=by rw[b]at hj;exact hj
  simp[i]) (by simpa using b) q (by rw[b];exact k) h
 refine wp_region_any hm ?_;have:=sC (Q:=Q) (g:=l.toArray.size-n) (λlisted a' w' p d=>by
  have:=wpAny_of_seq (md:= .any) (Q':=Q) (l.drop n) n listed a' w' (λj=>by simp[gZ]) (by rw[e];exact d.1) (d.2 w' p);rwa[e]at this) _ _ _ _ hC H
 rw[b,show n+(l.toArray.size-n)=l.toArray.size by omega]at this;exact this
theorem bQ{id:Nat}{Q:Exit->Act->ax->Prop}{a:Act}{w:ax}{l:List Oper}(n:Nat)(hm:P.follows .mixedOrders=dE)(b:Region.lexTailB .any l.toArray n=dE)
  (h:wpQuiet P l.toArray (λw'=>∃n,w'=w.drewN n) (λa'=>∀w',(∃n,w'=w.drewN n)->wpList P l.toArray Q (l.drop n) a' w') (l.take n) a):(Code.region id l.toArray dE).wp P Q a w:=
 oF n hm b ⟨1,rfl⟩ h
end
theorem rh{P:Program}{f:FuncId}{args:Array bd}{w:ax}{n0 n:Nat}{v:bd}
  (h:bl P f args (w.drewN (n0+n)) λe w'=>e= .returned v/\∃m,w'=(w.drewN (n0+n)).drewN m):bl P f args (w.drewN (n0+n)) λe a=>e= .returned v/\∃m,a=w.drewN (n0+m):=
 h.m λ_ _ ⟨he,m,hm⟩=>⟨he,n+m,by rw[hm,World.drewN_drewN,eI]⟩
end Go.Con
namespace Go.Proofs.YtcdmenphjilnnaaGreatDoor
open Go.RowKit Go.Con
set_option maxHeartbeats 8000000
def Rd(w:ax)(v:bd)(l:List UInt8):Prop:=
 ∃a c,v= .slice a l.length c/\l.length<=c/\c<=maxLen/\(a=dl->c=0)/\(l≠[]->∃b off,a=de ⟨b,off,dl⟩/\∀i,i<l.length->w.cell? ⟨b,off+i,dl⟩=de (fs (l.getD i 0)))
def Own(w:ax)(base:Nat)(v:bd)(l:List UInt8):Prop:=w.ownsRow base 5 1 v l.length (l.map fs)
theorem Tryz.zQ:(prog.info? 5).map (λi=>(i.zero,i.size,i.bytes))=de (de (.int .u8 0),1,1):=by kernel_rfl
theorem Bq(l:List UInt8):∀u∈l.map fs,u.oneCell'=dE:=by
 intro u hu;obtain⟨b,_,rfl⟩:=cH.1 hu;rfl
theorem Gz(l:List UInt8)(j:Nat)(u:bd)(h:(l.map fs)[j]?=de u):j<l.length/\u=fs (l.getD j 0):=by
 rw[fL]at h;obtain⟨b,hb,rfl⟩:=ji.1 h;obtain⟨hj,rfl⟩:=cX.1 hb;exact⟨hj,by simp[hj]⟩
theorem Rd.cells{w:ax}{a:Option Addr}{n c:Nat}{l:List UInt8}(h:Rd w (.slice a n c) l)(ad:Addr)(d:a=de ad):∀j u,(l.map fs)[j]?=de u->w.cell? (ad.add j)=de u:=by
 obtain⟨a',f,he,_,_,_,hc⟩:=h;injection he with h1 h2 h3;subst h1;intro j u hju;obtain⟨hj,rfl⟩:=Gz l j u hju;obtain⟨b,off,hb,e⟩:=hc (by intro h0;subst h0;simp at hj);rw[d]at hb;injection hb with hb;subst hb;have:=e j hj;unfold Addr.add;split
 ·rename_i h0;subst h0;simpa using this
 ·exact this
theorem Rd.nA{w:ax}{n c:Nat}{l:List UInt8}(h:Rd w (.slice dl n c) l):l=[]/\n=0/\c=0:=by
 obtain⟨a',a,he,_,_,h0,hc⟩:=h;injection he with h1 h2 h3;subst h1 h2 h3;have hl:l=[]:=by
  by_cases hl:l=[]
  ·exact hl
  ·obtain⟨_,_,h1,_⟩:=hc hl;cases h1
 subst hl;exact⟨rfl,rfl,h0 rfl⟩
theorem Rd.nil(w:ax):Rd w (.slice dl 0 0) []:=⟨dl,0,rfl,ag _,bX _,λ_=>rfl,λh=>absurd rfl h⟩
theorem Own.rd{w:ax}{base:Nat}{v:bd}{l:List UInt8}(h:Own w base v l):Rd w v l:=by
 obtain⟨hl,h2⟩:=h;rcases h2 with⟨rfl,j⟩|⟨g,cap,b,rfl,hb,hg,m,e,r,n⟩
 ·have:l=[]:=bq j;subst this;exact Rd.nil w
 ·refine⟨de (g,0),cap,rfl,m,e,(λh=>by cases h),λ_=>⟨g,0,rfl,λi hi=>?_⟩⟩;have:(b.toList.take (l.length*1))[i]?=de (fs (l.getD i 0)):=by rw[n];simp[hi]
  rw[cR]at this;split at this
  ·rw[ca];refine ej hg i (by simpa using this)
  ·cases this
theorem Own.shape{w:ax}{base:Nat}{v:bd}{l:List UInt8}(h:Own w base v l)(hl:l≠[]):∃g cap,v= .slice (g,0) l.length cap/\base<=g/\g<w.heap.size/\l.length<=cap/\cap<=maxLen:=by
 obtain⟨_,h2⟩:=h;rcases h2 with⟨rfl,b⟩|⟨g,cap,d,rfl,hb,hg,c,a,e,f⟩
 ·exact absurd (bq b) hl
 ·exact⟨g,cap,rfl,hb,hF hg,c,a⟩
theorem Own.nil(w:ax)(base:Nat):Own w base (.slice dl 0 0) []:=World.ownsRow_nil w base _ _
theorem Own.m{w:ax}{base base':Nat}{v:bd}{l:List UInt8}(h:Own w base v l)(hb:base'<=base):Own w base' v l:=by
 obtain⟨h1,h2⟩:=h;refine⟨h1,?_⟩;rcases h2 with h2|⟨g,cap,a,hv,hg,r⟩
 ·exact .inl h2
 ·exact .inr ⟨g,cap,a,hv,by omega,r⟩
theorem Own.alloc{w:ax}{base:Nat}{v:bd}{l:List UInt8}(h:Own w base v l)(o:Obj):Own (w.alloc o) base v l:=World.ownsRow.alloc h o
theorem Own.kept{w w':ax}{base:Nat}{v:bd}{l:List UInt8}{row:Option Nat}(h:Own w base v l)(hg:w.grownBy w' row)(a:∀k,row=de k->v.ownBlock≠de k):Own w' base v l:=by
 refine World.ownsRow.kept h hg ?_;cases hv:v.ownBlock with
 |none=>exact .inl rfl
 |some k=>
  refine .inr λe=>?_;exact a k e.symm hv
theorem Own.below{w w':ax}{base B:Nat}{v:bd}{l:List UInt8}(h:Own w base v l)(hb:dd B w w')(b:∀k,v.ownBlock=de k->k<B):Own w' base v l:=by
 obtain⟨h1,h2⟩:=h;refine⟨h1,?_⟩;rcases h2 with h2|⟨g,cap,a,rfl,hg,c,r⟩
 ·exact .inl h2
 ·exact .inr ⟨g,cap,a,rfl,hg,by rw[hb.block g (b g rfl)];exact c,r⟩
theorem Own.lt{w:ax}{base:Nat}{v:bd}{l:List UInt8}(h:Own w base v l):∀k,v.ownBlock=de k->base<=k/\k<w.heap.size:=World.ownsRow.lt h
theorem Rd.below{w w':ax}{B:Nat}{v:bd}{l:List UInt8}(h:Rd w v l)(hb:dd B w w')(d:∀k,v.ownBlock=de k->l≠[]->k<B):Rd w' v l:=by
 obtain⟨a,c,rfl,h1,h2,h0,h3⟩:=h;refine⟨a,c,rfl,h1,h2,h0,λhl=>?_⟩;obtain⟨b,off,rfl,hc⟩:=h3 hl;exact⟨b,off,rfl,λi hi=>by rw[hb.cell (p:=(b,off+i)) (d b rfl hl)];exact hc i hi⟩
theorem Rd.lt{w:ax}{v:bd}{l:List UInt8}(h:Rd w v l):∀k,v.ownBlock=de k->l≠[]->k<w.heap.size:=by
 obtain⟨a,c,rfl,h1,h2,h0,h3⟩:=h;intro k hk hl;obtain⟨b,off,rfl,hc⟩:=h3 hl;simp[Value.ownBlock]at hk;subst hk;have:0<l.length:=dw.2 hl;exact aI w _ (hc 0 this)
theorem Rd.kept{w w':ax}{v:bd}{l:List UInt8}{row:Option Nat}(h:Rd w v l)(hg:w.grownBy w' row)(d:∀k,row=de k->v.ownBlock≠de k):Rd w' v l:=by
 obtain⟨a,c,rfl,h1,h2,h0,h3⟩:=h;refine⟨a,c,rfl,h1,h2,h0,λhl=>?_⟩;obtain⟨b,off,rfl,hc⟩:=h3 hl;exact⟨b,off,rfl,λi hi=>hg.cell (hc i hi) (λe=>d b e.symm rfl)⟩
theorem Rd.stay{w w':ax}{v:bd}{l:List UInt8}(h:Rd w v l)(hb:dd w.heap.size w w'):Rd w' v l:=h.below hb h.lt
theorem Rd.alloc{w:ax}{v:bd}{l:List UInt8}(h:Rd w v l)(o:Obj):Rd (w.alloc o) v l:=h.stay ((aj _ _).alloc (ag _) o)
theorem Rd.drewN{w:ax}{v:bd}{l:List UInt8}(h:Rd w v l)(n:Nat):Rd (w.drewN n) v l:=h
theorem Own.drewN{w:ax}{base:Nat}{v:bd}{l:List UInt8}(h:Own w base v l)(n:Nat):Own (w.drewN n) base v l:=h
theorem Rd.slice{w:ax}{v:bd}{l:List UInt8}(h:Rd w v l):∃a c,v= .slice a l.length c/\l.length<=c/\c<=maxLen:=by
 obtain⟨a,c,rfl,h1,h2,_⟩:=h;exact⟨a,c,rfl,h1,h2⟩
theorem Rd.cut{w:ax}{a:Option Addr}{n c:Nat}{l:List UInt8}(h:Rd w (.slice a n c) l)(d hi:Nat)(h1:d<=hi)(h2:hi<=n):Rd w (.slice (if c=d then a else a.map (·.add (d*1))) (hi-d) (c-d)) ((l.take hi).drop d):=by
 obtain⟨a',k,he,o,m,h0,f⟩:=h;injection he with e1 e2 e3;subst e1 e2 e3;have hlen:((l.take hi).drop d).length=hi-d:=by simp;omega
 refine⟨_,c-d,by rw[hlen],by omega,by omega,?_,?_⟩
 ·intro e;split at e
  ·have:=h0 e;omega
  ·rw[Option.map_eq_none_iff]at e;have:=h0 e;omega
 ·intro j;have p:0<hi-d:=by rw[<-hlen];exact dw.2 j
  obtain⟨b,off,rfl,hc⟩:=f (by intro h;subst h;simp at h2;omega);refine⟨b,off+d,?_,?_⟩
  ·rw[ak (by omega)];simp only[eH,Addr.add,Nat.mul_one];split
   ·rename_i h;subst h;rfl
   ·rfl
  ·intro i g;rw[hlen]at g;have:=hc (d+i) (by omega);rw[show off+d+i=off+(d+i) by omega,this];simp[gZ,cR,show d+i<hi by omega]
theorem yn(w:ax)(base:Nat)(ty:TypeId)(i:TypeInfo)(hi:prog.info? 5=de i)(q:i.zero=de (.int .u8 0))(a:i.size=1)(k:i.bytes=1)
  (v:bd)(l:List UInt8)(x:Own w base v l)(ad:Addr)(m c:Nat)(news:List bd)(hl:news.length=m*1)(d:∀j u,news[j]?=de u->w.cell? (ad.add j)=de u)(h1:∀u∈news,u.oneCell'=dE)
  (A:l.length+m<=140737488355328):
  ∃f w',(Builtin.append_ #[24,24] ty #[v,.slice (de ad) m c]).run ed w= .ok f w'/\(f.ownBlock=v.ownBlock\/f.ownBlock=de w.heap.size):=by
 have b:prog.underlying 24=de (.slice 5):=Tryz.underlying24;obtain⟨p,h2⟩:=x;rcases h2 with⟨rfl,B⟩|⟨g,cap,h,rfl,r,hg,t,s,o,z⟩
 ·by_cases hm:m=0
  ·subst hm;refine⟨.slice dl 0 0,w,?_,.inl rfl⟩;simp[Builtin.append_,dt b,sizeOf,typeInfo,hi,Builtin.lenOf,Builtin.firstCells,loadCells,loadCellsFrom]
  ·have hr:=run_append_nil (P:=ed) w 24 ty 5 i (.int .u8 0) b hi q ad m c news (by rw[a];exact hl) d (by omega) (by omega) (by rw[k];omega);exact⟨_,_,hr,.inr rfl⟩
 ·by_cases y:l.length+m<=cap
  ·have hr:=run_append_room (P:=ed) w 24 ty 5 i b hi g l.length cap h hg ad m c news (by rw[a];exact hl) d h1 y (by rw[a,hl,o];omega);exact⟨_,_,hr,.inl rfl⟩
  ·have holds:∀j u,(l.map fs)[j]?=de u->w.cell? (((g,0):Addr).add j)=de u:=World.ownsRow.cells (base:=base) (e:=5) (size:=1) (n:=l.length) ⟨p,.inr ⟨g,cap,h,rfl,r,hg,t,s,o,z⟩⟩ (g:=g) rfl;have hr:=run_append_grow (P:=ed) w 24 ty 5 i (.int .u8 0) b hi q (g,0) l.length cap (l.map fs) (by rw[a];exact p) holds ad m c news (by rw[a];exact hl) d (by omega) (by omega) (growslice_fits (by omega) (by rw[k];omega));exact⟨_,_,hr,.inr rfl⟩
section
variable{ops:Array Oper}{rest:List Oper}{o:Oper}{a:Act}{Q:Exit->Act->ax->Prop}{w:ax}
theorem Mn(g:o.guard=dl)(s x:Operand)(ho:o.op= .call {callee:= .builtin .append,args:=#[s,x],argTypes:=#[24,24]})
  (base:Nat)(v src:bd)(l m:List UInt8)(hs:a.eval s=v)(d:Own w base v l)(hx:a.eval x=src)(f:Rd w src m)(hlen:l.length+m.length<=140737488355328)(n:base<=w.heap.size)
  (h:∀b w',Own w' base b (l++m)->w.grownBy w' v.ownBlock->(b.ownBlock=v.ownBlock\/b.ownBlock=de w.heap.size)->wpList ed ops Q rest (a.put o.dst b) w'):wpList ed ops Q (o::rest) a w:=by
 obtain⟨i0,hi,i,j,k⟩:=info_parts Tryz.zQ;obtain⟨ao,c,hv,_⟩:=f.slice;subst hv;cases ao with
 |none=>
  obtain⟨hm,r,p⟩:=f.nA;subst hm;rw[p]at hx;refine mY g s x 24 ho base 5 i0 1 Tryz.underlying24 hi v l.length _ hs d hx ?_;refine h v w (by simpa using d) ⟨rfl,rfl,rfl,ag _,λ_ _ _=>rfl⟩ (.inl rfl)
 |some ad=>
  refine wpList_plain g λK hK=>?_;obtain⟨b,w',hr,h2,h3,h4⟩:=run_append_own (P:=ed) w base 24 o.type 5 i0 (.int .u8 0) 1 1 Tryz.underlying24 hi i j k rfl (by decide) v l.length _ d ad m.length c (m.map fs) (by simp) (f.cells ad rfl) (Bq m) (by unfold maxLen;omega) (by omega) n;obtain⟨v2,t,q,hw⟩:=yn w base o.type i0 hi i j k v l d ad m.length c (m.map fs) (by simp) (f.cells ad rfl) (Bq m) (by omega);have e:=hr.symm.t q;injection e with e1 e2;subst e1 e2;unfold Oper.wp execOp;simp only[ho,resolve,invoke,builtin,eu,gW,eX,List.map_toArray,dm,List.map_nil,hs,hx,hr];refine hK _ _ (h b w' ?_ h3 hw);unfold Own;rw[aD,du];exact h2
theorem uZ(f:o.guard=dl)(s x:Operand)(ho:o.op= .call {callee:= .builtin .append,args:=#[s,x],argTypes:=#[24,24]})
  (base:Nat)(v src:bd)(l m:List UInt8)(hs:a.eval s=v)(d:Own w base v l)(hx:a.eval x=src)(e:Rd w src m)(hlen:l.length+m.length<=140737488355328)(g:base<=w.heap.size)
  (h:∀b w',Own w' base b (l++m)->w.grownBy w' v.ownBlock->wpList ed ops Q rest (a.put o.dst b) w'):wpList ed ops Q (o::rest) a w:=by
 obtain⟨i0,hi,k,n,p⟩:=info_parts Tryz.zQ;obtain⟨ao,c,hv,_⟩:=e.slice;subst hv;cases ao with
 |none=>
  obtain⟨hm,q,i⟩:=e.nA;subst hm;rw[i]at hx;refine mY f s x 24 ho base 5 i0 1 Tryz.underlying24 hi v l.length _ hs d hx ?_;refine h v w (by simpa using d) ⟨rfl,rfl,rfl,ag _,λ_ _ _=>rfl⟩
 |some ad=>
  refine wpList_append_own _ f s x 24 ho base 5 i0 (.int .u8 0) 1 1 Tryz.underlying24 hi k n p rfl (by decide) v l.length _ hs d ad m.length c (m.map fs) hx (by simp) (e.cells ad rfl) (Bq m) (by unfold maxLen;omega) (by omega) g ?_;intro b w' j hg _;refine h b w' ?_ hg;unfold Own;rw[aD,du];exact j
end
theorem Rd.newRow(w:ax)(l:List UInt8)(n:Nat)(b:n=l.length)(hl:l.length<=maxLen):Rd (w.alloc (.cells (l.map fs).toArray 5)) (.slice (w.heap.size,0) n n) l:=by
 subst b;refine⟨_,_,rfl,ag _,hl,(λh=>by cases h),λ_=>⟨_,_,rfl,λi hi=>?_⟩⟩;refine ej (aL w _) _ ?_;simp[hi]
theorem Rd.pre{w:ax}{a:Option Addr}{n c:Nat}{l:List UInt8}(h:Rd w (.slice a n c) l)(m:Nat)(hm:m<=l.length):Rd w (.slice a m c) (l.take m):=by
 obtain⟨a',g,he,j,e,h0,d⟩:=h;injection he with e1 e2 e3;subst e1 e2 e3;have hlen:(l.take m).length=m:=by simp;omega
 refine⟨a,c,by rw[hlen],by omega,e,h0,λf=>?_⟩;have k:0<m:=by rw[<-hlen];exact dw.2 f
 obtain⟨b,off,rfl,hc⟩:=d (by intro h;subst h;simp at hm;omega);refine⟨b,off,rfl,λi hi=>?_⟩;rw[hlen]at hi;rw[hc i (by omega)];simp[cR,hi]
theorem Gv(W:ax)(c d e f:Int)(a b1 b2 b:UInt8)(h0:c=a.toNat)(h1:d=b1.toNat)(h2:e=b2.toNat)(h3:f=b.toNat):
  Rd (W.alloc (.cells #[.int .u8 c,.int .u8 d,.int .u8 e,.int .u8 f] 5)) (.slice (W.heap.size,0) 4 4) [a,b1,b2,b]:=by
 subst h0 h1 h2 h3;exact Rd.newRow W [a,b1,b2,b] 4 rfl (by simp[maxLen])
theorem Own.made(w:ax)(base:Nat)(a:Array bd)(cap:Nat)(hb:base<=w.heap.size)(hm:cap<=maxLen)(hs:a.size=cap):
  Own (w.alloc (.cells a 5)) base (.slice (w.heap.size,0) 0 cap) []:=
 World.ownsRow_made w a cap hb hm (by omega)
theorem Rd.CX(w:ax)(l:List UInt8)(n:Nat)(f:Nat×Nat)(b:n=l.length)(hl:l.length<=maxLen):Rd (w.alloc (.cells (l.map fs).toArray 5 f)) (.slice (w.heap.size,0) n n) l:=by
 subst b;refine⟨_,_,rfl,ag _,hl,(λh=>by cases h),λ_=>⟨_,_,rfl,λi hi=>?_⟩⟩;refine ej (aL w _) _ ?_;simp[hi]
theorem zF(W:ax)(x:Int)(b:UInt8)(hx:x=b.toNat):Rd (W.alloc (.cells #[.int .u8 x] 5)) (.slice (W.heap.size,0) 1 1) [b]:=by
 subst hx;exact Rd.newRow W [b] 1 rfl (by simp[maxLen])
theorem Rd.Np{w w':ax}{B:Nat}{S:Nat->Prop}{v:bd}{l:List UInt8}(h:Rd w v l)(hb:Kept B S w w')(d:∀k,v.ownBlock=de k->l≠[]->k<B/\¬S k):Rd w' v l:=by
 obtain⟨a,c,rfl,h1,h2,h0,h3⟩:=h;refine⟨a,c,rfl,h1,h2,h0,λhl=>?_⟩;obtain⟨b,off,rfl,hc⟩:=h3 hl;obtain⟨e,f⟩:=d b rfl hl;exact⟨b,off,rfl,λi hi=>by rw[hb.cell (p:=(b,off+i)) e f];exact hc i hi⟩
end Go.Proofs.YtcdmenphjilnnaaGreatDoor
namespace Go.Con
open Go.RowKit
set_option maxHeartbeats 8000000
theorem aK{α:Sort _}(a:α):∃x,x=a:=⟨_,rfl⟩
theorem gv{w a:ax}{o:Obj}(h:World.alloc w o=a):dd w.heap.size w a:=h▸(aj _ _).alloc (ag _) _
theorem eZ{w a:ax}{o:Obj}{b:Nat}(h:World.alloc w o=a)(hb:b=w.heap.size):a.heap[b]?=de o:=by rw[<-h,hb];exact aL _ _
theorem mh{P:Program}{fn:Func}{R:Ending->ax->Prop}{a:Act}{w:ax}(h1:fn.results=#[])(h2:a.defers=[])(h:R (.returned (.tuple #[])) w):bodyPost P fn R .ret a w:=aH (dY h1 _ _ _) h2 h
theorem jH{P:Program}{fn:Func}{R:Ending->ax->Prop}{a:Act}{w:ax}(h1:fn.results=#[])(h2:a.defers=[])(h:R (.returned (.tuple #[])) w):bodyPost P fn R .normal a w:=gw (dY h1 _ _ _) h2 h
theorem cZ{w a:ax}{v:bd}{b o:Nat}(hb:dd w.heap.size w a)(h:b<w.heap.size)(hc:w.cell? (b,o)=de v):a.cell? (b,o)=de v:=(hb.cell (p:=(b,o)) h).t hc
def pick(n m:Int):Int:=(if n<0 then-(n+1)else n)%m
end Go.Con
namespace Go.Proofs.YtcdmenphjilnnaaGreatDoor
open Go.RowKit Go.Con
set_option maxHeartbeats 8000000
def mX(w:ax)(R:List UInt8)(e:Ending)(w':ax):Prop:=∃a,e= .returned a/\Own w' w.heap.size a R/\dd w.heap.size w w'
def mM(w:ax)(R:List UInt8)(c:Int)(e:Ending)(w':ax):Prop:=∃a,e= .returned (.tuple #[a,c])/\Own w' w.heap.size a R/\dd w.heap.size w w'
theorem Rd.fB{w:ax}{v:bd}{l:List UInt8}(h:Rd w v l)(n:Nat)(b:l.length=n):∃a c,v= .slice a n c/\n<=c/\c<=maxLen:=by
 subst b;exact h.slice
section
variable{ops:Array Oper}{rest:List Oper}{o:Oper}{a:Act}{Q:Exit->Act->ax->Prop}
theorem Nh(w:ax)(hg:o.guard=dl)(l c:Operand)(e:o.op=Op.makeSlice 24 l c)(n:Nat)(L C:Int)(hl:a.eval l= .int .i64 L)(hc:a.eval c= .int .i64 C)(b:L=(n:Int))(hC:C=(n:Int))(m:n<=281474976710656)
  (hK:∀w',Own w' w.heap.size (.slice (w.heap.size,0) n n) (List.replicate n 0)->dd w.heap.size w w'->wpList ed ops Q rest (a.put o.dst (.slice (w.heap.size,0) n n)) w'):wpList ed ops Q (o::rest) a w:=by
 obtain⟨i0,hi,g,h,i⟩:=info_parts Tryz.zQ;refine wpList_make_full w hg l c 24 e w.heap.size 5 i0 (.int .u8 0) 1 Tryz.underlying24 hi g h .i64 .i64 L C n hl hc b hC (by rw[i];omega) (by unfold maxLen;omega) (Nat.le_refl _) ?_;intro w' f d;refine hK w' ?_ ((aj _ _).grown d (ag _) (λk hk=>by cases hk));have hm:(madeCells (Value.int .u8 0).cells (n*1)).toList=(List.replicate n (0:UInt8)).map fs:=by
  apply List.ext_getElem?;intro j;by_cases hj:j<n
  ·simp[madeCells,Value.cells,fs,lK,hj,Nat.mod_one]
  ·simp[madeCells,Value.cells,fs,lK,hj]
 unfold Own;rw[ng,<-hm];exact f
end
end Go.Proofs.YtcdmenphjilnnaaGreatDoor
namespace Go.Con
set_option maxHeartbeats 8000000
structure bk where
 kind:Int
 bD:Int
 seq:Int
 name:Int
 value:Int
 deriving DecidableEq
def bk.zero:bk:=⟨0,0,0,0,0⟩
def eG(c:bk):bd:= .agg #[c.kind,c.bD,c.seq,c.name,c.value]
def mI(c:bk):Bool:=decide (0<=c.bD/\c.bD<=7/\0<=c.seq/\c.seq<=1048576/\0<=c.name/\c.name<=7/\0<=c.value/\c.value<=1073741824)
def cS(c:bk):Int:=
 if c.kind=0 then(if c=bk.zero then 0 else 3)
 else if 1<=c.kind/\c.kind<=3 then(if mI c=dT then 2 else if c.kind≠1/\c.value≠0 then 3 else 0)
 else 4
end Go.Con
namespace Go.Proofs.YtcdmenphjilnnaaGreatDoor
open Go.RowKit Go.Con
set_option maxHeartbeats 8000000
theorem kK(n a hi:Int)(w:ax)(h1:a<=n)(h2:n<=hi):
  bl ed 63 #[n,a,hi] w λe w'=>e= .returned (.bool dE)/\w=w':=by
 go_enter func63,ntmps63
 go_wp2
 go_ret
 exact⟨rfl,rfl⟩
theorem jL(n a hi:Int)(w:ax)(h:n<a\/hi<n):
  bl ed 63 #[n,a,hi] w λe w'=>e= .returned (.bool dT)/\w=w':=by
 by_cases h1:n<a
 ·go_enter func63,ntmps63
  go_wp2
  go_ret
  exact⟨rfl,rfl⟩
 ·have h2:hi<n:=by omega
  have h3:a<=n:=by omega
  have hd:decide (n<=hi)=dT:=by simp;omega
  go_enter func63,ntmps63
  go_wp2
  go_ret
  exact⟨rfl,rfl⟩
theorem lR(c:bk)(w:ax):
  bl ed 42 #[eG c] w λe w'=>e= .returned (cS c)/\dd w.heap.size w w':=by
 obtain⟨k,cl,a,d,b⟩:=c;show bl ed 42 #[.agg #[k,cl,a,d,b]] w _;by_cases h0:k=0
 ·subst h0;by_cases g:(⟨0,cl,a,d,b⟩:bk)=bk.zero
  ·have hc:cS ⟨0,cl,a,d,b⟩=0:=by rw[cS,ar rfl,ar g]
   rw[hc];injection g with a1 a2 a3 a4 a5;subst a2 a3 a4 a5;clear hc;go_enter func42,ntmps42
   go_wp2
   go_ret
   exact⟨rfl,(aj _ _).alloc (ag _) _⟩
  ·have hc:cS ⟨0,cl,a,d,b⟩=3:=by rw[cS,ar rfl,ak g]
   rw[hc];have i:=ae g;clear hc g;go_enter func42,ntmps42
   go_wp2
   all_goals go_ret
   all_goals first
    |exact⟨rfl,(aj _ _).alloc (ag _) _⟩
    |(exfalso;apply i.o;subst_vars;rfl)
    |(exfalso;apply i.o;simp_all[bk.zero])
 ·by_cases hk:1<=k/\k<=3
  ·have j:k=1\/k=2\/k=3:=by omega
   obtain⟨R,f⟩:=aK (cS ⟨k,cl,a,d,b⟩);rw[<-f];unfold cS mI at f;dsimp only at f;rw[ak h0,ar hk]at f;have ways:(R=2/\¬(0<=cl/\cl<=7))\/(R=2/\(0<=cl/\cl<=7)/\¬(0<=a/\a<=1048576))\/(R=2/\(0<=cl/\cl<=7)/\(0<=a/\a<=1048576)/\¬(0<=d/\d<=7))\/(R=2/\(0<=cl/\cl<=7)/\(0<=a/\a<=1048576)/\(0<=d/\d<=7)/\¬(0<=b/\b<=1073741824))\/(R=0/\(0<=cl/\cl<=7)/\(0<=a/\a<=1048576)/\(0<=d/\d<=7)/\(0<=b/\b<=1073741824)/\(k=1\/b=0))\/(R=3/\(0<=cl/\cl<=7)/\(0<=a/\a<=1048576)/\(0<=d/\d<=7)/\(0<=b/\b<=1073741824)/\k≠1/\b≠0):=by
    split at f;all_goals rename_i h9
    all_goals simp only[ah,Decidable.not_not]at h9
    ·omega
    ·split at f<;>omega
   clear f h0 hk;rcases ways with⟨rfl,h⟩|⟨rfl,h1,h⟩|⟨rfl,h1,h2,h⟩|⟨rfl,h1,h2,h3,h⟩|⟨rfl,h1,h2,h3,h4,h⟩|⟨rfl,h1,h2,h3,h4,h5,h⟩<;>rcases j with rfl|rfl|rfl;all_goals first
    |(exact absurd rfl h5)
    |skip
   all_goals try rcases h with h|rfl
   all_goals first
    |(cases h;done)
    |skip
   all_goals try have m:(b !=0)=dE:=by simpa using h
   all_goals
    go_enter func42,ntmps42
    go_wp2_with (go_at_call 63;first|(refine(kK _ _ _ _ (by omega) (by omega)).m ?_;rintro e w' ⟨rfl,rfl⟩)|(refine(jL _ _ _ _ (by omega)).m ?_;rintro e w' ⟨rfl,rfl⟩))
    go_ret
    exact⟨rfl,(aj _ _).alloc (ag _) _⟩
  ·have hc:cS ⟨k,cl,a,d,b⟩=4:=by rw[cS,ak h0,ak hk]
   rw[hc];have l:(k==0)=dT:=by simpa using h0
   have e1:(k==1)=dT:=by rw[aJ];omega
   have e2:(k==2)=dT:=by rw[aJ];omega
   have e3:(k==3)=dT:=by rw[aJ];omega
   clear hc h0 hk;go_enter func42,ntmps42
   go_wp2
   go_ret
   exact⟨rfl,(aj _ _).alloc (ag _) _⟩
end Go.Proofs.YtcdmenphjilnnaaGreatDoor
namespace Go.Con
open Go.RowKit
set_option maxHeartbeats 8000000
theorem lM{P:Program}{fn:Func}{tmps:Array bd}{w:ax}{a:Nat}{t:TypeId}{ad:Addr}{v:bd}(hr:fn.results=#[.cell a t])(b:tmps.getD a undef= .pointer (de ad))
  (hl:(loadVar t ad).run P w= .ok v w):(results fn tmps).run P w= .ok v w:=by
 unfold results;rw[hr];simp only[bB]at b;generalize loadVar=L at hl|-;simp[b,hl,go_sem]
theorem dC{P:Program}{fn:Func}{tmps:Array bd}{w:ax}{a b:Nat}{t:TypeId}{ad:Addr}{v:bd}(hr:fn.results=#[.cell a t,.tmp b])(c:tmps.getD a undef= .pointer (de ad))
  (hl:(loadVar t ad).run P w= .ok v w):(results fn tmps).run P w= .ok (.tuple #[v,tmps.getD b undef]) w:=by
 unfold results;rw[hr];simp only[bB]at c;generalize loadVar=L at hl|-;simp[c,hl,go_sem]
theorem zl{P:Program}{fn:Func}{tmps:Array bd}{w:ax}{a b c:Nat}{t u:TypeId}{ad d:Addr}{v x:bd}(hr:fn.results=#[.cell a t,.cell b u,.tmp c])(e:tmps.getD a undef= .pointer (de ad))(hu:tmps.getD b undef= .pointer (de d))
  (hl:(loadVar t ad).run P w= .ok v w)(hx:(loadVar u d).run P w= .ok x w):(results fn tmps).run P w= .ok (.tuple #[v,x,tmps.getD c undef]) w:=by
 unfold results;rw[hr];simp only[bB]at e hu;generalize loadVar=L at hl hx|-;simp[e,hu,hl,hx,go_sem]
def mC(a b:Int):Int:=if a<b then-1 else if b<a then 1 else 0
def dX(a b:Int×Int):Int:=if mC a.1 b.1≠0 then mC a.1 b.1 else mC a.2 b.2
def okB(b:Int×Int):Bool:=decide (1<=b.1)&&(decide (b.1<=65536)&&(decide (0<=b.2)&&decide (b.2<5)))
structure cF where
 slot:Int
 bG:Int×Int
 cW:bk
 deriving DecidableEq
def cF.zero:cF:=⟨0,(0,0),bk.zero⟩
def aS(v:cF):List bd:=[v.slot,v.bG.1,v.bG.2,v.cW.kind,v.cW.bD,v.cW.seq,v.cW.name,v.cW.value]
def qq(v:cF):bd:= .agg (aS v).toArray
def jJ(v:cF):Bool:=decide (0<=v.slot)&&(decide (v.slot<40)&&(okB v.bG&&decide (cS v.cW=0)))
theorem il(a b:Int):(a<b/\mC a b=-1)\/(a=b/\mC a b=0)\/(b<a/\mC a b=1):=by
 unfold mC;split
 ·exact .inl ⟨by assumption,rfl⟩
 ·split
  ·exact .inr (.inr ⟨by assumption,rfl⟩)
  ·exact .inr (.inl ⟨by omega,rfl⟩)
end Go.Con
namespace Go.Proofs.YtcdmenphjilnnaaGreatDoor
open Go.RowKit Go.Con
set_option maxHeartbeats 8000000
theorem JZ(a b:Int)(w:ax):
  bl ed 119 #[a,b] w λe w'=>e= .returned (mC a b)/\w'=w:=by
 have e1:(a !=a)=dT:=by simp
 have e2:(b !=b)=dT:=by simp
 rcases il a b with⟨h,hr⟩|⟨h,hr⟩|⟨h,hr⟩
 ·have d1:decide (a<b)=dE:=by rw[ap];exact h
  rw[hr];go_enter func119,ntmps119
  go_wp2
  go_ret
  exact⟨rfl,rfl⟩
 ·have d1:decide (a<b)=dT:=by rw[ah];omega
  have d2:decide (b<a)=dT:=by rw[ah];omega
  rw[hr];clear h;go_enter func119,ntmps119
  go_wp2
  go_ret
  exact⟨rfl,rfl⟩
 ·have d1:decide (a<b)=dT:=by rw[ah];omega
  have d2:decide (b<a)=dE:=by rw[ap];omega
  rw[hr];go_enter func119,ntmps119
  go_wp2
  go_ret
  exact⟨rfl,rfl⟩
theorem JE(x y:Int)(b:Nat)(w:ax)(h0:w.cell? (b,0)=x)(h1:w.cell? (b,1)=y):
  bl ed 133 #[.slice (b,0) 2 2] w λe w'=>e= .returned (if x≠0 then x else y:Int)/\w'=w:=by
 obtain⟨r,hr⟩:=aK (if x≠0 then x else y);rw[<-hr];have c:=ae hr;clear hr;go_enter func133,ntmps133
 go_wp2_with fail
 go_loopw [5,8] (λ_ i wr=>wr=w/\(i= .int .i64 0\/(i= .int .i64 1/\x=0)\/(i= .int .i64 2/\x=0/\y=0))) (λ_ i _=>2-(intOf i).toNat)
 case atStart=>exact⟨rfl,.inl rfl⟩
 case round=>
  obtain⟨rfl,rfl|⟨rfl,hx⟩|⟨rfl,hx,hy⟩⟩:=hrel
  ·by_cases hx:x=0
   ·have d:(x !=0)=dT:=by simp[hx]
    go_wp2_with fail
    go_roundw
    case rel=>exact⟨trivial,.inr (.inl ⟨rfl,hx⟩)⟩
    case measure=>simp[intOf]
   ·have d:(x !=0)=dE:=by simp[hx]
    have a:r=x:=by rw[c.o,ar hx]
    subst a;go_wp2_with fail
    go_ret
    exact⟨rfl,rfl⟩
  ·have f:=ae hx;clear hx;by_cases hy:y=0
   ·have d:(y !=0)=dT:=by simp[hy]
    go_wp2_with fail
    go_roundw
    case rel=>exact⟨trivial,.inr (.inr ⟨rfl,f.o,hy⟩)⟩
    case measure=>simp[intOf]
   ·have d:(y !=0)=dE:=by simp[hy]
    have a:r=y:=by rw[c.o,ak (by rw[f.o];decide)]
    subst a;go_wp2_with fail
    go_ret
    exact⟨rfl,rfl⟩
  ·have a:r=0:=by rw[c.o,ak (by rw[hx];decide),hy]
   subst a;clear hx hy;go_wp2_with fail
   go_ret
   exact⟨rfl,rfl⟩
theorem Ck(b:Int×Int)(w:ax):
  bl ed 113 #[.agg #[b.1,b.2]] w λe w'=>e= .returned (.bool (okB b))/\dd w.heap.size w w':=by
 obtain⟨r,n⟩:=b;dsimp only;have hc:(decide (1<=r)=dT/\okB (r,n)=dT)\/(decide (1<=r)=dE/\decide (r<=65536)=dT/\okB (r,n)=dT)\/(decide (1<=r)=dE/\decide (r<=65536)=dE/\decide (0<=n)=dT/\okB (r,n)=dT)\/(decide (1<=r)=dE/\decide (r<=65536)=dE/\decide (0<=n)=dE/\decide (n<5)=dT/\okB (r,n)=dT)\/(decide (1<=r)=dE/\decide (r<=65536)=dE/\decide (0<=n)=dE/\decide (n<5)=dE/\okB (r,n)=dE):=by
  unfold okB;dsimp only;cases decide (1<=r)<;>cases decide (r<=65536)<;>cases decide (0<=n)<;>cases decide (n<5)<;>simp
 rcases hc with⟨h1,hr⟩|⟨h1,h2,hr⟩|⟨h1,h2,h3,hr⟩|⟨h1,h2,h3,h4,hr⟩|⟨h1,h2,h3,h4,hr⟩
 all_goals
  rw[hr];clear hr;go_enter func113,ntmps113
  go_wp2_with fail
  go_ret
  exact⟨rfl,(aj _ _).alloc (ag _) _⟩
theorem yo{w a:ax}{A B C:Obj}(h:((w.alloc A).alloc B).alloc C=a):a.heap[w.heap.size]?=de A/\a.heap[w.heap.size+1]?=de B/\a.heap[w.heap.size+1+1]?=de C/\dd w.heap.size w a/\a.heap.size=w.heap.size+3:=by
 subst h;have e:((w.alloc A).alloc B).heap.size=w.heap.size+1+1:=by simp
 have e1:(w.alloc A).heap.size=w.heap.size+1:=by simp
 refine⟨?_,?_,?_,(((aj w.heap.size w).alloc (ag _) _).alloc (by simp) _).alloc (by simp;omega) _,by simp⟩
 ·rw[bC _ _ _ (by omega),bC _ _ _ (by omega)];exact aL _ _
 ·rw[bC _ _ _ (by omega)];have:=aL (w.alloc A) B;rwa[e1]at this
 ·have:=aL ((w.alloc A).alloc B) C;rwa[e]at this
theorem KP{w:ax}{A B:Obj}{x y:bd}{t:TypeId}:(((w.alloc A).alloc B).alloc (.cells #[x,y] t)).drew.cell? (w.heap.size+1+1,0)=de x/\(((w.alloc A).alloc B).alloc (.cells #[x,y] t)).drew.cell? (w.heap.size+1+1,1)=de y:=by
 have h:=(yo (w:=w) (A:=A) (B:=B) (C:= .cells #[x,y] t) rfl).2.2.1;exact⟨ej h 0 rfl,ej h 1 rfl⟩
theorem Ib(a b c:Int)(w:ax)(h:Hid (mC a b=c)):
  bl ed 119 #[a,b] w λe w'=>e= .returned c/\w'=w:=by
 rw[<-h.o];exact JZ a b w
theorem LG(x y c:Int)(b:Nat)(w:ax)(h0:w.cell? (b,0)=x)(h1:w.cell? (b,1)=y)(h:Hid ((if x≠0 then x else y)=c)):
  bl ed 133 #[.slice (b,0) 2 2] w λe w'=>e= .returned c/\w'=w:=by
 rw[<-h.o];exact JE x y b w h0 h1
theorem Ag(a b:Int×Int)(w:ax):
  bl ed 114 #[.agg #[a.1,a.2],.agg #[b.1,b.2]] w λe w'=>e= .returned (dX a b)/\dd w.heap.size w w':=by
 obtain⟨r,n⟩:=a;obtain⟨s,m⟩:=b;dsimp only;obtain⟨c1,c⟩:=aK (mC r s);obtain⟨f,d⟩:=aK (mC n m);have hr:dX (r,n) (s,m)=if c1≠0 then c1 else f:=by unfold dX;rw[c,d]
 have i:=ae c.symm;have j:=ae d.symm;rw[hr];clear hr c d;generalize g:(if c1≠0 then c1 else f)=k;have h:=ae g;clear g;go_enter func114,ntmps114
 go_wp2_with fail
 go_region_held3 (λw'=>w'.cell? (w.heap.size,0)=r/\w'.cell? (w.heap.size,1)=n/\w'.cell? (w.heap.size+1,0)=s/\w'.cell? (w.heap.size+1,1)=m) (go_keep) (first
  |(go_at_call 119;refine(Ib _ _ _ _ (by assumption)).m ?_;rintro e _ ⟨rfl,rfl⟩)
  |(go_at_call 133;refine(LG _ _ _ _ _ KP.1 KP.2 h).m ?_;rintro e _ ⟨rfl,rfl⟩))
 go_wp2_with fail
 go_ret
 exact⟨rfl,(yo rfl).2.2.2.1.drew⟩
theorem nI(r n:Int)(c:Bool)(w:ax)(h:Hid (okB (r,n)=c)):
  bl ed 113 #[.agg #[r,n]] w λe w'=>e= .returned (.bool c)/\dd w.heap.size w w':=by
 rw[<-h.o];exact Ck (r,n) w
theorem zw(k cl b a d c:Int)(w:ax)(h:Hid (cS ⟨k,cl,b,a,d⟩=c)):
  bl ed 42 #[.agg #[k,cl,b,a,d]] w λe w'=>e= .returned c/\dd w.heap.size w w':=by
 rw[<-h.o];exact lR ⟨k,cl,b,a,d⟩ w
theorem iP(r n s m c:Int)(w:ax)(h:Hid (dX (r,n) (s,m)=c)):
  bl ed 114 #[.agg #[r,n],.agg #[s,m]] w λe w'=>e= .returned c/\dd w.heap.size w w':=by
 rw[<-h.o];exact Ag (r,n) (s,m) w
theorem FD(v:cF)(w:ax):
  bl ed 116 #[qq v] w λe w'=>e= .returned (.bool (jJ v))/\dd w.heap.size w w':=by
 obtain⟨sl,⟨r,n⟩,⟨k,cl,d,a,f⟩⟩:=v;show bl ed 116 #[.agg #[sl,r,n,k,cl,d,a,f]] w _;obtain⟨b,hb⟩:=aK (okB (r,n));obtain⟨c,hc⟩:=aK (cS ⟨k,cl,d,a,f⟩);have m:(decide (0<=sl)=dT/\jJ ⟨sl,(r,n),⟨k,cl,d,a,f⟩⟩=dT)\/(decide (0<=sl)=dE/\decide (sl<40)=dT/\jJ ⟨sl,(r,n),⟨k,cl,d,a,f⟩⟩=dT)\/
   (decide (0<=sl)=dE/\decide (sl<40)=dE/\b=dT/\jJ ⟨sl,(r,n),⟨k,cl,d,a,f⟩⟩=dT)\/
   (decide (0<=sl)=dE/\decide (sl<40)=dE/\b=dE/\(c==0)=dT/\jJ ⟨sl,(r,n),⟨k,cl,d,a,f⟩⟩=dT)\/
   (decide (0<=sl)=dE/\decide (sl<40)=dE/\b=dE/\(c==0)=dE/\jJ ⟨sl,(r,n),⟨k,cl,d,a,f⟩⟩=dE):=by
  unfold jJ;dsimp only;rw[<-hb,<-hc];have e:decide (c=0)=(c==0):=by rw[Bool.eq_iff_iff];simp
  rw[e];cases decide (0<=sl)<;>cases decide (sl<40)<;>cases b<;>cases(c==0)<;>simp
 have o:=ae hb.symm;have p:=ae hc.symm;clear hb hc;rcases m with⟨h1,hr⟩|⟨h1,h2,hr⟩|⟨h1,h2,rfl,hr⟩|⟨h1,h2,rfl,h4,hr⟩|⟨h1,h2,rfl,h4,hr⟩
 ·rw[hr];clear hr;go_enter func116,ntmps116
  go_wp2_with fail
  go_ret
  exact⟨rfl,(aj _ _).alloc (ag _) _⟩
 ·rw[hr];clear hr;go_enter func116,ntmps116
  go_wp2_with fail
  go_ret
  exact⟨rfl,(aj _ _).alloc (ag _) _⟩
 all_goals
  rw[hr];clear hr;go_enter func116,ntmps116
  go_wp2_with (first
   |(go_at_call 113;refine(nI _ _ _ _ (by assumption)).m ?_;rintro e q ⟨rfl,i⟩;have h:=ae (((aj w.heap.size w).alloc (ag _) (.cells #[sl,r,n,k,cl,d,a,f] 109)).t (i.m (by simp)));have g:=(i.block w.heap.size (by simp)).t (aL _ _);have t:=ej g 3 rfl;have u:=ej g 4 rfl;have x:=ej g 5 rfl;have y:=ej g 6 rfl;have z:=ej g 7 rfl;clear i g)
   |(go_at_call 42;refine(zw _ _ _ _ _ _ _ (by assumption)).m ?_;rintro e s ⟨rfl,j⟩;have l:=ae (h.o.t (j.m h.o.size));clear j))
  go_ret
  exact⟨rfl,by first|exact l.o|exact h.o⟩
end Go.Proofs.YtcdmenphjilnnaaGreatDoor
namespace Go.Con.Sha
set_option maxHeartbeats 8000000
def lD(x:UInt32)(n:Nat):UInt32:=UInt32.ofNat (x.toNat/2^n|||(x.toNat<<<(32-n))%4294967296)
def kn:List UInt32:=[
 1116352408,1899447441,3049323471,3921009573,961987163,1508970993,2453635748,2870763221,
 3624381080,310598401,607225278,1426881987,1925078388,2162078206,2614888103,3248222580,
 3835390401,4022224774,264347078,604807628,770255983,1249150122,1555081692,1996064986,
 2554220882,2821834349,2952996808,3210313671,3336571891,3584528711,113926993,338241895,
 666307205,773529912,1294757372,1396182291,1695183700,1986661051,2177026350,2456956037,
 2730485921,2820302411,3259730800,3345764771,3516065817,3600352804,4094571909,275423344,
 430227734,506948616,659060556,883997877,958139571,1322822218,1537002063,1747873779,
 1955562222,2024104815,2227730452,2361852424,2428436474,2756734187,3204031479,3329325298]
def word(b:List UInt8)(i:Nat):UInt32:=
 (b.getD (4*i) 0).toUInt32<<<24|||(b.getD (4*i+1) 0).toUInt32<<<16|||(b.getD (4*i+2) 0).toUInt32<<<8|||(b.getD (4*i+3) 0).toUInt32
def CV(b:List UInt8)(l:List UInt32)(k:Nat):UInt32:=
 if k<16 then word b k else
  l.getD (k-16) 0+l.getD (k-7) 0+(lD (l.getD (k-15) 0) 7^^^lD (l.getD (k-15) 0) 18^^^l.getD (k-15) 0>>>3)
   +(lD (l.getD (k-2) 0) 17^^^lD (l.getD (k-2) 0) 19^^^l.getD (k-2) 0>>>10)
def sched(b:List UInt8):Nat->List UInt32
 |0=>[]
 |k+1=>let l:=sched b k;l++[CV b l k]
structure D8 where
 a:UInt32
 b:UInt32
 c:UInt32
 d:UInt32
 e:UInt32
 f:UInt32
 g:UInt32
 h:UInt32
def Jb(s:D8)(k w:UInt32):UInt32:=
 s.h+(lD s.e 6^^^lD s.e 11^^^lD s.e 25)+(s.e&&&s.f^^^~~~s.e&&&s.g)+k+w
def Cd(s:D8):UInt32:=
 (lD s.a 2^^^lD s.a 13^^^lD s.a 22)+(s.a&&&s.b^^^s.a&&&s.c^^^s.b&&&s.c)
def KI(s:D8)(k w:UInt32):D8:=
 {a:=Jb s k w+Cd s,b:=s.a,c:=s.b,d:=s.c,e:=s.d+Jb s k w,f:=s.e,g:=s.f,h:=s.g}
def rounds(ws:List UInt32)(s:D8):Nat->D8
 |0=>s
 |k+1=>KI (rounds ws s k) (kn.getD k 0) (ws.getD k 0)
def Oi(x y:D8):D8:=
 {a:=x.a+y.a,b:=x.b+y.b,c:=x.c+y.c,d:=x.d+y.d,e:=x.e+y.e,f:=x.f+y.f,g:=x.g+y.g,h:=x.h+y.h}
def D8.toList(s:D8):List UInt32:=[s.a,s.b,s.c,s.d,s.e,s.f,s.g,s.h]
def dM(s:D8)(b:List UInt8):D8:=Oi s (rounds (sched b 64) s 64)
def d0:D8:={a:=1779033703,b:=3144134277,c:=1013904242,d:=2773480762,e:=1359893119,f:=2600822924,g:=528734635,h:=1541459225}
def fP(n:Nat):Nat:=(119-n%64)%64
def vH(n:Nat)(k:Nat):List UInt8:=(List.range k).map λj=>UInt8.ofNat (n/2^(56-8*j))
def fV(l:List UInt8):List UInt8:=l++[128]++List.replicate (fP l.length) 0++vH (8*l.length) 8
def blocks(p:List UInt8):Nat->D8
 |0=>d0
 |k+1=>dM (blocks p k) ((p.drop (64*k)).take 64)
def qe(x:UInt32):List UInt8:=[UInt8.ofNat (x.toNat/16777216),UInt8.ofNat (x.toNat/65536),UInt8.ofNat (x.toNat/256),UInt8.ofNat x.toNat]
def sum(l:List UInt8):List UInt8:=(blocks (fV l) ((fV l).length/64)).toList.flatMap qe
theorem Ev(n k:Nat):vH n (k+1)=vH n k++[UInt8.ofNat (n/2^(56-8*k))]:=by
 simp[vH,ly]
theorem oJ(n k:Nat):(vH n k).length=k:=by simp[vH]
theorem vF(l:List UInt8):(fV l).length%64=0/\0<(fV l).length/\(fV l).length=l.length+9+fP l.length:=by
 have h:(fV l).length=l.length+9+fP l.length:=by simp[fV,oJ];omega
 refine⟨?_,by omega,h⟩;rw[h];unfold fP;omega
theorem mV(x:UInt32):(qe x).length=4:=rfl
theorem gK(l:List UInt8):(sum l).length=32:=rfl
def out(s:D8)(k:Nat):List UInt8:=(s.toList.take k).flatMap qe
theorem zu(s:D8)(k:Nat)(h:k<8):out s (k+1)=out s k++qe (s.toList.getD k 0):=by
 have:k<s.toList.length:=h;simp only[out,fJ this,dP];simp[List.getD,this]
theorem Bl(s:D8)(k:Nat)(h:k<=8):(out s k).length=4*k:=by
 have:∀l:List UInt32,(l.flatMap qe).length=4*l.length:=by
  intro l;induction l with
  |nil=>rfl
  |cons x l a=>simp only[gC,aD,aZ,a,mV];omega
 rw[out,this,aM];have:s.toList.length=8:=rfl;omega
theorem qw(b:List UInt8)(k:Nat):(sched b k).length=k:=by
 induction k with
 |zero=>rfl
 |succ k a=>simp[sched,a]
theorem wh(b:List UInt8)(k j:Nat)(h:j<k):(sched b (k+1)).getD j 0=(sched b k).getD j 0:=by
 simp[sched,List.getElem?_append,qw,h]
theorem wi(b:List UInt8)(k:Nat):(sched b (k+1)).getD k 0=CV b (sched b k) k:=by
 simp[sched,qw]
end Go.Con.Sha
namespace Go.Proofs.YtcdmenphjilnnaaGreatDoor
open Go.RowKit Go.Con
set_option maxHeartbeats 2000000
theorem MT(x:UInt32)(n:Nat):bits .or .u32 ((x.toNat:Int)/2^n) ((x.toNat:Int)*2^(32-n)%4294967296)=((Sha.lD x n).toNat:Int):=by
 have h1:((x.toNat:Int)/2^n)=((x.toNat/2^n:Nat):Int):=by simp
 have h2:((x.toNat:Int)*2^(32-n)%4294967296)=((x.toNat<<<(32-n)%4294967296:Nat):Int):=by
  rw[nl];simp
 rw[h1,h2,u32_or_nat _ _ (jk (Nat.div_le_self _ _) x.toNat_lt) (fm _ (by decide))];congr 1;unfold Sha.lD;rw[UInt32.toNat_ofNat_of_lt'];exact Nat.or_lt_two_pow (n:=32) (jk (Nat.div_le_self _ _) x.toNat_lt) (fm _ (by decide))
theorem FG(x:UInt32)(n:Nat)(w:ax)(h1:0<n)(h2:n<32):
  bl ed 132 #[.int .u32 x.toNat,.int .i64 n] w λe w'=>e= .returned (.int .u32 (Sha.lD x n).toNat)/\∃k,w'=w.drewN k:=by
 go_enter func132,ntmps132
 go_wp2
 go_quiet (fail)
 go_wp2
 go_ret
 exact⟨by rw[<-MT];rfl,_,rfl⟩
theorem AQ(x:UInt32)(n:Int)(w:ax)(h1:0<n)(h2:n<32):
  bl ed 132 #[.int .u32 x.toNat,.int .i64 n] w λe w'=>e= .returned (.int .u32 (Sha.lD x n.toNat).toNat)/\∃k,w'=w.drewN k:=by
 obtain⟨m,rfl⟩:=iU (Int.le_of_lt h1);exact FG x m w (by omega) (by omega)
theorem NP(x:UInt32):bits .xor .u32 IntKind.u32.max (x.toNat:Int)=((~~~x).toNat:Int):=FF x
theorem FE(s:Sha.D8)(k w:UInt32):
  ((s.h.toNat:Int)+bits .xor .u32 (bits .xor .u32 ((Sha.lD s.e 6).toNat:Int) ((Sha.lD s.e 11).toNat:Int)) ((Sha.lD s.e 25).toNat:Int)+
   bits .xor .u32 (bits .and .u32 (s.e.toNat:Int) (s.f.toNat:Int)) (bits .and .u32 (bits .xor .u32 IntKind.u32.max (s.e.toNat:Int)) (s.g.toNat:Int))+(k.toNat:Int)+(w.toNat:Int))%4294967296
   =((Sha.Jb s k w).toNat:Int):=by
 simp only[NP,lT,yT,Sha.Jb,nj];omega
theorem Hk(s:Sha.D8):
  (bits .xor .u32 (bits .xor .u32 ((Sha.lD s.a 2).toNat:Int) ((Sha.lD s.a 13).toNat:Int)) ((Sha.lD s.a 22).toNat:Int)+
   bits .xor .u32 (bits .xor .u32 (bits .and .u32 (s.a.toNat:Int) (s.b.toNat:Int)) (bits .and .u32 (s.a.toNat:Int) (s.c.toNat:Int))) (bits .and .u32 (s.b.toNat:Int) (s.c.toNat:Int)))%4294967296
   =((Sha.Cd s).toNat:Int):=by
 simp only[lT,yT,Sha.Cd,nj];omega
theorem Bu(a b:Int)(x y:UInt32)(c:a%4294967296=(x.toNat:Int))(hb:b%4294967296=(y.toNat:Int)):(a+b)%4294967296=((x+y).toNat:Int):=by
 rw[nj];omega
theorem xQ(y:UInt32):(y.toNat:Int)%4294967296=(y.toNat:Int):=by
 have:=y.toNat_lt;omega
theorem GU(s:Sha.D8)(k:Nat)(hk:k<8)(W:ax):
  (Instr.index 198 (.agg #[.int .u32 s.a.toNat,.int .u32 s.b.toNat,.int .u32 s.c.toNat,.int .u32 s.d.toNat,.int .u32 s.e.toNat,.int .u32 s.f.toNat,.int .u32 s.g.toNat,.int .u32 s.h.toNat]) (.int .i64 k)).run ed W
   = .ok (.int .u32 (s.toList.getD k 0).toNat) W:=by
 have a:k=0\/k=1\/k=2\/k=3\/k=4\/k=5\/k=6\/k=7:=by omega
 rcases a with rfl|rfl|rfl|rfl|rfl|rfl|rfl|rfl<;>(show _=_;kernel_rfl)
def iF(x:UInt32):bd:= .int .u32 x.toNat
theorem EX(d b off cap:Nat)(D:Sha.D8)(B:List UInt8)(w:ax)
  (hd:w.heap[d]?=de (.cells #[iF D.a,iF D.b,iF D.c,iF D.d,iF D.e,iF D.f,iF D.g,iF D.h] 198 (0,0)))
  (hk:∀i,i<64->w.cell? (1,i)=de (iF (Sha.kn.getD i 0)))
  (hg:1≠d)
  (hc:∀i,i<64->w.cell? (b,off+i)=de (fs (B.getD i 0))):
  bl ed 111 #[(d,0),.slice (b,off) 64 cap] w λe w'=>
   e= .returned (.tuple #[])/\Kept w.heap.size (·=d) w w'/\
   w'.heap[d]?=de (.cells #[iF (Sha.dM D B).a,iF (Sha.dM D B).b,iF (Sha.dM D B).c,iF (Sha.dM D B).d,iF (Sha.dM D B).e,iF (Sha.dM D B).f,iF (Sha.dM D B).g,iF (Sha.dM D B).h] 198 (0,0)):=by
 unfold fs iF at*;have F:=ae hk;clear hk;go_enter func111,ntmps111
 go_wp2
 go_loopw [16] (λc wr=>∃k:Nat,k<=64/\c= .int .i64 k/\Kept w.heap.size (λ_=>False) w wr/\
   ∃arr:Array bd,wr.heap[w.heap.size]?=de (.cells arr 223 (0,0))/\arr.size=64/\∀j,j<k->arr[j]?=de (.int .u32 ((Sha.sched B k).getD j 0).toNat))
  (λc _=>64-(intOf c).toNat)
 case atStart=>exact⟨0,by omega,rfl,(Kept.refl _ _ _).alloc (ag _) _,_,aL _ _,rfl,λj hj=>absurd hj (lu _)⟩
 case round=>
  obtain⟨k,hk,rfl,q,arr,f,b4,hold⟩:=hrel;by_cases hlt:k<64
  ·have c4:=uS f k (by omega);have c5:=aO f k;by_cases b0:k<16
   ·have u:∀j,j<64->wr.cell? ⟨b,off+j,dl⟩=de (.int .u8 (B.getD j 0).toNat):=λj hj=>(q.cell (p:=⟨b,off+j,dl⟩) (aI w _ (hc j hj)) id).t (hc j hj);obtain⟨x0,a3⟩:=aK (B.getD (4*k) 0);obtain⟨x1,a4⟩:=aK (B.getD (4*k+1) 0);obtain⟨x2,a5⟩:=aK (B.getD (4*k+2) 0);obtain⟨x3,a6⟩:=aK (B.getD (4*k+3) 0);have c0:=u (4*k) (by omega);have c1:=u (4*k+1) (by omega);have N:=u (4*k+2) (by omega);have O:=u (4*k+3) (by omega);rw[<-a3]at c0;rw[<-a4]at c1;rw[<-a5]at N;rw[<-a6]at O;have J:Hid (x0.toUInt32<<<24|||x1.toUInt32<<<16|||x2.toUInt32<<<8|||x3.toUInt32=(Sha.sched B (k+1)).getD k 0):=by
     rw[Sha.wi,Sha.CV,ar b0,a3,a4,a5,a6];rfl
    clear a3 a4 a5 a6 u hc hd;have Y:=ae hold;clear hold;go_wp2
    refine bQ 35 (by kernel_rfl) (by kernel_rfl) ?_;simp only[bH,cQ,bT,cC];repeat (go_big_quiet_step (fail))
    refine bt ?_;intro w9 z;obtain⟨nq,rfl⟩:=z;go_wp2
    go_roundw
    case rel=>
     refine⟨k+1,by omega,by go_num,(q.drewN nq).setCell (.inl (ag _)) _,yc (g:=λj=>.int .u32 ((Sha.sched B (k+1)).getD j 0).toNat) nq f b4 hlt (λj hj=>by rw[Y.o j hj,Sha.wh B k j hj]) ?_⟩;rw[Fz,J.o]
    case measure=>simp[intOf];omega
   ·obtain⟨c8,Q⟩:=aK ((Sha.sched B k).getD (k-16) 0);obtain⟨H,P⟩:=aK ((Sha.sched B k).getD (k-15) 0);obtain⟨y7,S⟩:=aK ((Sha.sched B k).getD (k-7) 0);obtain⟨I,R⟩:=aK ((Sha.sched B k).getD (k-2) 0);have c0:=ej f _ (hold (k-16) (by omega));have c1:=ej f _ (hold (k-15) (by omega));have N:=ej f _ (hold (k-7) (by omega));have O:=ej f _ (hold (k-2) (by omega));rw[<-Q]at c0;rw[<-P]at c1;rw[<-S]at N;rw[<-R]at O;have J:Hid (c8+y7+(Sha.lD H 7^^^Sha.lD H 18^^^H>>>3)+(Sha.lD I 17^^^Sha.lD I 19^^^I>>>10)=(Sha.sched B (k+1)).getD k 0):=by
     rw[Sha.wi,Sha.CV,ak b0,Q,P,S,R];rfl
    have d2:(16:Int)<=(k:Int):=by omega
    clear Q P S R hc hd;have Y:=ae hold;clear hold;go_wp2
    go_quiet (fail)
    go_wp2
    refine bQ 29 (by kernel_rfl) (by kernel_rfl) ?_;simp only[bH,cQ,bT,cC];repeat (go_big_quiet_step ((go_at_call 132;exact rh (AQ _ _ _ (by decide) (by decide)))))
    refine bt ?_;intro w9 z;obtain⟨nq,rfl⟩:=z;go_wp2
    go_roundw
    case rel=>
     refine⟨k+1,by omega,by go_num,(q.drewN _).setCell (.inl (ag _)) _,yc (g:=λj=>.int .u32 ((Sha.sched B (k+1)).getD j 0).toNat) _ f b4 hlt (λj hj=>by rw[Y.o j hj,Sha.wh B k j hj]) ?_⟩;rw[<-J.o,lT,lT,KJ H 3 3 8 (by decide) rfl (by decide),KJ I 10 10 1024 (by decide) rfl (by decide),lT,lT];congr 1;simp only[nj];omega
    case measure=>simp[intOf];omega
  ·have n:k=64:=by omega
   rw[n]at hold;have d5:decide ((k:Int)<64)=dT:=by rw[n];decide
   have d0:=ae n;clear n;have cg:∀i,i<64->wr.cell? (1,i)=de (.int .u32 (Sha.kn.getD i 0).toNat):=λi hi=>(q.cell (p:=(1,i)) (aI w _ (F.o i hi)) id).t (F.o i hi);have a:wr.heap[d]?=de (.cells #[.int .u32 D.a.toNat,.int .u32 D.b.toNat,.int .u32 D.c.toNat,.int .u32 D.d.toNat,.int .u32 D.e.toNat,.int .u32 D.f.toNat,.int .u32 D.g.toNat,.int .u32 D.h.toNat] 198 (0,0)):=(q.block d (hF hd) id).t hd;have q0:=ej a 0 rfl;have q1:=ej a 1 rfl;have q2:=ej a 2 rfl;have q3:=ej a 3 rfl;have q4:=ej a 4 rfl;have q5:=ej a 5 rfl;have q6:=ej a 6 rfl;have q7:=ej a 7 rfl;have b9:=ae hold;have Cg:=ae cg;have Hd:=ae hd;have b7:=ae a;have A:=ae f;clear hold hc hd a cg f;go_wp2
   obtain⟨r,a0⟩:∃r:ax,r=wr:=⟨_,rfl⟩
   rw[<-a0];rw[<-a0]at q A;generalize E:r.heap.size=bv;have m:w.heap.size<bv:=by rw[<-E];exact hF A.o
   have k0:∀o,Kept w.heap.size (λ_=>False) w (r.alloc o):=λo=>q.alloc (by have:=q.size;omega) o;have r0:∀o,(r.alloc o).heap[w.heap.size]?=de (.cells arr 223 (0,0)):=λo=>(bC r o _ (hF A.o)).t A.o;have r1:∀o,(r.alloc o).heap[bv]?=de o:=λo=>by rw[<-E];exact aL r o
   have c9:=ae E;clear E;go_loopw [97] (λc a7=>∃k2:Nat,k2<=64/\c= .int .i64 k2/\Kept w.heap.size (λ_=>False) w a7/\
     a7.heap[w.heap.size]?=de (.cells arr 223 (0,0))/\∃s:Sha.D8,s=Sha.rounds (Sha.sched B 64) D k2/\
     a7.heap[bv]?=de (.cells #[.int .u32 s.a.toNat,.int .u32 s.b.toNat,.int .u32 s.c.toNat,.int .u32 s.d.toNat,.int .u32 s.e.toNat,.int .u32 s.f.toNat,.int .u32 s.g.toNat,.int .u32 s.h.toNat] 198 (0,0)))
    (λc _=>64-(intOf c).toNat)
   case atStart=>exact⟨0,by omega,rfl,k0 _,r0 _,D,rfl,r1 _⟩
   case round=>
    clear r0 r1 k0 q0 q1 q2 q3 q4 q5 q6 q7;obtain⟨k2,d3,rfl,y,b1,s,hs,hv⟩:=hrel;have q0:=ej hv 0 rfl;have q1:=ej hv 1 rfl;have q2:=ej hv 2 rfl;have q3:=ej hv 3 rfl;have q4:=ej hv 4 rfl;have q5:=ej hv 5 rfl;have q6:=ej hv 6 rfl;have q7:=ej hv 7 rfl;have fv:=aO hv;have Hv:=ae hv;have M:=ae hs;have a8:=ae b1;clear hv hs b1;by_cases W:k2<64
    ·obtain⟨wk,a2⟩:=aK ((Sha.sched B 64).getD k2 0);obtain⟨G,V⟩:=aK (Sha.kn.getD k2 0);have cw:wr.cell? (w.heap.size,k2)=de (.int .u32 wk.toNat):=by rw[a2];exact ej a8.o k2 (b9.o k2 W)
     have ck:wr.cell? ⟨1,k2,dl⟩=de (.int .u32 G.toNat):=by
      rw[V];exact(y.cell (p:=⟨1,k2,dl⟩) (aI w _ (F.o k2 W)) id).t (F.o k2 W)
     have c6:=ae a2;have b8:=ae V;clear a2 V;go_wp2
     go_quiet (fail)
     go_wp2
     go_quiet ((go_at_call 132;exact rh (AQ _ _ _ (by decide) (by decide))))
     go_wp2
     go_quiet ((go_at_call 132;exact rh (AQ _ _ _ (by decide) (by decide))))
     go_wp2
     go_roundw
     case rel=>
      refine⟨k2+1,by omega,by go_num,?_,?_,Sha.KI s G wk,?_,?_⟩
      ·exact(((((((((y.drewN _).setCell (.inl (by exact fH m)) _).setCell (.inl (by exact fH m)) _).setCell (.inl (by exact fH m)) _).setCell (.inl (by exact fH m)) _).setCell (.inl (by exact fH m)) _).setCell (.inl (by exact fH m)) _).setCell (.inl (by exact fH m)) _).setCell (.inl (by exact fH m)) _)
      ·have l:w.heap.size≠bv:=by omega
       rw[aA _ _ l,aA _ _ l,aA _ _ l,aA _ _ l,aA _ _ l,aA _ _ l,aA _ _ l,aA _ _ l];exact a8.o
      ·rw[b8.o,c6.o,M.o];rfl
      ·refine(NK (w:=wr.drewN _) Hv.o _ _ _ _ _ _ _ _).t ?_;rw[Bu _ _ _ _ (FE s G wk) (Hk s),Bu _ _ _ _ (xQ s.d) (FE s G wk)];rfl
     case measure=>simp[intOf];omega
    ·have n:k2=64:=by omega
     obtain⟨s',d7⟩:=aK s;have a:wr.heap[d]?=de (.cells #[.int .u32 D.a.toNat,.int .u32 D.b.toNat,.int .u32 D.c.toNat,.int .u32 D.d.toNat,.int .u32 D.e.toNat,.int .u32 D.f.toNat,.int .u32 D.g.toNat,.int .u32 D.h.toNat] 198 (0,0)):=(y.block d (hF Hd.o) id).t Hd.o;have a9:=ae a;clear a;go_wp2
     have U:=GU s;have d6:(0:Nat)<8:=by decide
     have c2:=ae (show s=Sha.rounds (Sha.sched B 64) D 64 by rw[M.o,n]);have d1:=ae n;clear n M q0 q1 q2 q3 q4 q5 q6 q7 fv Hv;obtain⟨w2,a1⟩:∃w2:ax,w2=wr:=⟨_,rfl⟩
     rw[<-a1];rw[<-a1]at y a9;clear a1 a0 Cg b7;go_loopw [178] (λc b5=>∃k3:Nat,k3<=8/\c= .int .i64 k3/\Kept w.heap.size (λx=>x=d) w b5/\
       ∃C:Array bd,b5.heap[d]?=de (.cells C 198 (0,0))/\C.size=8/\∀j,j<8->C[j]?=de (.int .u32 (if j<k3 then D.toList.getD j 0+s.toList.getD j 0 else D.toList.getD j 0).toNat))
      (λc _=>8-(intOf c).toNat)
     case atStart=>
      refine⟨0,by omega,rfl,y.m (ag _) (λ_ _ h=>h.elim),_,a9.o,rfl,λj hj=>?_⟩
      match j,hj with
      |0,_=>rfl
      |1,_=>rfl
      |2,_=>rfl
      |3,_=>rfl
      |4,_=>rfl
      |5,_=>rfl
      |6,_=>rfl
      |7,_=>rfl
     case round=>
      obtain⟨k3,d4,rfl,b3,C,t,b2,v⟩:=hrel;by_cases X:k3<8
      ·have c7:=U k3 X;obtain⟨sk,Z⟩:=aK (s.toList.getD k3 0);obtain⟨dk,T⟩:=aK (D.toList.getD k3 0);rw[<-Z]at c7;have c0:=ej t k3 (v k3 X);rw[ak (Nat.lt_irrefl k3),<-T]at c0;have f0:=aO t k3;have K:=ae t;have L:=ae v;have c3:=ae Z;have b6:=ae T;clear t v Z T U;go_wp2
       refine bQ 9 (by kernel_rfl) (by kernel_rfl) ?_;simp only[bH,cQ,bT,cC];repeat (go_big_quiet_step (fail))
       refine bt ?_;intro w9 z;obtain⟨nq,rfl⟩:=z;go_wp2
       go_roundw
       case rel=>
        refine⟨k3+1,by omega,by go_num,(b3.drewN _).setCell (.inr rfl) _,sW _ K.o b2 X L.o ?_ ?_⟩
        ·rw[ar (by omega),<-b6.o,<-c3.o,Bu _ _ _ _ (xQ dk) (xQ sk)]
        ·intro j hj l;by_cases h:j<k3
         ·rw[ar h,ar (by omega)]
         ·rw[ak h,ak (by omega)]
       case measure=>simp[intOf];omega
      ·have L:=ae v;have K:=ae t;clear U v t;go_wp2
       go_end0
       refine⟨rfl,b3,?_⟩;have h3:k3=8:=by omega
       subst h3;rw[K.o,Og b2 (λj hj=>by rw[L.o j hj,ar hj]),Sha.dM,<-c2.o];rfl
end Go.Proofs.YtcdmenphjilnnaaGreatDoor
namespace Go.Con
set_option maxHeartbeats 8000000
theorem iN{α:Type}(f:α->List bd)(d:α)(k:Nat)(a:∀x,(f x).length=k):∀(l:List α) (i:Nat),i<l.length->∀j,j<k->(l.flatMap f)[k*i+j]?=(f (l.getD i d))[j]?
 |c::l,0,_,j,hj=>by
  rw[gC,Nat.mul_zero,ca,bU (by rw[a];exact hj)];rfl
 |c::l,i+1,hi,j,hj=>by
  rw[gC,bF (by rw[a,Nat.mul_succ];omega),a];have e:k*(i+1)+j-k=k*i+j:=by rw[Nat.mul_succ];omega
  rw[e];exact iN f d k a l i (by simpa using hi) j hj
theorem fg{α:Type}(f:α->List bd)(k:Nat)(a:∀x,(f x).length=k)(l:List α):(l.flatMap f).length=l.length*k:=by
 induction l with
 |nil=>simp
 |cons c l b=>rw[gC,aD,b,a,aZ,Nat.succ_mul];omega
def gN{α:Type}(k:Nat)(f:α->List bd)(d:α)(w:ax)(v:bd)(l:List α):Prop:=
 ∃a c,v= .slice a l.length c/\l.length<=c/\c<=maxLen/\(l≠[]->∃b off,a=(b,off)/\b<w.heap.size/\∀i,i<l.length->∀j,j<k->w.cell? (b,off+(k*i+j))=(f (l.getD i d))[j]?)
theorem gN.zB{α:Type}{k:Nat}{f:α->List bd}{d:α}{w:ax}{base:Nat}{t:TypeId}{v:bd}{l:List α}(e:∀x,(f x).length=k)(h:w.ownsRow base t k v l.length (l.flatMap f)):gN k f d w v l:=by
 obtain⟨h1,h2⟩:=h;rcases h2 with⟨rfl,m⟩|⟨g,cap,b,rfl,hb,hg,n,c,p,o⟩
 ·have:l=[]:=bq m;subst this;exact⟨dl,0,rfl,ag _,bX _,λh=>absurd rfl h⟩
 ·refine⟨de (g,0),cap,rfl,n,c,λ_=>⟨g,0,rfl,hF hg,λi hi j hj=>?_⟩⟩;rw[ca,<-iN f d k e l i hi j hj];have hlt:k*i+j<(l.flatMap f).length:=by
   rw[h1];have:k*i+k<=l.length*k:=by rw[<-Nat.mul_succ,eJ];exact gq _ hi
   omega
  have a:b[k*i+j]?=(l.flatMap f)[k*i+j]?:=by
   rw[<-o,cR,ar (by omega)];simp
  rw[aC hlt]at a|-;exact ej hg _ a
theorem gN.heap{α:Type}{k:Nat}{f:α->List bd}{d:α}{w w':ax}{v:bd}{l:List α}(h:gN k f d w v l)(e:∀q,v.ownBlock=de q->q<w.heap.size->w'.heap[q]?=w.heap[q]?):gN k f d w' v l:=by
 obtain⟨a,c,rfl,h1,h2,h3⟩:=h;refine⟨a,c,rfl,h1,h2,λhl=>?_⟩;obtain⟨b,off,rfl,hb,hc⟩:=h3 hl;have hw:=e b rfl hb;refine⟨b,off,rfl,?_,λi hi j hj=>?_⟩
 ·rcases dy b w'.heap.size with h|h
  ·exact h
  ·rw[Array.getElem?_eq_none h,bm hb]at hw;cases hw
 ·rw[<-hc i hi j hj];exact aw (w:=w) hw
theorem gN.cells{α:Type}{k:Nat}{f:α->List bd}{d:α}{w:ax}{a:Option Addr}{n c:Nat}{l:List α}(h:gN k f d w (.slice a n c) l):n=l.length/\n<=c/\(∀i,i<n->∃b off,a=(b,off)/\b<w.heap.size/\∀j,j<k->w.cell? (b,off+(k*i+j))=(f (l.getD i d))[j]?):=by
 obtain⟨a',g,h0,h1,h2,h3⟩:=h;injection h0 with e1 e2 e3;subst e1 e3;refine⟨e2,by omega,λi hi=>?_⟩;obtain⟨b,off,rfl,hb,hc⟩:=h3 (λe=>by rw[e]at e2;simp at e2;omega);exact⟨b,off,rfl,hb,hc i (by omega)⟩
end Go.Con
namespace Go.Proofs.YtcdmenphjilnnaaGreatDoor
open Go.RowKit Go.Con
set_option maxHeartbeats 8000000
theorem _root_.Go.Con.gN.stay{α:Type}{k:Nat}{f:α->List bd}{d:α}{w w':ax}{v:bd}{l:List α}(h:gN k f d w v l)(hb:dd w.heap.size w w'):gN k f d w' v l:=h.heap (λq _ hq=>hb.block q hq)
abbrev Dr:=gN 8 aS cF.zero
def fk(w:ax)(base:Nat)(v:bd)(l:List cF):Prop:=w.ownsRow base 109 8 v l.length (l.flatMap aS)
theorem fk.row{w:ax}{base:Nat}{v:bd}{l:List cF}(h:fk w base v l):Dr w v l:=gN.zB (λ_=>rfl) h
theorem tQ{w w':ax}{base size:Nat}{e:TypeId}{v:bd}{n:Nat}{xs:List bd}(h:w.ownsRow base e size v n xs)(b:∀k,v.ownBlock=de k->w'.heap[k]?=w.heap[k]?):w'.ownsRow base e size v n xs:=by
 obtain⟨h1,h2⟩:=h;refine⟨h1,?_⟩;rcases h2 with h2|⟨g,cap,a,rfl,hg,c,r⟩
 ·exact .inl h2
 ·exact .inr ⟨g,cap,a,rfl,hg,by rw[b g rfl];exact c,r⟩
theorem zi{w:ax}{base base' size:Nat}{e:TypeId}{v:bd}{n:Nat}{xs:List bd}(h:w.ownsRow base e size v n xs)(hb:base'<=base):w.ownsRow base' e size v n xs:=by
 obtain⟨h1,h2⟩:=h;refine⟨h1,?_⟩;rcases h2 with h2|⟨g,cap,a,hv,hg,r⟩
 ·exact .inl h2
 ·exact .inr ⟨g,cap,a,hv,by omega,r⟩
theorem lV{w:ax}{base size:Nat}{e:TypeId}{v:bd}{n:Nat}{xs:List bd}(h:w.ownsRow base e size v n xs):∀k,v.ownBlock=de k->base<=k/\k<w.heap.size:=by
 intro k hk;obtain⟨h1,h2⟩:=h;rcases h2 with⟨rfl,_⟩|⟨g,cap,b,rfl,hg,a,r⟩
 ·cases hk
 ·injection hk with e;subst e;exact⟨hg,hF a⟩
theorem gD{P:Program}{t:TypeId}{z:Option bd}{s b:Nat}(h:(P.info? t).map (λi=>(i.zero,i.size,i.bytes))=de (z,s,b)):∃i,P.info? t=de i/\i.zero=z/\i.size=s/\i.bytes=b:=by
 cases hi:P.info? t with
 |none=>rw[hi]at h;cases h
 |some i=>rw[hi]at h;simp at h;exact⟨i,rfl,h.1,h.2.1,h.2.2⟩
theorem xY:(prog.info? 109).map (λi=>(i.zero,i.size,i.bytes))=de (de (.agg #[(0:Int),(0:Int),(0:Int),(0:Int),(0:Int),(0:Int),(0:Int),(0:Int)]),8,64):=by kernel_rfl
theorem jM(l:List cF):∀u∈l.flatMap aS,u.oneCell'=dE:=by
 intro u hu;obtain⟨e,he,hu⟩:=List.mem_flatMap.1 hu;simp[aS]at hu;rcases hu with rfl|rfl|rfl|rfl|rfl|rfl|rfl|rfl<;>rfl
theorem DX{w:ax}{ea:Option Addr}{k c:Nat}{m:List cF}(h:Dr w (.slice ea k c) m)(ad:Addr)(he:ea=de ad):∀j u,(m.flatMap aS)[j]?=de u->w.cell? (ad.add j)=de u:=by
 intro j u hu;obtain⟨hk,e,a⟩:=h.cells;have hj:j<m.length*8:=by
  have:=(cX.1 hu).1;rwa[fg aS 8 (λ_=>rfl)]at this
 obtain⟨b,off,d,-,hc⟩:=a (j/8) (by omega);obtain rfl:=fT (he.symm.t d);have h2:=hc (j%8) (fm _ (by decide));have h3:=iN aS cF.zero 8 (λ_=>rfl) m (j/8) (by omega) (j%8) (fm _ (by decide));rw[Nat.div_add_mod]at h2 h3;rw[gY];exact h2.t (h3.symm.t hu)
section
variable{ops:Array Oper}{rest:List Oper}{o:Oper}{a:Act}{Q:Exit->Act->ax->Prop}{w:ax}
theorem Oo(f:o.guard=dl)(s x:Operand)(ho:o.op= .call {callee:= .builtin .append,args:=#[s,x],argTypes:=#[74,74]})
  (base:Nat)(v:bd)(l m:List cF)(ea:Option Addr)(k c:Nat)(hs:a.eval s=v)(e:fk w base v l)(hx:a.eval x= .slice ea k c)(g:Dr w (.slice ea k c) m)(q:ea=dl->c=0)(hlen:l.length+m.length<=1000000)(j:base<=w.heap.size)
  (h:∀d w',fk w' base d (l++m)->w.grownBy w' v.ownBlock->(d.ownBlock=v.ownBlock\/d.ownBlock=de w.heap.size)->wpList ed ops Q rest (a.put o.dst d) w'):wpList ed ops Q (o::rest) a w:=by
 obtain⟨i,hi,t,r,hb⟩:=gD xY;obtain⟨hk,u,n⟩:=g.cells;cases ea with
 |none=>
  have p:k=0:=by
   rcases pj k with h|h
   ·exact h
   ·obtain⟨b,off,he,-⟩:=n 0 h;cases he
  have hm:m=[]:=bq (by omega);rw[p,q rfl]at hx;subst hm;refine mY f s x 74 ho base 109 i 8 Tryz.underlying74 hi v l.length _ hs e hx ?_;exact h v w (by simpa using e) ⟨rfl,rfl,rfl,ag _,λ_ _ _=>rfl⟩ (.inl rfl)
 |some ad=>
  refine wpList_append_own_at w f s x 74 ho base 109 i _ 8 64 Tryz.underlying74 hi t r hb rfl (by decide) v l.length (l.flatMap aS) hs e ad k c (m.flatMap aS) hx (by rw[fg aS 8 (λ_=>rfl),hk]) (DX g ad rfl) (jM m) (by unfold maxLen;omega) (by omega) j ?_;intro d w' h1 h2 _ h4;refine h d w' ?_ h2 h4;unfold fk;rw[aD,dP,<-hk];exact h1
end
section
variable{ops:Array Oper}{o:Oper}{a:Act}{w:ax}{K:Act->ax->Prop}{Q:Exit->Act->ax->Prop}{E:Prop}
end
end Go.Proofs.YtcdmenphjilnnaaGreatDoor
namespace Go.Con
set_option maxHeartbeats 8000000
def kO(p:Int×Int):Int->List cF->Bool
 |_,[]=>dE
 |last,v::l=>jJ v&&decide (last<v.slot)&&decide (dX v.bG p<=0)&&kO p v.slot l
def kf(p:Int×Int)(l:List cF):Bool:=(decide (p=(0,0))||okB p)&&kO p (-1) l
def nF(l:List cF):Int:=match l.getLast? with|some v=>v.slot|none=>-1
theorem vI(l:List cF)(v:cF):nF (l++[v])=v.slot:=by simp[nF]
theorem se(p:Int×Int)(last:Int)(l m:List cF):kO p last (l++m)=(kO p last l&&kO p ((match l.getLast? with|some v=>v.slot|none=>last)) m):=by
 induction l generalizing last with
 |nil=>rfl
 |cons v l c=>
  show(jJ v&&decide (last<v.slot)&&decide (dX v.bG p<=0)&&kO p v.slot (l++m))=_;rw[c];have e:(match(v::l).getLast? with|some v=>v.slot|none=>last)=(match l.getLast? with|some v=>v.slot|none=>v.slot):=by
   cases l with
   |nil=>rfl
   |cons a b=>rw[List.getLast?_cons_cons,List.getLast?_cons]
  rw[e];show _=((jJ v&&decide (last<v.slot)&&decide (dX v.bG p<=0)&&kO p v.slot l)&&_)
  simp[Bool.and_assoc]
theorem Ek(p:Int×Int)(l:List cF)(v:cF):kO p (-1) (l++[v])=(kO p (-1) l&&(jJ v&&decide (nF l<v.slot)&&decide (dX v.bG p<=0))):=by
 rw[se];show(_&&(jJ v&&decide (_<v.slot)&&decide (dX v.bG p<=0)&&dE))=_;rw[Bool.and_true];rfl
end Go.Con
namespace Go.Proofs.YtcdmenphjilnnaaGreatDoor
open Go.RowKit Go.Con
set_option maxHeartbeats 8000000
def Co(p:Int×Int)(v:bd):bd:= .agg #[p.1,p.2,v]
theorem nO(sl r n k cl b a d:Int)(c:Bool)(w:ax)(h:Hid (jJ ⟨sl,(r,n),⟨k,cl,b,a,d⟩⟩=c)):
  bl ed 116 #[.agg #[sl,r,n,k,cl,b,a,d]] w λe w'=>e= .returned (.bool c)/\dd w.heap.size w w':=by
 rw[<-h.o];exact FD ⟨sl,(r,n),⟨k,cl,b,a,d⟩⟩ w
theorem rD{w:ax}{b off i:Nat}{x:cF}(h:∀j,j<8->w.cell? (b,off+(8*i+j))=(aS x)[j]?):
  w.cell? (b,off+i*8)=x.slot/\w.cell? (b,off+i*8+1)=x.bG.1/\w.cell? (b,off+i*8+2)=x.bG.2/\w.cell? (b,off+i*8+3)=x.cW.kind/\w.cell? (b,off+i*8+4)=x.cW.bD/\
  w.cell? (b,off+i*8+5)=x.cW.seq/\w.cell? (b,off+i*8+6)=x.cW.name/\w.cell? (b,off+i*8+7)=x.cW.value:=by
 have e:∀j,off+i*8+j=off+(8*i+j):=λj=>by omega
 refine⟨?_,?_,?_,?_,?_,?_,?_,?_⟩
 ·rw[show off+i*8=off+(8*i+0) by omega];exact h 0 (by decide)
 ·rw[e];exact h 1 (by decide)
 ·rw[e];exact h 2 (by decide)
 ·rw[e];exact h 3 (by decide)
 ·rw[e];exact h 4 (by decide)
 ·rw[e];exact h 5 (by decide)
 ·rw[e];exact h 6 (by decide)
 ·rw[e];exact h 7 (by decide)
theorem yt(p:Int×Int)(v:bd)(l:List cF)(w:ax)(hv:Dr w v l):
  bl ed 112 #[Co p v] w λe w'=>e= .returned (if kf p l then 0 else 5:Int)/\dd w.heap.size w w':=by
 obtain⟨a,c⟩:=p;obtain⟨ea,G,rfl,hle,b5,-⟩:=id hv;obtain⟨n,U⟩:=aK l.length;rw[<-U]at hv hle|-;have c4:G<=9223372036854775807:=b5;show bl ed 112 #[.agg #[a,c,.slice ea n G]] w _;obtain⟨r,hr⟩:∃r:Int,r=if kf (a,c) l then 0 else 5:=⟨_,rfl⟩
 rw[<-hr];have N:=ae hr;have HV:=ae hv;have W:=ae U;obtain⟨b,hb⟩:=aK (okB (a,c));have HB:=ae hb.symm;have a0:(decide ((a,c)=((0,0):Int×Int))||b)=dT->r=5:=by
  intro h;rw[N.o];unfold kf;rw[<-hb,h];rfl
 have a9:=ae a0;clear hr hv U hb a0;have hp:(a=0/\c=0)\/((a==0)=dT/\b=dE)\/(a=0/\(c==0)=dT/\b=dE)\/((a==0)=dT/\b=dT)\/(a=0/\(c==0)=dT/\b=dT):=by
  simp only[aJ,ne_eq];cases b<;>simp<;>omega
 go_enter func112,ntmps112
 iterate 13 go_step
 go_cut []from 6 to 42 (λwc=>Hid (kf (a,c) l=kO (a,c) (-1) l/\wc.heap[w.heap.size]?=de (.cells #[a,c,.slice ea n G] 76 (0,0))/\dd w.heap.size w wc))
 case first=>
  rcases hp with⟨rfl,rfl⟩|⟨hp,rfl⟩|⟨rfl,hp,rfl⟩|⟨hp,rfl⟩|⟨rfl,hp,rfl⟩
  ·go_wp2_with fail
   go_meet
   case rel=>exact⟨rfl,aL _ _,(aj _ _).alloc (ag _) _⟩
  iterate 2
   ·go_wp2_with (go_at_call 113;refine(nI _ _ _ _ (by assumption)).m ?_;rintro e z ⟨rfl,A⟩;have E:=ae A;clear A)
    go_meet
    case rel=>exact⟨by unfold kf;rw[HB.o,Bool.or_true,Bool.true_and],(E.o.block w.heap.size (by simp)).t (aL _ _),((Below.refl w.heap.size w).alloc (Nat.le_refl _) _).t (E.o.m (by simp))⟩
  iterate 2
   ·have b9:r=5:=a9.o (by
     rw[Bool.or_false,ah];intro h;injection h with e1 e2;simp[e1,e2]at hp)
    subst b9;go_wp2_with (go_at_call 113;refine(nI _ _ _ _ (by assumption)).m ?_;rintro e z ⟨rfl,A⟩;have E:=ae A;clear A)
    go_ret
    exact⟨rfl,((aj w.heap.size w).alloc (ag _) _).t (E.o.m (by simp))⟩
 case rest=>
  obtain⟨z,rfl⟩:=aK wc;obtain⟨a5,J,a1⟩:=hcut.o;have b2:=ae a5;clear hp a5 hcut;have c0:Hid (z.heap[w.heap.size]?=de (.cells #[a,c,.slice ea n G] 76 (0,0))):=ae J;have u:=ae a1;have Y:w.heap.size<z.heap.size:=hF J;have y2:=ej J 2 rfl;clear J a1;go_wp2_with fail
  clear y2;go_loopw [3,5,19] (λo _ i wr=>∃j:Nat,j<=n/\i= .int .i64 j/\o= .int .i64 (nF (l.take j))/\Hid (kO (a,c) (-1) (l.take j)=dE/\dd z.heap.size z wr)) (λ_ _ i _=>n-(intOf i).toNat)
  case atStart=>exact⟨0,by omega,rfl,rfl,ae ⟨rfl,aj _ _⟩⟩
  case round=>
   obtain⟨j,c5,rfl,rfl,f⟩:=hrel;obtain⟨o,H⟩:=aK (nF (l.take j));rw[<-H];by_cases h1:j<n
   ·have b6:decide ((j:Int)<n)=dE:=by rw[ap];omega
    have b7:decide (j<n)=dE:=by rw[ap];omega
    obtain⟨eb,b3,rfl,a3,R⟩:=HV.o.cells.2.2 j h1;have S:j<l.length:=by rw[<-W.o];exact h1
    obtain⟨v,hv⟩:=aK (l.getD j cF.zero);rw[<-hv]at R;have C:l.take (j+1)=l.take j++[v]:=by
     rw[eA,aC S,hv,au,aC S];rfl
    have a6:∃m,l=(l.take j++[v])++m:=⟨l.drop (j+1),by rw[<-C,dg]⟩
    have B:kO (a,c) (-1) (l.take (j+1))=(jJ v&&decide (o<v.slot)&&decide (dX v.bG (a,c)<=0)):=by
     rw[C,Ek,f.o.1,H,Bool.true_and]
    have T:nF (l.take (j+1))=v.slot:=by rw[C,vI]
    have I:(jJ v&&decide (o<v.slot)&&decide (dX v.bG (a,c)<=0))=dT->r=5:=by
     intro h;obtain⟨m,hm⟩:=a6;rw[N.o];have:kO (a,c) (-1) l=dT:=by
      rw[hm,se,<-C,B,h];rfl
     unfold kf;rw[this,Bool.and_false];rfl
    have a2:∀q,q<8->wr.cell? (eb,b3+(8*j+q))=(aS v)[q]?:=λq hq=>by
     rw[<-R q hq];exact aw (w:=w) ((u.o.t (f.o.2.m u.o.size)).block eb a3)
    obtain⟨sl,⟨br,Z⟩,⟨k,cl,sq,nm,vl⟩⟩:=v;obtain⟨x0,x1,x2,x3,x4,x5,x6,x7⟩:=rD a2;dsimp only at x0 x1 x2 x3 x4 x5 x6 x7 I B T;obtain⟨c1,P⟩:=aK (jJ ⟨sl,(br,Z),⟨k,cl,sq,nm,vl⟩⟩);obtain⟨F,Q⟩:=aK (dX (br,Z) (a,c));rw[<-P,<-Q]at I B;have c2:=ae P.symm;have c3:=ae Q.symm;have M:=ae I;have b0:=ae B;have b1:=ae T;have O:w.heap.size<wr.heap.size:=ai Y f.o.2.size;have a7:=(f.o.2.block _ Y).t c0.o;have X:=ae a7;clear R a2 hv C a6 I B T P Q H a7 S a3;have b4:(c1=dT/\r=5)\/(c1=dE/\decide (sl<=o)=dE/\r=5)\/(c1=dE/\decide (sl<=o)=dT/\decide (0<F)=dE/\r=5)\/(c1=dE/\decide (sl<=o)=dT/\decide (0<F)=dT/\kO (a,c) (-1) (l.take (j+1))=dE):=by
     by_cases D:c1=dE
     ·by_cases y:sl<=o
      ·exact .inr (.inl ⟨D,by simpa using y,M.o (by rw[show decide (o<sl)=dT by rw[ah];omega];simp)⟩)
      ·by_cases K:0<F
       ·exact .inr (.inr (.inl ⟨D,by simpa using y,by simpa using K,M.o (by rw[show decide (F<=0)=dT by rw[ah];omega];simp)⟩))
       ·refine .inr (.inr (.inr ⟨D,by simpa using y,by simpa using K,?_⟩));rw[b0.o,D];simp;omega
     ·have a8:c1=dT:=by simpa using D
      exact .inl ⟨a8,M.o (by rw[a8];rfl)⟩
    rcases b4 with⟨rfl,rfl⟩|⟨rfl,y,rfl⟩|⟨rfl,y,K,rfl⟩|⟨rfl,y,K,q4⟩
    iterate 3
     ·go_wp2_with (first
       |(go_at_call 116;refine(nO _ _ _ _ _ _ _ _ _ _ (by assumption)).m ?_;rintro e w2 ⟨rfl,g⟩;have t:=ae (((aj wr.heap.size wr).alloc (ag _) _).t (g.m (by simp)));have d:=(g.block wr.heap.size (by simp)).t (aL _ _);have s:=((g.block w.heap.size (by simp;omega)).t (bC _ _ _ O)).t X.o;have u0:=ej d 0 rfl;have u1:=ej d 1 rfl;have u2:=ej d 2 rfl;have p0:=ej s 0 rfl;have p1:=ej s 1 rfl;clear g d s)
       |(go_at_call 114;refine(iP _ _ _ _ _ _ (by assumption)).m ?_;rintro e w3 ⟨rfl,x⟩;have L:=ae (t.o.t (x.m t.o.size));clear x))
      go_ret
      exact⟨rfl,(u.o.t (f.o.2.m u.o.size)).t (Below.m (by first|exact L.o|exact t.o) (fH O))⟩
    ·go_wp2_with (first
      |(go_at_call 116;refine(nO _ _ _ _ _ _ _ _ _ _ (by assumption)).m ?_;rintro e w2 ⟨rfl,g⟩;have t:=ae (((aj wr.heap.size wr).alloc (ag _) _).t (g.m (by simp)));have d:=(g.block wr.heap.size (by simp)).t (aL _ _);have V:=ae d;have s:=((g.block w.heap.size (by simp;omega)).t (bC _ _ _ O)).t X.o;have u0:=ej d 0 rfl;have u1:=ej d 1 rfl;have u2:=ej d 2 rfl;have p0:=ej s 0 rfl;have p1:=ej s 1 rfl;clear g d s)
      |(go_at_call 114;refine(iP _ _ _ _ _ _ (by assumption)).m ?_;rintro e w3 ⟨rfl,x⟩;have L:=ae (t.o.t (x.m t.o.size));have t0:=ej ((x.block _ (hF V.o)).t V.o) 0 rfl;clear x))
     go_roundw
     case rel=>exact⟨j+1,by omega,by go_num,by rw[b1.o],ae ⟨q4,f.o.2.t (L.o.m f.o.2.size)⟩⟩
     case measure=>simp[intOf];omega
   ·have a4:j=n:=by omega
    have b6:decide ((j:Int)<n)=dT:=by rw[ah];omega
    have b7:decide (j<n)=dT:=by rw[ah];omega
    have b8:r=0:=by
     rw[N.o];have h:=f.o.1;rw[show l.take j=l by rw[a4,W.o,dV]]at h;rw[b2.o,h];rfl
    subst b8;clear a4 H;go_wp2_with fail
    go_ret
    exact⟨rfl,u.o.t (f.o.2.m u.o.size)⟩
end Go.Proofs.YtcdmenphjilnnaaGreatDoor
namespace Go.Con.Sha
set_option maxHeartbeats 8000000
def lh(key:List UInt8)(x:UInt8):List UInt8:=
 let k:=if 64<key.length then sum key else key
 (k++List.replicate (64-k.length) 0).map (·^^^x)
theorem kE(key:List UInt8)(x:UInt8):(lh key x).length=64:=by
 unfold lh;have:(if 64<key.length then sum key else key).length<=64:=by
  split
  ·rw[gK];decide
  ·omega
 simp;omega
def GA(key b:List UInt8):List UInt8:=sum (lh key 92++sum (lh key 54++b))
theorem uw(key b:List UInt8):(GA key b).length=32:=rfl
def piece(key a:List UInt8):Nat->List UInt8
 |0=>[]
 |i+1=>GA key (piece key a i++a++[UInt8.ofNat (i+1)])
def pieces(key a:List UInt8):Nat->List UInt8
 |0=>[]
 |i+1=>pieces key a i++piece key a (i+1)
theorem qz(key a:List UInt8)(i:Nat):(piece key a (i+1)).length=32:=rfl
theorem jo(key b:List UInt8)(i:Nat):(pieces key b i).length=32*i:=by
 induction i with
 |zero=>rfl
 |succ i a=>rw[pieces,aD,a,qz];omega
def JG(n:Nat):Nat:=(n+31)/32
def draw(c b a:List UInt8)(n:Nat):List UInt8:=(pieces (GA b c) a (JG n)).take n
theorem ss(c b a:List UInt8)(n:Nat):(draw c b a n).length=n:=by
 rw[draw,aM,jo,JG];omega
end Go.Con.Sha
namespace Go.Proofs.YtcdmenphjilnnaaGreatDoor
open Go.RowKit Go.Con
set_option maxHeartbeats 8000000
theorem tH(n:Nat):Builtin.zeroCells (Value.int .u8 0).cells n=((List.replicate n (0:UInt8)).map fs).toArray:=by
 apply Array.ext (by simp[Builtin.zeroCells,Value.cells]);intro j h1 h2;simp[Builtin.zeroCells,Value.cells,fs,Nat.mod_one]
theorem xG(w:ax)(ty:TypeId)(i:TypeInfo)(hi:prog.info? 5=de i)(o:i.zero=de (.int .u8 0))(l:i.size=1)(e:i.bytes=1)
  (g n cap:Nat)(a:Array bd)(hg:w.heap[g]?=de (.cells a 5 (0,0)))(m:Nat)(p:0<m)(hm:m<=140737488355328)(k:n+m<=cap)(f:n+m<=a.size):
  (Builtin.append_ #[24,3] ty #[.slice (de ⟨g,0,dl⟩) n cap,.int .i64 m]).run ed w=
   .ok (.slice (de ⟨g,0,dl⟩) (n+m) cap) (w.setRow g (a.toList.take n++(List.replicate m (0:UInt8)).map fs++a.toList.drop (n+m)).toArray):=by
 have b:=run_storeCells_at ed g n 5 ((List.replicate m (0:UInt8)).map fs) 0 a w hg (by simpa using f) (Bq _);simp only[fI,aY,ng]at b;have hw:IntKind.i64.wrap (m:Int)=m:=by rw[jg];omega
 have d:¬(281474976710656<(m:Int)):=by omega
 have h:¬((m:Int)<0):=by omega
 have j:m≠0:=by omega
 have c:=tH m;simp only[List.map_replicate]at b c|-;simp[Builtin.append_,dt Tryz.underlying24,dt Tryz.underlying3,sizeOf,typeInfo,zeroValue,hi,o,l,e,asInt,asIntOf,hw,k,h,j,d,c,Addr.add_lit,b]
theorem Jq(w:ax)(base:Nat)(ty:TypeId)(v:bd)(l:List UInt8)(D:Own w base v l)(m:Nat)(hlen:l.length+m<=140737488355328)(A:base<=w.heap.size):
  ∃z w',(Builtin.append_ #[24,3] ty #[v,.int .i64 m]).run ed w= .ok z w'/\Own w' base z (l++List.replicate m 0)/\w.grownBy w' v.ownBlock:=by
 obtain⟨i,hi,r,f,a⟩:=info_parts Tryz.zQ;have F:((l++List.replicate m (0:UInt8)).map fs).length=l.length+m:=by simp
 obtain⟨q,h2⟩:=D;have E:¬((m:Int)<0):=by omega
 have hw:IntKind.i64.wrap (m:Int)=m:=by rw[jg];omega
 by_cases hm:m=0
 ·subst hm;have y:IntKind.i64.wrap 0=0:=by rw[jg];rfl
  refine⟨v,w,?_,by simpa[Own]using(show Own w base v l from⟨q,h2⟩),⟨rfl,rfl,rfl,ag _,λ_ _ _=>rfl⟩⟩;rcases h2 with⟨rfl,t⟩|⟨g,cap,d,rfl,o,hg,p,c,s,h⟩
  ·simp[Builtin.append_,dt Tryz.underlying24,dt Tryz.underlying3,sizeOf,typeInfo,hi,f,a,asInt,asIntOf,y]
  ·simp[Builtin.append_,dt Tryz.underlying24,dt Tryz.underlying3,sizeOf,typeInfo,hi,f,a,asInt,asIntOf,y,p,storeCells]
 ·have grown:∀(AI:Nat),AI<l.length+m->∀(row:Option Nat),
    Own (w.drew.alloc (.cells ((l.map fs).toArray++Builtin.zeroCells (Value.int .u8 0).cells m++Builtin.zeroCells (Value.int .u8 0).cells (grownCap w (l.length+m) AI 5-(l.length+m))) 5)) base (.slice (w.heap.size,0) (l.length+m) (grownCap w (l.length+m) AI 5)) (l++List.replicate m 0)/\
    w.grownBy (w.drew.alloc (.cells ((l.map fs).toArray++Builtin.zeroCells (Value.int .u8 0).cells m++Builtin.zeroCells (Value.int .u8 0).cells (grownCap w (l.length+m) AI 5-(l.length+m))) 5)) row:=by
   intro AI ho row;have C:=grownCap_ge w (l.length+m) AI 5;have c:grownCap w (l.length+m) AI 5<=maxLen:=grownCap_le_maxLen w (l.length+m) AI 5 (by unfold maxLen;omega);refine⟨⟨by simp,.inr ⟨w.heap.size,_,_,by simp,A,heap_alloc_new w.drew _,by simpa using C,c,?_,?_⟩⟩,⟨rfl,rfl,rfl,by simp,λk hk _=>heap_alloc_old w.drew _ hk⟩⟩
   ·simp only[Array.size_append,dL,size_zeroCells,aY,Value.cells];simp;omega
   ·rw[tH];simp only[Array.toList_append,du];rw[gu (by simp)];rw[bK (by simp)]
  rcases h2 with⟨rfl,t⟩|⟨g,cap,d,rfl,o,hg,p,c,s,h⟩
  ·obtain rfl:l=[]:=bq t;have hr:=Lib.run_append_nil_zeros (P:=ed) w 24 3 ty 5 i (.int .u8 0) .i64 .i64 Tryz.underlying24 Tryz.underlying3 hi r m (by omega) (by omega) (by omega) (by rw[a];omega);have b:=grown 0 (by simp;omega) dl;simp only[ot,ca,List.map_nil,cK,Array.empty_append,show(([]:List bd).toArray)=#[]from rfl]at b;exact⟨_,_,hr,by simpa using b.1,b.2⟩
  ·by_cases x:l.length+m<=cap
   ·have hr:=xG w ty i hi r f a g l.length cap d hg m (by omega) (by omega) x (by omega);refine⟨_,_,hr,⟨by simp,.inr ⟨g,cap,_,by simp,o,setRow_heap w g d _ _ _ hg,by simpa using x,c,?_,?_⟩⟩,⟨rfl,rfl,rfl,by simp,λk _ hk=>mZ w g k _ (λe=>hk (by simp[Value.ownBlock,e]))⟩⟩
    ·simp only[dL,aD,aM,cO,iR,aY,ng];omega
    ·rw[Nat.mul_one]at h;rw[h,du,gu (by simp),bK (by simp)]
   ·have holds:∀j u,(l.map fs)[j]?=de u->w.cell? (((g,0):Addr).add j)=de u:=World.ownsRow.cells (base:=base) (e:=5) (size:=1) (n:=l.length) ⟨q,.inr ⟨g,cap,d,rfl,o,hg,p,c,s,h⟩⟩ (g:=g) rfl;have B:=run_firstCells_some (P:=ed) w.drew i.size l.length (g,0) l.length cap (l.map fs) (by rw[f];exact q) (by simpa using holds);have hr:=Lib.run_append_grow_zeros (P:=ed) w 24 3 ty 5 i (.int .u8 0) .i64 .i64 Tryz.underlying24 Tryz.underlying3 hi r (g,0) l.length cap (l.map fs) B m (by omega) (by omega) (by omega) (by omega) (by rw[a];omega) (growslice_fits (by omega) (by rw[a];omega));have b:=grown cap (by omega) (Value.ownBlock (.slice (g,0) l.length cap));exact⟨_,_,hr,b.1,b.2⟩
section
variable{ops:Array Oper}{rest:List Oper}{o:Oper}{a:Act}{Q:Exit->Act->ax->Prop}{w:ax}
theorem OI(n:o.guard=dl)(s x:Operand)(ho:o.op= .call {callee:= .builtin .append,args:=#[s,x],argTypes:=#[24,3]})
  (base:Nat)(v:bd)(l:List UInt8)(hs:a.eval s=v)(r:Own w base v l)(m:Nat)(M:Int)(hx:a.eval x= .int .i64 M)(e:M=(m:Int))(hlen:l.length+m<=140737488355328)(j:base<=w.heap.size)
  (h:∀b w',Own w' base b (l++List.replicate m 0)->w.grownBy w' v.ownBlock->wpList ed ops Q rest (a.put o.dst b) w'):wpList ed ops Q (o::rest) a w:=by
 subst e;obtain⟨b,w',hr,h1,h2⟩:=Jq w base o.type v l r m hlen j;exact Lib.wpList_append_run w n s x _ _ ho _ _ hs hx b w' hr (h b w' h1 h2)
end
theorem xK(w:ax)(base:Nat)(l:List UInt8)(n:Nat)(a:l.length=n)(hb:base<=w.heap.size)(hm:n<=maxLen):Own (w.alloc (.cells (l.map fs).toArray 5)) base (.slice (w.heap.size,0) n n) l:=by
 subst a;refine⟨by simp,.inr ⟨w.heap.size,l.length,(l.map fs).toArray,rfl,hb,aL w _,ag _,hm,by simp,?_⟩⟩;rw[bK (by simp)]
theorem mF(W:ax)(base:Nat)(b:Int)(a:UInt8)(h0:b=a.toNat)(hb:base<=W.heap.size):
  Own (W.alloc (.cells #[.int .u8 b] 5)) base (.slice (W.heap.size,0) 1 1) [a]:=by
 subst h0;exact xK W base [a] 1 rfl hb (by decide)
section
variable{ops:Array Oper}{o:Oper}{a:Act}{w:ax}{K:Act->ax->Prop}{Q:Exit->Act->ax->Prop}{E:Prop}
theorem oC(hg:o.guard=dl)(s x:Operand)(ho:o.op= .call {callee:= .builtin .append,args:=#[s,x],argTypes:=#[24,24]})
  (base:Nat)(v src:bd)(l m:List UInt8)(hs:a.eval s=v)(d:Own w base v l)(hx:a.eval x=src)(e:Rd w src m)(hlen:l.length+m.length<=140737488355328)(f:base<=w.heap.size)
  (h:∀b w',Own w' base b (l++m)->w.grownBy w' v.ownBlock->K (a.put o.dst b) w'):if Region.wanted o (yielded ops a.tmps)=dE then Oper.wp ed o a w K Q else E:=by
 have hw:Region.wanted o (yielded ops a.tmps)=dE:=by simp[Region.wanted,hg]
 rw[ar hw];obtain⟨i0,hi,i,j,k⟩:=info_parts Tryz.zQ;obtain⟨ao,c,hv,_⟩:=e.slice;subst hv;cases ao with
 |none=>
  obtain⟨hm,n,g⟩:=e.nA;subst hm;rw[g]at hx;have hr:=run_append_owned_none (P:=ed) (w:=w) base 24 o.type 5 i0 1 Tryz.underlying24 hi v l.length (l.map fs) d;exact gJ w s x _ _ ho _ _ hs hx v w hr (h v w (by simpa using d) ⟨rfl,rfl,rfl,ag _,λ_ _ _=>rfl⟩)
 |some ad=>
  obtain⟨b,w',hr,h2,h3,h4⟩:=run_append_own (P:=ed) w base 24 o.type 5 i0 (.int .u8 0) 1 1 Tryz.underlying24 hi i j k rfl (by decide) v l.length _ d ad m.length c (m.map fs) (by simp) (e.cells ad rfl) (Bq m) (by unfold maxLen;omega) (by omega) f;refine gJ w s x _ _ ho _ _ hs hx b w' hr (h b w' ?_ h3);unfold Own;rw[aD,du];exact h2
end
end Go.Proofs.YtcdmenphjilnnaaGreatDoor
namespace Go.Con
open Go.RowKit
set_option maxHeartbeats 8000000
theorem Kept.setCells{B:Nat}{S:Nat->Prop}{a:ax}{b:Nat}(hb:B<=b\/S b):∀(vs:List bd) (o:Nat) (w:ax),Kept B S a w->Kept B S a (w.setCells b o vs)
 |[],_,_,h=>h
 |v::r,o,w,h=>Kept.setCells hb r (o+1) _ (h.setCell (p:=(b,o)) hb v)
theorem bp{B:Nat}{a:ax}{b:Nat}(hb:B<=b):∀(vs:List bd) (o:Nat) (w:ax),dd B a w->dd B a (w.setCells b o vs)
 |[],_,_,h=>h
 |v::r,o,w,h=>bp hb r (o+1) _ (h.setCell (p:=(b,o)) hb v)
theorem eC{b:Nat}{e:TypeId}{f:Nat×Nat}:∀(vs:List bd) (o:Nat) (w:ax) (a:Array bd),w.heap[b]?=de (.cells a e f)->∃d,(w.setCells b o vs).heap[b]?=de (.cells d e f)/\d.size=a.size
 |[],_,_,a,h=>⟨a,h,rfl⟩
 |v::r,o,w,a,h=>by
  obtain⟨c,h1,h2⟩:=eC r (o+1) (w.setCell (b,o) v) _ (aB h v);exact⟨c,h1,by rw[h2];simp⟩
theorem bE{b k:Nat}(hk:k≠b):∀(vs:List bd) (o:Nat) (w:ax),(w.setCells b o vs).heap[k]?=w.heap[k]?
 |[],_,_=>rfl
 |v::r,o,w=>(bE hk r (o+1) _).t (aA o v hk)
theorem mQ{b:Nat}:∀(vs:List bd) (o:Nat) (w:ax),(w.setCells b o vs).heap.size=w.heap.size
 |[],_,_=>rfl
 |v::r,o,w=>(mQ r (o+1) _).t (by simp[World.setCell])
theorem dr{w:ax}{b n:Nat}{t:TypeId}{a:Array bd}(h:w.heap[b]?=de (.cells a t (0,0)))(c:a.size=n):w.there b 0 n:=λj hj=>by
 rw[ca];refine⟨?_,aO h j⟩;rw[uS h j (by omega)];rfl
theorem dI{w:ax}{b:Nat}{t:TypeId}{a:Array bd}{vs:List bd}(h:w.heap[b]?=de (.cells a t (0,0)))(d:a.size=vs.length):(w.setCells b 0 vs).heap[b]?=de (.cells vs.toArray t (0,0)):=by
 obtain⟨c,h1,h2⟩:=eC vs 0 w a h;have hr:=World.rangeAt_setCells_same w b 0 vs (dr h d);rw[h1];have e:c=vs.toArray:=by
  apply Array.ext (by rw[h2,d];simp);intro j k1 k2;have hj:j<vs.length:=by simpa using k2
  have h3:=hr j vs[j] (aC hj);rw[ca,ej h1 j (bm k1)]at h3;simpa using h3
 rw[e]
theorem bu{w:ax}{b:Nat}{t:TypeId}{f:Nat×Nat}{cs:List bd}(h:w.heap[b]?=de (.cells cs.toArray t f)):w.rangeAt b 0 cs:=λj v hv=>by
 rw[ca];exact ej h j (by simpa using hv)
end Go.Con
namespace Go.Proofs.YtcdmenphjilnnaaGreatDoor
open Go.RowKit Go.Con
set_option maxHeartbeats 8000000
theorem Rd.gL{w:ax}{v:bd}{l:List UInt8}(h:Rd w v l)(n:Nat)(d:l.length=n)(h0:0<n):∃b off c,v= .slice (de ⟨b,off,dl⟩) n c/\n<=c/\c<=maxLen:=by
 subst d;obtain⟨a,c,rfl,h1,h2,_,h3⟩:=h;obtain⟨b,off,rfl,_⟩:=h3 (by intro h;rw[h]at h0;exact absurd h0 (by decide));exact⟨b,off,c,rfl,h1,h2⟩
theorem Rd.tail{w:ax}{b off n c:Nat}{l:List UInt8}(h:Rd w (.slice (b,off) n c) l)(k m:Nat)(hk:k<n)(hm:m=n-k):Rd w (.slice (b,off+k) m (c-k)) (l.drop k):=by
 subst hm;obtain⟨a',j,he,q,p,h0,f⟩:=h;injection he with e1 e2 e3;subst e1 e2 e3;have hlen:(l.drop k).length=l.length-k:=by simp
 refine⟨_,_,by rw[hlen],by omega,by omega,(λh=>by cases h),λr=>?_⟩;obtain⟨g,s,a,hc⟩:=f (by intro h;rw[h]at hk;exact absurd hk (by simp));injection a with a;injection a with d e o;subst d e;refine⟨_,_,rfl,λi hi=>?_⟩;rw[hlen]at hi;rw[show off+k+i=off+(k+i) by omega,hc (k+i) (by omega)];simp[gZ]
theorem Rd.NQ{w:ax}{b off n c:Nat}{l:List UInt8}(h:Rd w (.slice (b,off) n c) l)(k m:Nat)(hk:k<n)(hm:k+m<=n):Rd w (.slice (b,off+k) m (c-k)) ((l.drop k).take m):=by
 have h1:=h.tail k (n-k) hk rfl;obtain⟨_,_,e,_⟩:=h;injection e with _ e2 _;exact h1.pre m (by simp;omega)
end Go.Proofs.YtcdmenphjilnnaaGreatDoor
