/-
  Parts of the proofs of the laws of the whole (what the functions compute, and plain laws of it); no conditions.
-/
import Derived.Test.YtcdmenphjilnnaaGreatDoorM20
import Derived.Test.YtcdmenphjilnnaaGreatDoorM21
set_option linter.unusedVariables false
set_option linter.unusedSimpArgs false
set_option maxRecDepth 100000
set_option maxHeartbeats 1000000
open Go.Proofs.Tryz
open Go renaming World->ax,Value->bd,Calls->bl
open Go.RowKit renaming Below->dd
open Option renaming some->de,none->dl
open Bool renaming true->dE,false->dT
open Go.Proofs.Tryz renaming prog->ed
namespace Go.Proofs.YtcdmenphjilnnaaGreatDoor
open Go.RowKit Go.Con
structure Lj(M:aT)(i:Nat)(l:dK):Prop where
 cI:(M.nd i).cI=dl
 kf:kf (M.nd i).p (M.nd i).l=dE
 s0:0<=(M.nd i).iZ
 s1:(M.nd i).iZ<=(M.nd i).D.length
 len:(M.nd i).D.length<=100000
 NG:sG (M.nd i)
 Ob:∀r,(M.nd i).rg=de r->IL r
 told:M.told.length+(M.nd i).wait.length<1000000000000
 cz:M.cz.length<1000000000000
 ja:(M.nd i).queue.length<1000000000000
 kind:0<=l.kind/\l.kind<=7
 k0:l.kind=0->okB l.bG=dE
 k2:l.kind=2->jJ l.cP=dE
 k3:l.kind=3\/l.kind=6->0<=l.cP.slot/\l.cP.slot<40/\cS l.cP.cW=0
theorem kN{c w:ax}{B b:Nat}{m:List (Int×bd)}{t d f:TypeId}(h:dO w b m)(hb:B<=b)(a:dd B c w)(g:prog.underlying t=de (.map d f))(hk:prog.underlying d=de (.int .i64))(k:Int)(v:bd):
  ∃w',(Instr.mapUpdate t (.map (de b)) k v).run ed w= .ok () w'/\dO w' b (di m k v)/\dd B c w'/\∀q,q≠b->w'.heap[q]?=w.heap[q]?:=by
 obtain⟨o,h1,h2⟩:=lU (P:=ed) h g hk k v;refine⟨_,h1,h2,⟨a.os,a.tape,a.output,by simpa using a.size,λq hq=>?_⟩,λq hq=>cV (λe=>hq e.symm)⟩;show(w.heap.setIfInBounds b o)[q]?=_;rw[cV (by omega)];exact a.block q hq
theorem IT(w:ax):(zeroValue 165).run ed w= .ok .nilFunc w:=Tryz.zeroValue165 w
theorem kP{hH:bI}{W:ax}{wb i gb:Nat}{G:Gh}{MF:aT}{k:Int}{f:Nat}(hk:(k=0/\f=75)\/(k=1/\f=76)\/(k=2/\f=77)\/(k=3/\f=76)\/(k=4/\f=78)\/(k=5/\f=79)\/(k=6/\f=80)\/(k=7/\f=81))(fr ds b1 b2 s x1 x2 c1 c2 c3 c4 c5:Int)(la:Option Addr)(ln lc:Nat){R:List bd}(hR:R=[.int .i64 fr,.int .i64 ds,.int .i64 b1,.int .i64 b2,.int .i64 s,.int .i64 x1,.int .i64 x2,.int .i64 c1,.int .i64 c2,.int .i64 c3,.int .i64 c4,.int .i64 c5,.slice la ln lc])
  (hc:∀w1,dd W.heap.size W w1->bl ed f #[(wb,0),(gb,0),.agg (.int .i64 k::R).toArray] w1 λe W'=>e= .returned (.tuple #[])/\aW hH w1 wb G i MF W'):
  bl ed 55 #[.pointer (de ⟨wb,0,dl⟩),.pointer (de ⟨gb,0,dl⟩),.agg (.int .i64 k::R).toArray] W λe W'=>e= .returned (.tuple #[])/\aW hH W wb G i MF W':=by
 subst hR;have HC:=ae hc;have HK:=ae hk;clear hc hk;have hmm:=@run_makeMap ed;go_enter func55,ntmps55
 go_upto_region 1 with fail
 generalize hW:World.alloc _ _=v0;have BW:=gv hW;obtain⟨C,hC⟩:∃C:List bd,C=[.int .i64 k,.int .i64 fr,.int .i64 ds,.int .i64 b1,.int .i64 b2,.int .i64 s,.int .i64 x1,.int .i64 x2,.int .i64 c1,.int .i64 c2,.int .i64 c3,.int .i64 c4,.int .i64 c5,.slice la ln lc]:=⟨_,rfl⟩
 have x0:v0.heap[W.heap.size]?=de (.cells C.toArray 111 (0,0)):=by rw[<-hW,hC];exact aL _ _
 clear hW;obtain⟨xb,hxb⟩:=aK W.heap.size;have hne:xb≠v0.heap.size:=by have:=hF x0;omega
 have hmb:W.heap.size<=v0.heap.size:=BW.size;have m0:=dO.new v0;have B0:dd W.heap.size W (v0.alloc (.map #[] 0)):=BW.alloc hmb _;have y0:=(eF v0 (.map #[] 0) W.heap.size (hF x0)).t x0;rw[<-hxb]at y0 x0|-;obtain⟨w1,r1,m1,B1,o1⟩:=kN m0 hmb B0 Tryz.underlying166 Tryz.underlying3 0 (.func (.func 75) #[] #[]);obtain⟨w2,r2,m2,B2,o2⟩:=kN m1 hmb B1 Tryz.underlying166 Tryz.underlying3 1 (.func (.func 76) #[] #[]);obtain⟨w3,r3,m3,B3,o3⟩:=kN m2 hmb B2 Tryz.underlying166 Tryz.underlying3 2 (.func (.func 77) #[] #[]);obtain⟨w4,r4,m4,B4,o4⟩:=kN m3 hmb B3 Tryz.underlying166 Tryz.underlying3 3 (.func (.func 76) #[] #[]);obtain⟨w5,r5,m5,B5,o5⟩:=kN m4 hmb B4 Tryz.underlying166 Tryz.underlying3 4 (.func (.func 78) #[] #[]);obtain⟨w6,r6,m6,B6,o6⟩:=kN m5 hmb B5 Tryz.underlying166 Tryz.underlying3 5 (.func (.func 79) #[] #[]);obtain⟨w7,r7,m7,B7,o7⟩:=kN m6 hmb B6 Tryz.underlying166 Tryz.underlying3 6 (.func (.func 80) #[] #[]);obtain⟨w8,r8,m8,B8,o8⟩:=kN m7 hmb B7 Tryz.underlying166 Tryz.underlying3 7 (.func (.func 81) #[] #[]);have y8:=(o8 xb hne).t ((o7 xb hne).t ((o6 xb hne).t ((o5 xb hne).t ((o4 xb hne).t ((o3 xb hne).t ((o2 xb hne).t ((o1 xb hne).t y0)))))));have hlk:(Instr.lookup 166 (.map (de v0.heap.size)) k dT).run ed w8= .ok (.func (.func f) #[] #[]) w8:=by
  rcases HK.o with⟨rfl,rfl⟩|⟨rfl,rfl⟩|⟨rfl,rfl⟩|⟨rfl,rfl⟩|⟨rfl,rfl⟩|⟨rfl,rfl⟩|⟨rfl,rfl⟩|⟨rfl,rfl⟩<;>exact re m8 Tryz.underlying166 Tryz.underlying3 _ (IT w8) _
 have HC8:=ae (HC.o w8 B8);have BB8:=ae B8;have c0:v0.cell? (xb,0)=k:=ej x0 0 (by rw[hC];rfl);have d0:w8.cell? (xb,0)=k:=ej y8 0 (by rw[hC];rfl);have d1:w8.cell? (xb,1)=fr:=ej y8 1 (by rw[hC];rfl);have d2:w8.cell? (xb,2)=ds:=ej y8 2 (by rw[hC];rfl);have d3:w8.cell? (xb,3)=b1:=ej y8 3 (by rw[hC];rfl);have d4:w8.cell? (xb,4)=b2:=ej y8 4 (by rw[hC];rfl);have d5:w8.cell? (xb,5)=s:=ej y8 5 (by rw[hC];rfl);have d6:w8.cell? (xb,6)=x1:=ej y8 6 (by rw[hC];rfl);have d7:w8.cell? (xb,7)=x2:=ej y8 7 (by rw[hC];rfl);have d8:w8.cell? (xb,8)=c1:=ej y8 8 (by rw[hC];rfl);have d9:w8.cell? (xb,9)=c2:=ej y8 9 (by rw[hC];rfl);have d10:w8.cell? (xb,10)=c3:=ej y8 10 (by rw[hC];rfl);have d11:w8.cell? (xb,11)=c4:=ej y8 11 (by rw[hC];rfl);have d12:w8.cell? (xb,12)=c5:=ej y8 12 (by rw[hC];rfl);have d13:w8.cell? (xb,13)=de (.slice la ln lc):=ej y8 13 (by rw[hC];rfl);clear m0 m1 m2 m3 m4 m5 m6 m7 m8 B0 B1 B2 B3 B4 B5 B6 B7 B8 o1 o2 o3 o4 o5 o6 o7 o8 y8 y0 HC BW x0 hxb hC;rcases HK.o with⟨rfl,rfl⟩|⟨rfl,rfl⟩|⟨rfl,rfl⟩|⟨rfl,rfl⟩|⟨rfl,rfl⟩|⟨rfl,rfl⟩|⟨rfl,rfl⟩|⟨rfl,rfl⟩
 all_goals
  go_wp2_with ((first|go_at_call 75|go_at_call 76|go_at_call 77|go_at_call 78|go_at_call 79|go_at_call 80|go_at_call 81);refine HC8.o.m ?_;rintro e wz ⟨rfl,ht⟩;have HT:=ae (ht.pre (j:=i) BB8.o);clear ht)
  refine jH rfl rfl ⟨rfl,?_⟩;exact HT.o
theorem BL{hH:bI}{W:ax}{q i:Nat}{G:Gh}{M:aT}(h:dB hH W q G M)(hi:i<5)(l:dK)(a:Option Addr)(ln b:Nat)(u:dG hH W (.slice a ln b) l.aV)(ho:Lj M i l):
  bl ed 55 #[ptr q,ptr (G.n i).b,.agg (bP l (.slice a ln b)).toArray] W λe v=>e= .returned (.tuple #[])/\aW hH W q G i (M.handle i l) v:=by
 have t:l.kind=0\/l.kind=1\/l.kind=2\/l.kind=3\/l.kind=4\/l.kind=5\/l.kind=6\/l.kind=7:=by have:=ho.kind;omega
 obtain⟨k,j,g,⟨b1,b2⟩,⟨s,⟨m,n⟩,⟨c1,c,d,f,c5⟩⟩,o⟩:=l;have r:Fair (λ_=>False):=λ_ h=>h.elim;dsimp only at t;rcases t with rfl|rfl|rfl|rfl|rfl|rfl|rfl|rfl
 ·exact kP (by simp) j g b1 b2 s m n c1 c d f c5 a ln b rfl (λp hb=>xI (h.below hb) hi ho.cI ho.kf ⟨0,j,g,(b1,b2),⟨s,(m,n),⟨c1,c,d,f,c5⟩⟩,o⟩ a ln b (ho.k0 rfl) ho.cz ho.s0 ho.s1 ho.len)
 ·exact kP (by simp) j g b1 b2 s m n c1 c d f c5 a ln b rfl (λp hb=>qJ (h.below hb) hi ho.cI ⟨1,j,g,(b1,b2),⟨s,(m,n),⟨c1,c,d,f,c5⟩⟩,o⟩ a ln b (u.cB (cG.below (T:=λ_=>False) hb) r) (.inl rfl) (λe=>by cases e) ho.Ob ho.NG ho.told)
 ·exact kP (by simp) j g b1 b2 s m n c1 c d f c5 a ln b rfl (λp hb=>Fc (h.below hb) hi ho.cI ho.kf ⟨2,j,g,(b1,b2),⟨s,(m,n),⟨c1,c,d,f,c5⟩⟩,o⟩ a ln b (ho.k2 rfl) ho.cz ho.s0 ho.s1 ho.len)
 ·exact kP (by simp) j g b1 b2 s m n c1 c d f c5 a ln b rfl (λp hb=>qJ (h.below hb) hi ho.cI ⟨3,j,g,(b1,b2),⟨s,(m,n),⟨c1,c,d,f,c5⟩⟩,o⟩ a ln b (u.cB (cG.below (T:=λ_=>False) hb) r) (.inr rfl) (λ_=>ho.k3 (.inl rfl)) ho.Ob ho.NG ho.told)
 ·exact kP (by simp) j g b1 b2 s m n c1 c d f c5 a ln b rfl (λp hb=>Ey (h.below hb) hi ⟨4,j,g,(b1,b2),⟨s,(m,n),⟨c1,c,d,f,c5⟩⟩,o⟩ a ln b ho.ja)
 ·exact kP (by simp) j g b1 b2 s m n c1 c d f c5 a ln b rfl (λp hb=>DH (h.below hb) hi ⟨5,j,g,(b1,b2),⟨s,(m,n),⟨c1,c,d,f,c5⟩⟩,o⟩ a ln b ho.cz)
 ·exact kP (by simp) j g b1 b2 s m n c1 c d f c5 a ln b rfl (λp hb=>Bx (h.below hb) hi ⟨6,j,g,(b1,b2),⟨s,(m,n),⟨c1,c,d,f,c5⟩⟩,o⟩ a ln b (ho.k3 (.inr rfl)).1 (ho.k3 (.inr rfl)).2.1 (ho.k3 (.inr rfl)).2.2 ho.NG ho.told)
 ·exact kP (by simp) j g b1 b2 s m n c1 c d f c5 a ln b rfl (λp hb=>wL (h.below hb) hi ⟨7,j,g,(b1,b2),⟨s,(m,n),⟨c1,c,d,f,c5⟩⟩,o⟩ a ln b)
end Go.Proofs.YtcdmenphjilnnaaGreatDoor
