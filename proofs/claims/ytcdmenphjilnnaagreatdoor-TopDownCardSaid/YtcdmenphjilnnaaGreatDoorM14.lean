/-
  Parts of the proofs of the laws of the whole (what the functions compute, and plain laws of it); no conditions.
-/
import Derived.Test.YtcdmenphjilnnaaGreatDoorM11
import Derived.Test.YtcdmenphjilnnaaGreatDoorM12
set_option linter.unusedVariables false
set_option linter.unusedSimpArgs false
set_option maxRecDepth 100000
set_option maxHeartbeats 1000000
open Go.Proofs.Tryz
open Go renaming World->ax,Value->bd,Calls->bl
open Go.RowKit renaming Below->dd
open Option renaming some->de,none->dl
open Bool renaming true->dE,false->dT
open Go.Proofs.Tryz renaming prog->ed
namespace Go.Con
open Go.Proofs.YtcdmenphjilnnaaGreatDoor
set_option maxHeartbeats 400000
def kF(t:Con.T0k)(c:bk)(now:Int):bk:=if rH t c now=0 then c else bk.zero
end Go.Con
namespace Go.Proofs.YtcdmenphjilnnaaGreatDoor
open Go.RowKit Go.Con
set_option maxHeartbeats 400000
theorem Kn.vd{w:ax}(h:Kn w)(A:Obj):Kn (w.alloc A):=h.stay ((aj w.heap.size w).alloc (ag _) A)
theorem iq{w:ax}{b:Nat}{tmps:Array bd}{c:bk}{n:Int}(a:tmps.getD 4 undef= (b,0))(d:tmps.getD 5 undef= .int .i64 n)
  (h1:w.heap[b]?=de (.cells #[c.kind,c.bD,c.seq,c.name,c.value] 54 (0,0))):
  (results Tryz.f49 tmps).run ed w= .ok (.tuple #[.agg #[c.kind,c.bD,c.seq,c.name,c.value],n]) w:=by
 have e:=aU (P:=ed) w b 0 54 [c.kind,c.bD,c.seq,c.name,c.value] _ (bu h1) Tryz.underlying54 rfl (by kernel_rfl);rw[dC Tryz.results49 a e,d]
set_option maxHeartbeats 1000000
theorem Fp(a:Option Addr)(d:Nat)(now:Int)(w:ax):
  bl ed 49 #[.slice a 0 d,now] w λe w'=>e= .returned (.tuple #[.agg #[(0:Int),(0:Int),(0:Int),(0:Int),(0:Int)],(13:Int)])/\dd w.heap.size w w':=by
 go_enter func49,ntmps49
 go_wp2_with fail
 refine aH (v:= .tuple #[.agg #[(0:Int),(0:Int),(0:Int),(0:Int),(0:Int)],(13:Int)]) (iq (b:=w.heap.size) (c:=bk.zero) rfl rfl ?_) rfl ⟨rfl,?_⟩
 ·first|exact aL _ _|exact aB (aB (aB (aB (aB (aL _ _) _) _) _) _) _
 ·first|exact(aj _ _).alloc (ag _) _|exact(((((((aj _ _).alloc (ag _) _).setCell (ag _) _).setCell (ag _) _).setCell (ag _) _).setCell (ag _) _).setCell (ag _) _)
end Go.Proofs.YtcdmenphjilnnaaGreatDoor
namespace Go.Con
open Go.Proofs.YtcdmenphjilnnaaGreatDoor
def jb(b:UInt8)(P:List UInt8)(now:Int):bk×Int:=
 if P.length≠42 then(bk.zero,3)else
 if(gS vJ (P.take 22)).2≠0 then(bk.zero,(gS vJ (P.take 22)).2)else
 if(kh (P.drop 22)).2≠0 then(bk.zero,(kh (P.drop 22)).2)else
 if(kh (P.drop 22)).1.kind≠0/\(kh (P.drop 22)).1.bD≠(b.toNat:Int)then(bk.zero,11)else
 (kF (gS vJ (P.take 22)).1 (kh (P.drop 22)).1 now,rH (gS vJ (P.take 22)).1 (kh (P.drop 22)).1 now)
def iD(D:List UInt8)(now:Int):bk×Int:=
 match D with
 |[]=>(bk.zero,13)
 |b::R=>
  if 7<b.toNat then(bk.zero,2)
  else if R.length<20 then(bk.zero,13)
  else if 1073741824<=sN (R.take 4)then(bk.zero,2)
  else if Sea.tag (qH b) (kr (R.take 4)) (R.take 4) ((R.drop 4).take (R.length-20))≠(R.drop 4).drop (R.length-20)then(bk.zero,6)
  else jb b (Cha.KR (qH b) 1 (kr (R.take 4)) ((R.drop 4).take (R.length-20))) now
theorem Gl{L:List UInt8}{t:Con.T0k}(h:(gS vJ L).2=0)(a:t=(gS vJ L).1):t.Ok:=by
 subst a;unfold gS at h|-;split
 ·rename_i e;rw[ar e]at h;cases h
 ·rename_i e;rw[ak e]at h;split
  ·rename_i e2;rw[ar e2]at h;cases h
  ·rename_i e2;rw[ak e2]at h;split
   ·rename_i e3;exact CJ e3
   ·rename_i e3;rw[ak e3]at h;cases h
theorem Ht{L:List UInt8}{c:bk}(h:(kh L).2=0)(hc:c=(kh L).1):cS c=0:=by
 subst hc;unfold kh at h|-;split
 ·rename_i e;rw[ar e]at h;cases h
 ·rename_i e;rw[ak e]at h;split
  ·rename_i e2;rw[ar e2]at h;exact absurd h e2
  ·rename_i e2;exact Classical.not_not.1 e2
theorem zx{D:List UInt8}{now:Int}(h:(iD D now).2=0):cS (iD D now).1=0:=by
 cases D with
 |nil=>cases h
 |cons b R=>
  unfold iD at h|-;dsimp only at h|-;split
  ·rename_i e;rw[ar e]at h;cases h
  ·rename_i e;rw[ak e]at h;split
   ·rename_i e;rw[ar e]at h;cases h
   ·rename_i e;rw[ak e]at h;split
    ·rename_i e;rw[ar e]at h;cases h
    ·rename_i e;rw[ak e]at h;split
     ·rename_i e;rw[ar e]at h;cases h
     ·rename_i e;rw[ak e]at h;unfold jb at h|-;split
      ·rename_i e;rw[ar e]at h;cases h
      ·rename_i e;rw[ak e]at h;split
       ·rename_i e;rw[ar e]at h;exact absurd h e
       ·rename_i e;rw[ak e]at h;split
        ·rename_i e;rw[ar e]at h;exact absurd h e
        ·rename_i e;rw[ak e]at h;split
         ·rename_i e;rw[ar e]at h;cases h
         ·rename_i e2;rw[ak e2]at h;dsimp only at h|-;unfold kF;rw[ar h];exact Ht (Classical.not_not.1 e) rfl
end Go.Con
namespace Go.Proofs.YtcdmenphjilnnaaGreatDoor
open Go.RowKit Go.Con
def yu(w:ax)(a b c d:Int)(e v10:bd)(wc:ax):Prop:=
 e= .int .i64 a/\∃q,v10= (q,0)/\wc.heap[q]?=de (.cells #[b,c,d] 58 (0,0))/\w.heap.size<=q/\dd w.heap.size w wc
theorem DF{w v2:ax}{a b c d:Int}(hb:dd w.heap.size w v2):yu w a b c d a (v2.heap.size,0) (v2.alloc (.cells #[b,c,d] 58)):=
 ⟨rfl,_,rfl,aL _ _,hb.size,hb.alloc hb.size _⟩
theorem FH{w v2:ax}{d e f g:Int}{q:Nat}{a b c:bd}(hb:dd w.heap.size w v2)(hq:w.heap.size<=q)(h:v2.heap[q]?=de (.cells #[a,b,c] 58 (0,0))):yu w d e f g d (q,0) (((v2.setCell (q,0) e).setCell (q,1) f).setCell (q,2) g):=
 ⟨rfl,_,rfl,aB (aB (aB h _) _) _,hq,((hb.setCell hq _).setCell hq _).setCell hq _⟩
theorem qo(b:UInt8)(h k f r:Nat)(g:Int)(K:g≠0)(now:Int)(w:ax)(V:r+1<=f)(T:2<=f)(x:∀(a:Addr) (c:Nat) (i:ax),dd w.heap.size w i->Rd i (.slice (de a) 32 c) (qH b)->bl ed 69 #[.agg #[.slice (de a) 32 c,(0:Int),(0:Int),.bool dT,.bool dT,.bool dT,.bool dT,.bool dT,.bool dT,.bool dT,.bool dT],.slice (h,k+1) r (f-1)] i λe w'=>e= .returned (.tuple #[.agg #[.slice dl 0 0,(0:Int),(0:Int),.bool dT,.bool dT,.bool dT,.bool dT,.bool dT,.bool dT,.bool dT,.bool dT],.slice dl 0 0,g])/\dd i.heap.size i w')(c0:w.cell? (h,k)=de (.int .u8 b.toNat))(A:b.toNat<=7)(hk:Kn w):
  bl ed 49 #[.slice (h,k) (r+1) f,now] w λe w'=>e= .returned (.tuple #[.agg #[(0:Int),(0:Int),(0:Int),(0:Int),(0:Int)],g])/\dd w.heap.size w w':=by
 have t:=λw hk=>Cx b w A hk;obtain⟨H,j⟩:=aK (qH b);have z:H.length=32:=by rw[j];exact iM _
 rw[<-j]at t;rw[<-j]at x;have P:(g !=0)=dE:=by rw[eP];exact K
 have N:=aI w _ c0;have R:(b.toNat:Int)<=7:=by omega
 have Q:(0:Int)<=(b.toNat:Int):=by omega
 have e1:((r:Int)+1==0)=dT:=by rw[aJ];omega
 have e2:(((r+1:Nat):Int)==0)=dT:=by rw[aJ];omega
 have S:(1:Int)<=(f:Int):=by omega
 have U:((r+1:Nat):Int)<=(f:Int):=by omega
 have W:(r:Int)+1<=(f:Int):=by omega
 have J:∀o,(w.alloc o).cell? (h,k)=de (.int .u8 b.toNat):=λo=>(aw (w:=w) (bC w o h N)).t c0;have F:=ae t;have G:=ae x;have E:=ae z;have D:=ae hk;clear t x z hk j A c0;go_enter func49,ntmps49
 go_wp2_with fail
 refine(F.o _ (D.o.vd _)).m ?_;rintro e v1 ⟨vk,rfl,u,L,q⟩;obtain⟨X,Y,O,M,_,_⟩:=u.gL 32 E.o (by decide);subst M;have y:=ae ((q.block w.heap.size (by simp)).t (aL w (.cells #[(0:Int),(0:Int),(0:Int),(0:Int),(0:Int)] 54)));have l:=ae (((aj w.heap.size w).alloc (ag _) _).t (q.m (by simp)));have RK:=ae u;clear u L q J;go_wp2_with fail
 refine(G.o _ O _ l.o RK.o).m ?_;rintro e v2 ⟨rfl,s⟩;have n:=ae ((s.block w.heap.size (hF y.o)).t y.o);have m:=ae (l.o.t (s.m l.o.size));clear s;go_wp2_with (refine bz rfl 94 (.tmp 8) (.tmp 35) rfl v2.heap.size 0 #[.slice dl 0 0,(0:Int),(0:Int),.bool dT,.bool dT,.bool dT,.bool dT,.bool dT,.bool dT,.bool dT,.bool dT] rfl rfl ?_ gz (jU _ _ _ _ _ _ _ _ _ _ _ rfl) ?_;(exact dr (aL v2 _) rfl);generalize p:World.setCells _ _ _ _=B;have C:=ae (show dd w.heap.size w B by rw[<-p];exact bp m.o.size _ _ _ (m.o.alloc m.o.size _));have d:B.heap[w.heap.size]?=de (.cells #[(0:Int),(0:Int),(0:Int),(0:Int),(0:Int)] 54 (0,0)):=(by rw[<-p];exact(bE (by have e1:=hF n.o;omega) _ _ _).t ((bC _ _ _ (hF n.o)).t n.o));have r0:=ej d 0 rfl;have r1:=ej d 1 rfl;have Z:=ej d 2 rfl;have r3:=ej d 3 rfl;have r4:=ej d 4 rfl;have rf:=aO d;have I:=ae d;clear p d)
 refine aH (v:= .tuple #[.agg #[(0:Int),(0:Int),(0:Int),(0:Int),(0:Int)],g]) (iq (b:=w.heap.size) (c:=bk.zero) rfl rfl ?_) rfl ⟨rfl,?_⟩
 ·exact aB (aB (aB (aB (aB I.o _) _) _) _) _
 ·exact((((C.o.setCell (ag _) _).setCell (ag _) _).setCell (ag _) _).setCell (ag _) _).setCell (ag _) _
theorem IF(b:UInt8)(vb c4 Y r:Nat)(P:List UInt8)(T:Nat)(g:Nat->Bool)(now:Int)(w:ax)(j7:r+1<=Y)(j5:2<=Y)(d8:∀(a:Addr) (c:Nat) (Z:ax),dd w.heap.size w Z->Rd Z (.slice (de a) 32 c) (qH b)->bl ed 69 #[.agg #[.slice (de a) 32 c,.int .i64 0,.int .i64 0,.bool dT,.bool dT,.bool dT,.bool dT,.bool dT,.bool dT,.bool dT,.bool dT],.slice (de ⟨vb,c4+1,dl⟩) r (Y-1)] Z λe w'=>∃kg c3 pv,e= .returned (.tuple #[.agg #[.slice (de ⟨kg,0,dl⟩) 32 c3,.int .i64 0,.int .i64 T,.bool (g 0),.bool (g 1),.bool (g 2),.bool (g 3),.bool (g 4),.bool (g 5),.bool (g 6),.bool (g 7)],pv,.int .i64 0])/\Own w' Z.heap.size (.slice (de ⟨kg,0,dl⟩) 32 c3) (qH b)/\Own w' Z.heap.size pv P/\dd Z.heap.size Z w')(c0:w.cell? ⟨vb,c4,dl⟩=de (.int .u8 b.toNat))(H:b.toNat<=7)(hk:Kn w)(hN:Nd w):
  bl ed 49 #[.slice (vb,c4) (r+1) Y,now] w λe w'=>e= .returned (.tuple #[eG (jb b P now).1,(jb b P now).2])/\dd w.heap.size w w':=by
 have d4:=λw hk=>Cx b w H hk;obtain⟨KC,d1⟩:=aK (qH b);have e0:KC.length=32:=by rw[d1];exact iM _
 rw[<-d1]at d4 d8;have c2:=aI w _ c0;have j1:(b.toNat:Int)<=7:=by omega
 have i9:(0:Int)<=(b.toNat:Int):=by omega
 have e1:((r:Int)+1==0)=dT:=by rw[aJ];omega
 have e2:(((r+1:Nat):Int)==0)=dT:=by rw[aJ];omega
 have j4:(1:Int)<=(Y:Int):=by omega
 have j6:((r+1:Nat):Int)<=(Y:Int):=by omega
 have j8:(r:Int)+1<=(Y:Int):=by omega
 have g8:∀o,(w.alloc o).cell? (vb,c4)=de (.int .u8 b.toNat):=λo=>(aw (w:=w) (bC w o vb c2)).t c0;have g0:=ae d4;have g3:=ae d8;have f9:=ae e0;have HK:=ae hk;have c7:=ae hN;have c5:=ae c0;clear d4 d8 e0 hk d1 H c0 hN;unfold eG;go_enter func49,ntmps49
 go_wp2_with fail
 refine(g0.o _ (HK.o.vd _)).m ?_;rintro e v1 ⟨vk,rfl,d7,h0,N⟩;obtain⟨kb,j9,c3,i1,_,_⟩:=d7.gL 32 f9.o (by decide);subst i1;have RK:=ae d7;have X1:=ae ((N.block w.heap.size (by simp)).t (aL w (.cells #[(0:Int),(0:Int),(0:Int),(0:Int),(0:Int)] 54)));have l:=ae (((aj w.heap.size w).alloc (ag _) _).t (N.m (by simp)));clear d7 h0 N g8;go_wp2_with fail
 refine(g3.o _ c3 _ l.o RK.o).m ?_;rintro e v2 ⟨kg,f4,pv,rfl,e4,b2,s⟩;obtain⟨pa,b7,f0,d6,e6⟩:=b2.rd.slice;obtain⟨pl,hpl⟩:=aK P.length;rw[<-hpl]at f0 d6;subst f0;have OP:=ae b2;have c8:=ae hpl;have X2:=ae ((s.block w.heap.size (hF X1.o)).t X1.o);have B2:=ae (l.o.t (s.m l.o.size));by_cases a7:¬pl=42
 ·have n:=ae (show jb b P now=(bk.zero,3) by unfold jb;rw[if_pos (by rw[<-c8.o];exact a7)]);have j0:((pl:Int) !=42)=dE:=by rw[eP];omega
  clear e4 b2 s RK hpl a7 d6 e6;go_wp2_with (refine bz rfl 94 (.tmp 8) (.tmp 35) rfl v2.heap.size 0 #[.slice (kg,0) 32 f4,(0:Int),T,.bool (g 0),.bool (g 1),.bool (g 2),.bool (g 3),.bool (g 4),.bool (g 5),.bool (g 6),.bool (g 7)] rfl rfl ?_ gz (jU _ _ _ _ _ _ _ _ _ _ _ rfl) ?_;(exact dr (aL v2 _) rfl);generalize d:World.setCells _ _ _ _=f;have BY:=ae (show dd w.heap.size w f by rw[<-d];exact bp B2.o.size _ _ _ (B2.o.alloc B2.o.size _));have I:=ae (show f.heap[w.heap.size]?=de (.cells #[(0:Int),(0:Int),(0:Int),(0:Int),(0:Int)] 54 (0,0)) by rw[<-d];exact(bE (by have e1:=hF X2.o;omega) _ _ _).t ((bC _ _ _ (hF X2.o)).t X2.o));have r0:=ej I.o 0 rfl;have r1:=ej I.o 1 rfl;have r2:=ej I.o 2 rfl;have r3:=ej I.o 3 rfl;have r4:=ej I.o 4 rfl;have rf:=aO I.o;clear d)
  refine aH (v:= .tuple #[.agg #[(0:Int),(0:Int),(0:Int),(0:Int),(0:Int)],(3:Int)]) (iq (b:=w.heap.size) (c:=bk.zero) rfl rfl ?_) rfl ⟨by rw[n.o];rfl,?_⟩
  ·exact aB (aB (aB (aB (aB I.o _) _) _) _) _
  ·exact((((BY.o.setCell (ag _) _).setCell (ag _) _).setCell (ag _) _).setCell (ag _) _).setCell (ag _) _
 ·replace a7:=cN a7;subst a7;have j2:(22:Int)<=(b7:Int):=by omega
  have j3:(42:Int)<=(b7:Int):=by omega
  obtain⟨pb,k5,f1,h4,h5,h6,h7⟩:=b2.shape (by intro h;rw[h]at hpl;cases hpl);rw[<-hpl]at f1;injection f1 with e9 e8 e7;subst e9 e7;have i6:=ae h5;clear e4 b2 s h4 h6 h7 RK hpl e8 d6 e6;go_wp2_with (refine bz rfl 94 (.tmp 8) (.tmp 35) rfl v2.heap.size 0 #[.slice (kg,0) 32 f4,(0:Int),T,.bool (g 0),.bool (g 1),.bool (g 2),.bool (g 3),.bool (g 4),.bool (g 5),.bool (g 6),.bool (g 7)] rfl rfl ?_ gz (jU _ _ _ _ _ _ _ _ _ _ _ rfl) ?_;(exact dr (aL v2 _) rfl);generalize d:World.setCells _ _ _ _=f;have RP:=ae (show Rd f (.slice (pb,0) 42 b7) P by rw[<-d];exact(OP.o.ul (λk hk=>by have e1:=(OP.o.lt k hk).2;rw[bE (by omega),bC _ _ _ e1])).rd);have BY:=ae (show dd w.heap.size w f by rw[<-d];exact bp B2.o.size _ _ _ (B2.o.alloc B2.o.size _));have I:=ae (show f.heap[w.heap.size]?=de (.cells #[(0:Int),(0:Int),(0:Int),(0:Int),(0:Int)] 54 (0,0)) by rw[<-d];exact(bE (by have e1:=hF X2.o;omega) _ _ _).t ((bC _ _ _ (hF X2.o)).t X2.o));clear d)
  obtain⟨TB,d2⟩:=aK (P.take 22);obtain⟨EC,d0⟩:=aK (P.drop 22);have b3:=λv1 v2 w h1 h2 h3=>Fm v1 v2 vJ TB w h1 h2 zO h3;have b1:=λv w h=>vB v EC w h;obtain⟨⟨⟨K,L,M⟩,R⟩,b5⟩:∃x,x=gS vJ TB:=⟨_,rfl⟩
  obtain⟨⟨⟨k,cl,u,t,y⟩,W⟩,a9⟩:∃x,x=kh EC:=⟨_,rfl⟩
  rw[<-b5]at b3;rw[<-a9]at b1;unfold eG at b1;unfold ou at b3;dsimp only at b1 b3;have f2:R=0->(⟨K,L,M⟩:Con.T0k).Ok:=λe=>Gl (by rw[<-b5];exact e) (by rw[<-b5]);have e3:W=0->cS ⟨k,cl,u,t,y⟩=0:=λe=>Ht (by rw[<-a9];exact e) (by rw[<-a9]);have e5:jb b P now=if R≠0 then(bk.zero,R)else if W≠0 then(bk.zero,W)else if k≠0/\cl≠(b.toNat:Int)then(bk.zero,11)else(kF ⟨K,L,M⟩ ⟨k,cl,u,t,y⟩ now,rH ⟨K,L,M⟩ ⟨k,cl,u,t,y⟩ now):=by
   unfold jb;rw[ak (by rw[<-c8.o];decide),<-d2,<-d0,<-b5,<-a9]
  have c9:=ae b3;have f8:=ae b1;have g4:=ae f2;have f7:=ae e3;have a6:=ae e5;have g2:=ae d2;have g1:=ae d0;clear d2 d0 b3 b1 b5 a9 f2 e3 e5;have KY:=ae (HK.o.stay BY.o);have g6:=ae (show Kn (f.drewN 1)from KY.o);have g5:=ae (show∀A,Kn ((f.alloc A).drewN 1)from λA=>KY.o.vd A);have RT:=ae (show Rd f (.slice (pb,0) 22 b7) TB by have h:=RP.o.pre 22 (by rw[<-c8.o];decide);rw[<-g2.o]at h;exact h);go_cut [7,10]from 46 to 52 (λv7 v10 wc=>yu f R K L M v7 v10 wc)
  case first=>
   go_region_held3 (λ_=>True) (trivial) (first
    |(go_at_call 24;refine(vw (f.drewN 1) g6.o).m ?_;rintro e u1 ⟨vi,rfl,b4,d5,N⟩;have l:=ae (show dd f.heap.size f u1 from(below_drewN (aj _ _) 1).t N);have RI:=ae b4;have b9:=ae (RT.o.stay l.o);have K1:=ae (KY.o.stay l.o);clear b4 d5 N)
    |(go_at_call 24;refine(vw ((f.alloc _).drewN 1) (g5.o _)).m ?_;rintro e u1 ⟨vi,rfl,b4,d5,N⟩;have l:=ae (show dd f.heap.size f u1 from(below_drewN ((aj _ _).alloc (ag _) _) 1).t (N.m (by simp)));have RI:=ae b4;have b9:=ae (RT.o.stay l.o);have K1:=ae (KY.o.stay l.o);have Z1:=ae ((N.block f.heap.size (by simp)).t (aL f (.cells #[(0:Int),(0:Int),(0:Int)] 58)));clear b4 d5 N)
    |(go_at_call 70;refine(c9.o _ _ (u1.alloc _) (RI.o.alloc _) (b9.o.alloc _) (K1.o.vd _)).m ?_;rintro e u2 ⟨rfl,s⟩;have b8:=ae (show dd f.heap.size f u2 from(l.o.alloc l.o.size _).t (s.m (aE l.o.size (by simp))));have E:=(s.block u1.heap.size (by simp)).t (aL u1 (.cells #[(0:Int),(0:Int),(0:Int)] 58));have i2:=ej E 0 rfl;have i3:=ej E 1 rfl;have i4:=ej E 2 rfl;have i5:=aO E;have ZQ:=ae l.o.size;have ZH:=ae E;clear s E)
    |(go_at_call 70;refine(c9.o _ _ u1 RI.o b9.o K1.o).m ?_;rintro e u2 ⟨rfl,s⟩;have b8:=ae (show dd f.heap.size f u2 from l.o.t (s.m l.o.size));have E:=(s.block f.heap.size (hF Z1.o)).t Z1.o;have i2:=ej E 0 rfl;have i3:=ej E 1 rfl;have i4:=ej E 2 rfl;have i5:=aO E;have ZQ:=ae (ag f.heap.size);have ZH:=ae E;clear s E)
    |(go_at_call 70;refine(c9.o _ _ u1 RI.o b9.o K1.o).m ?_;rintro e u2 ⟨rfl,s⟩;have b8:=ae (show dd f.heap.size f u2 from l.o.t (s.m l.o.size));clear s))
   all_goals
    go_wp2_with fail
    go_meet
    case rel=>first|exact DF b8.o|exact FH b8.o ZQ.o ZH.o
  case rest=>
   obtain⟨i0,q,h9,f3,h8,c1⟩:=hcut;subst i0;subst h9;have XQ:=ae f3;have BQ:=ae (BY.o.t (c1.m BY.o.size));have RE:=ae (show Rd wc (.slice (pb,22) 20 (b7-22)) EC by have h:=(RP.o.stay c1).tail 22 20 (by decide) rfl;rw[<-g1.o,ca]at h;exact h);have O:=ae ((c1.block w.heap.size (hF I.o)).t I.o);have QN:=ae (show w.heap.size<q by have e1:=hF I.o;omega);clear f3 h8 c1;by_cases a4:¬R=0
   ·have n:=ae (show jb b P now=(bk.zero,R) by rw[a6.o,ar a4]);have g9:(R !=0)=dE:=by rw[eP];exact a4
    clear a4;have r0:=ej O.o 0 rfl;have r1:=ej O.o 1 rfl;have r2:=ej O.o 2 rfl;have r3:=ej O.o 3 rfl;have r4:=ej O.o 4 rfl;have rf:=aO O.o;go_wp2_with fail
    refine aH (v:= .tuple #[.agg #[(0:Int),(0:Int),(0:Int),(0:Int),(0:Int)],R]) (iq (b:=w.heap.size) (c:=bk.zero) rfl rfl ?_) rfl ⟨by rw[n.o];rfl,?_⟩
    ·exact aB (aB (aB (aB (aB O.o _) _) _) _) _
    ·exact((((BQ.o.setCell (ag _) _).setCell (ag _) _).setCell (ag _) _).setCell (ag _) _).setCell (ag _) _
   ·replace a4:=cN a4;subst a4;go_wp2_with fail
    refine(f8.o _ _ RE.o).m ?_;rintro e B ⟨rfl,hb5⟩;have J:=ae ((hb5.block w.heap.size (hF O.o)).t O.o);have a2:=ae ((hb5.block q (hF XQ.o)).t XQ.o);have Q:=ae (BQ.o.t (hb5.m BQ.o.size));have QL:=ae (ai (hF XQ.o) hb5.size);clear hb5;by_cases a3:¬W=0
    ·have n:=ae (show jb b P now=(bk.zero,W) by rw[a6.o,ak (by simp),ar a3]);have g9:(W !=0)=dE:=by rw[eP];exact a3
     clear a3;have V:=ae (λo=>(bC B o w.heap.size (hF J.o)).t J.o);have f5:=ae (λo=>Q.o.alloc Q.o.size o);have r0:∀o,(B.alloc o).cell? (w.heap.size,0)=(0:Int):=λo=>ej (V.o o) 0 rfl;have r1:∀o,(B.alloc o).cell? (w.heap.size,1)=(0:Int):=λo=>ej (V.o o) 1 rfl;have r2:∀o,(B.alloc o).cell? (w.heap.size,2)=(0:Int):=λo=>ej (V.o o) 2 rfl;have r3:∀o,(B.alloc o).cell? (w.heap.size,3)=(0:Int):=λo=>ej (V.o o) 3 rfl;have r4:∀o,(B.alloc o).cell? (w.heap.size,4)=(0:Int):=λo=>ej (V.o o) 4 rfl;have rf:∀o p,(B.alloc o).frozen? (w.heap.size,p)=dT:=λo p=>aO (V.o o) p;go_wp2_with fail
     refine aH (v:= .tuple #[.agg #[(0:Int),(0:Int),(0:Int),(0:Int),(0:Int)],W]) (iq (b:=w.heap.size) (c:=bk.zero) rfl rfl ?_) rfl ⟨by rw[n.o];rfl,?_⟩
     ·exact aB (aB (aB (aB (aB (V.o _) _) _) _) _) _
     ·exact(((((f5.o _).setCell (ag _) _).setCell (ag _) _).setCell (ag _) _).setCell (ag _) _).setCell (ag _) _
    ·replace a3:=cN a3;subst a3;obtain⟨ac,d3⟩:=aK (rH ⟨K,L,M⟩ ⟨k,cl,u,t,y⟩ now);have a8:=λw h=>Cy ⟨K,L,M⟩ ⟨k,cl,u,t,y⟩ now w (g4.o (by first|rfl|trivial)) (f7.o (by first|rfl|trivial)) h;rw[<-d3]at a8;unfold eG ou at a8;dsimp only at a8;have d9:=ae a8;have a0:=ae d3;clear a8 d3;by_cases X:k=0
     ·have a5:=ae (show jb b P now=(kF ⟨K,L,M⟩ ⟨k,cl,u,t,y⟩ now,ac) by rw[a6.o,ak (by simp),ak (by simp),ak (λh=>h.1 X),a0.o]);subst X;go_wp2_with fail
      generalize d:World.alloc _ _=j;have S:j.heap[w.heap.size]?=de (.cells #[(0:Int),(0:Int),(0:Int),(0:Int),(0:Int)] 54 (0,0)):=by rw[<-d];exact(bC _ _ _ (hF J.o)).t J.o
      have C:j.heap[q]?=de (.cells #[K,L,M] 58 (0,0)):=by rw[<-d];exact(bC _ _ _ (hF a2.o)).t a2.o
      have i:=eZ d rfl;have z:dd w.heap.size w j:=by rw[<-d];exact Q.o.alloc Q.o.size _
      have c6:=cZ z c2 c5.o;have k0:=ej i 0 rfl;have k1:=ej i 1 rfl;have k2:=ej i 2 rfl;have k3:=ej i 3 rfl;have k4:=ej i 4 rfl;have q0:=ej C 0 rfl;have q1:=ej C 1 rfl;have q2:=ej C 2 rfl;have D:=ae S;have a1:=ae i;have U:=ae z;have N6:=ae (c7.o.stay z);have CN:=ae (show w.heap.size<B.heap.size from hF J.o);clear d S C i z;refine dq (by kernel_rfl) (by kernel_rfl) ?_;repeat (go_big_quiet_step (fail))
      refine bt ?_;intro w9 b6;obtain⟨nq,rfl⟩:=b6;go_wp2_with fail
      refine(d9.o (j.drewN nq) N6.o).m ?_;rintro e w7 ⟨rfl,H⟩;have m:w7.heap[w.heap.size]?=de (.cells #[(0:Int),(0:Int),(0:Int),(0:Int),(0:Int)] 54 (0,0)):=(H.block w.heap.size (hF D.o)).t D.o;have G:w7.heap[B.heap.size]?=de (.cells #[(0:Int),cl,u,t,y] 54 (0,0)):=(H.block B.heap.size (hF a1.o)).t a1.o;have m0:=ej G 0 rfl;have m1:=ej G 1 rfl;have m2:=ej G 2 rfl;have m3:=ej G 3 rfl;have m4:=ej G 4 rfl;have r0:=ej m 0 rfl;have r1:=ej m 1 rfl;have r2:=ej m 2 rfl;have r3:=ej m 3 rfl;have r4:=ej m 4 rfl;have rf:=aO m;have X7:=ae m;have B7:=ae (show dd w.heap.size w w7 from(below_drewN U.o nq).t (H.m U.o.size));clear H m G k0 k1 k2 k3 k4 q0 q1 q2 c6;by_cases F:ac=0
      ·have n:=ae (show jb b P now=(⟨0,cl,u,t,y⟩,0) by rw[a5.o,kF,<-a0.o,F,ar rfl]);have ea:(ac !=0)=dT:=by simp[F]
       subst F;go_wp2_with fail
       refine aH (v:= .tuple #[.agg #[(0:Int),cl,u,t,y],(0:Int)]) (iq (b:=w.heap.size) (c:=⟨0,cl,u,t,y⟩) rfl rfl ?_) rfl ⟨by rw[n.o],?_⟩
       ·exact aB (aB (aB (aB (aB X7.o _) _) _) _) _
       ·exact((((B7.o.setCell (ag _) _).setCell (ag _) _).setCell (ag _) _).setCell (ag _) _).setCell (ag _) _
      ·have n:=ae (show jb b P now=(bk.zero,ac) by rw[a5.o,kF,<-a0.o,ak F]);have ea:(ac !=0)=dE:=by rw[eP];exact F
       clear F;go_wp2_with fail
       refine aH (v:= .tuple #[.agg #[(0:Int),(0:Int),(0:Int),(0:Int),(0:Int)],ac]) (iq (b:=w.heap.size) (c:=bk.zero) rfl rfl ?_) rfl ⟨by rw[n.o];rfl,?_⟩
       ·exact aB (aB (aB (aB (aB X7.o _) _) _) _) _
       ·exact((((B7.o.setCell (ag _) _).setCell (ag _) _).setCell (ag _) _).setCell (ag _) _).setCell (ag _) _
     ·have ek:(k==0)=dT:=by rw[aJ];exact X
      have i8:(k !=0)=dE:=by rw[eP];exact X
      by_cases b0:cl=(b.toNat:Int)
      ·have a5:=ae (show jb b P now=(kF ⟨K,L,M⟩ ⟨k,cl,u,t,y⟩ now,ac) by rw[a6.o,ak (by simp),ak (by simp),ak (λh=>h.2 b0),a0.o]);clear X;subst b0;go_wp2_with fail
       generalize d:World.alloc _ _=j;have S:j.heap[w.heap.size]?=de (.cells #[(0:Int),(0:Int),(0:Int),(0:Int),(0:Int)] 54 (0,0)):=by rw[<-d];exact(bC _ _ _ (hF J.o)).t J.o
       have C:j.heap[q]?=de (.cells #[K,L,M] 58 (0,0)):=by rw[<-d];exact(bC _ _ _ (hF a2.o)).t a2.o
       have i:=eZ d rfl;have z:dd w.heap.size w j:=by rw[<-d];exact Q.o.alloc Q.o.size _
       have c6:=cZ z c2 c5.o;have k0:=ej i 0 rfl;have k1:=ej i 1 rfl;have k2:=ej i 2 rfl;have k3:=ej i 3 rfl;have k4:=ej i 4 rfl;have q0:=ej C 0 rfl;have q1:=ej C 1 rfl;have q2:=ej C 2 rfl;have D:=ae S;have a1:=ae i;have U:=ae z;have N6:=ae (c7.o.stay z);have CN:=ae (show w.heap.size<B.heap.size from hF J.o);clear d S C i z;refine dq (by kernel_rfl) (by kernel_rfl) ?_;repeat (go_big_quiet_step (fail))
       refine bt ?_;intro w9 b6;obtain⟨nq,rfl⟩:=b6;go_wp2_with fail
       refine(d9.o (j.drewN nq) N6.o).m ?_;rintro e w7 ⟨rfl,H⟩;have m:w7.heap[w.heap.size]?=de (.cells #[(0:Int),(0:Int),(0:Int),(0:Int),(0:Int)] 54 (0,0)):=(H.block w.heap.size (hF D.o)).t D.o;have G:w7.heap[B.heap.size]?=de (.cells #[k,b.toNat,u,t,y] 54 (0,0)):=(H.block B.heap.size (hF a1.o)).t a1.o;have m0:=ej G 0 rfl;have m1:=ej G 1 rfl;have m2:=ej G 2 rfl;have m3:=ej G 3 rfl;have m4:=ej G 4 rfl;have r0:=ej m 0 rfl;have r1:=ej m 1 rfl;have r2:=ej m 2 rfl;have r3:=ej m 3 rfl;have r4:=ej m 4 rfl;have rf:=aO m;have X7:=ae m;have B7:=ae (show dd w.heap.size w w7 from(below_drewN U.o nq).t (H.m U.o.size));clear H m G k0 k1 k2 k3 k4 q0 q1 q2 c6;by_cases F:ac=0
       ·have n:=ae (show jb b P now=(⟨k,b.toNat,u,t,y⟩,0) by rw[a5.o,kF,<-a0.o,F,ar rfl]);have ea:(ac !=0)=dT:=by simp[F]
        subst F;go_wp2_with fail
        refine aH (v:= .tuple #[.agg #[k,b.toNat,u,t,y],(0:Int)]) (iq (b:=w.heap.size) (c:=⟨k,b.toNat,u,t,y⟩) rfl rfl ?_) rfl ⟨by rw[n.o],?_⟩
        ·exact aB (aB (aB (aB (aB X7.o _) _) _) _) _
        ·exact((((B7.o.setCell (ag _) _).setCell (ag _) _).setCell (ag _) _).setCell (ag _) _).setCell (ag _) _
       ·have n:=ae (show jb b P now=(bk.zero,ac) by rw[a5.o,kF,<-a0.o,ak F]);have ea:(ac !=0)=dE:=by rw[eP];exact F
        clear F;go_wp2_with fail
        refine aH (v:= .tuple #[.agg #[(0:Int),(0:Int),(0:Int),(0:Int),(0:Int)],ac]) (iq (b:=w.heap.size) (c:=bk.zero) rfl rfl ?_) rfl ⟨by rw[n.o];rfl,?_⟩
        ·exact aB (aB (aB (aB (aB X7.o _) _) _) _) _
        ·exact((((B7.o.setCell (ag _) _).setCell (ag _) _).setCell (ag _) _).setCell (ag _) _).setCell (ag _) _
      ·have n:=ae (show jb b P now=(bk.zero,11) by rw[a6.o,ak (by simp),ak (by simp),ar ⟨X,b0⟩]);have i7:(cl !=(b.toNat:Int))=dE:=by rw[eP];exact b0
       clear X b0;go_wp2_with fail
       generalize d:World.alloc _ _=j;have S:j.heap[w.heap.size]?=de (.cells #[(0:Int),(0:Int),(0:Int),(0:Int),(0:Int)] 54 (0,0)):=by rw[<-d];exact(bC _ _ _ (hF J.o)).t J.o
       have C:j.heap[q]?=de (.cells #[K,L,M] 58 (0,0)):=by rw[<-d];exact(bC _ _ _ (hF a2.o)).t a2.o
       have i:=eZ d rfl;have z:dd w.heap.size w j:=by rw[<-d];exact Q.o.alloc Q.o.size _
       have c6:=cZ z c2 c5.o;have k0:=ej i 0 rfl;have k1:=ej i 1 rfl;have k2:=ej i 2 rfl;have k3:=ej i 3 rfl;have k4:=ej i 4 rfl;have q0:=ej C 0 rfl;have q1:=ej C 1 rfl;have q2:=ej C 2 rfl;have D:=ae S;have a1:=ae i;have U:=ae z;have N6:=ae (c7.o.stay z);have CN:=ae (show w.heap.size<B.heap.size from hF J.o);clear d S C i z;refine dq (by kernel_rfl) (by kernel_rfl) ?_;repeat (go_big_quiet_step (fail))
       refine bt ?_;intro w9 b6;obtain⟨nq,rfl⟩:=b6;have r0:(j.drewN nq).cell? (w.heap.size,0)=(0:Int):=ej D.o 0 rfl;have r1:(j.drewN nq).cell? (w.heap.size,1)=(0:Int):=ej D.o 1 rfl;have r2:(j.drewN nq).cell? (w.heap.size,2)=(0:Int):=ej D.o 2 rfl;have r3:(j.drewN nq).cell? (w.heap.size,3)=(0:Int):=ej D.o 3 rfl;have r4:(j.drewN nq).cell? (w.heap.size,4)=(0:Int):=ej D.o 4 rfl;have rf:∀o,(j.drewN nq).frozen? ⟨w.heap.size,o,dl⟩=dT:=aO D.o;have g7:=ae (show(j.drewN nq).heap[w.heap.size]?=de (.cells #[(0:Int),(0:Int),(0:Int),(0:Int),(0:Int)] 54 (0,0))from D.o);have f6:=ae (below_drewN U.o nq);go_wp2_with fail
       refine aH (v:= .tuple #[.agg #[(0:Int),(0:Int),(0:Int),(0:Int),(0:Int)],(11:Int)]) (iq (b:=w.heap.size) (c:=bk.zero) rfl rfl ?_) rfl ⟨by rw[n.o];rfl,?_⟩
       ·exact aB (aB (aB (aB (aB g7.o _) _) _) _) _
       ·exact((((f6.o.setCell (ag _) _).setCell (ag _) _).setCell (ag _) _).setCell (ag _) _).setCell (ag _) _
theorem IE(b:UInt8)(d g p r:Nat)(now:Int)(w:ax)(c0:w.cell? (d,g)=de (.int .u8 b.toNat))(m:7<b.toNat):
  bl ed 49 #[.slice (d,g) (r+1) p,now] w λe w'=>e= .returned (.tuple #[.agg #[(0:Int),(0:Int),(0:Int),(0:Int),(0:Int)],(2:Int)])/\dd w.heap.size w w':=by
 have h:=λw=>KB (b.toNat:Int) w (.inr (by omega));have n:=aI w _ c0;have q:(0:Int)<=(b.toNat:Int):=by omega
 have s:(b.toNat:Int)<=255:=by have:=UInt8.toNat_lt b;omega
 have e1:((r:Int)+1==0)=dT:=by rw[aJ];omega
 have e2:(((r+1:Nat):Int)==0)=dT:=by rw[aJ];omega
 have l:∀o,(w.alloc o).cell? (d,g)=de (.int .u8 b.toNat):=λo=>(aw (w:=w) (bC w o d n)).t c0;have j:=ae h;clear h m c0;go_enter func49,ntmps49
 go_wp2_with fail
 refine(j.o _).m ?_;rintro e v1 ⟨rfl,rfl⟩;generalize f:World.alloc _ _=v2;have a:=eZ f rfl;have r0:=ej a 0 rfl;have r1:=ej a 1 rfl;have t:=ej a 2 rfl;have u:=ej a 3 rfl;have x:=ej a 4 rfl;have y:=aO a;have k:=ae a;have i:=ae (gv f);clear a f l;go_wp2_with fail
 refine aH (v:= .tuple #[.agg #[(0:Int),(0:Int),(0:Int),(0:Int),(0:Int)],(2:Int)]) (iq (b:=w.heap.size) (c:=bk.zero) rfl rfl ?_) rfl ⟨rfl,?_⟩
 ·exact aB (aB (aB (aB (aB k.o _) _) _) _) _
 ·exact(((((i.o.setCell (ag _) _).setCell (ag _) _).setCell (ag _) _).setCell (ag _) _).setCell (ag _) _)
theorem ID(b:UInt8)(f q:Nat)(now:Int)(w:ax)(c0:w.cell? (f,q)=de (.int .u8 b.toNat))(u:b.toNat<=7)(hk:Kn w):
  bl ed 49 #[.slice (f,q) 1 1,now] w λe w'=>e= .returned (.tuple #[.agg #[(0:Int),(0:Int),(0:Int),(0:Int),(0:Int)],(13:Int)])/\dd w.heap.size w w':=by
 have m:=λw hk=>Cx b w u hk;obtain⟨E,i⟩:=aK (qH b);have t:E.length=32:=by rw[i];exact iM _
 rw[<-i]at m;have x:∀(a:Addr) (c:Nat) (ro:Option Addr) (p:Nat) (w:ax),bl ed 69 #[.agg #[.slice (de a) 32 c,(0:Int),(0:Int),.bool dT,.bool dT,.bool dT,.bool dT,.bool dT,.bool dT,.bool dT,.bool dT],.slice ro 0 p] w λe w'=>e= .returned (.tuple #[.agg #[.slice dl 0 0,(0:Int),(0:Int),.bool dT,.bool dT,.bool dT,.bool dT,.bool dT,.bool dT,.bool dT,.bool dT],.slice dl 0 0,(13:Int)])/\dd w.heap.size w w':=λa c ro p w=>vr a a c 0 p 0 0 ro (λ_=>dT) w (by decide) (by decide) (by decide) dB.none.ok;have J:=aI w _ c0;have M:(b.toNat:Int)<=7:=by omega
 have L:(0:Int)<=(b.toNat:Int):=by omega
 have G:∀o,(w.alloc o).cell? (f,q)=de (.int .u8 b.toNat):=λo=>(aw (w:=w) (bC w o f J)).t c0;have C:=ae m;have D:=ae x;have B:=ae t;have A:=ae hk;clear m x t hk i u c0;go_enter func49,ntmps49
 go_wp2_with fail
 refine(C.o _ (A.o.vd _)).m ?_;rintro e v1 ⟨T,rfl,n,H,k⟩;obtain⟨N,O,K,I,_,_⟩:=n.gL 32 B.o (by decide);subst I;have s:=ae ((k.block w.heap.size (by simp)).t (aL w (.cells #[(0:Int),(0:Int),(0:Int),(0:Int),(0:Int)] 54)));have r:=ae (((aj w.heap.size w).alloc (ag _) _).t (k.m (by simp)));have RK:=ae n;clear n H k G;go_wp2_with fail
 refine(D.o _ K _ _ _).m ?_;rintro e v2 ⟨rfl,l⟩;have h:=ae ((l.block w.heap.size (hF s.o)).t s.o);have g:=ae (r.o.t (l.m r.o.size));clear l;go_wp2_with (refine bz rfl 94 (.tmp 8) (.tmp 35) rfl v2.heap.size 0 #[.slice dl 0 0,(0:Int),(0:Int),.bool dT,.bool dT,.bool dT,.bool dT,.bool dT,.bool dT,.bool dT,.bool dT] rfl rfl ?_ gz (jU _ _ _ _ _ _ _ _ _ _ _ rfl) ?_;(exact dr (aL v2 _) rfl);generalize j:World.setCells _ _ _ _=y;have z:=ae (show dd w.heap.size w y by rw[<-j];exact bp g.o.size _ _ _ (g.o.alloc g.o.size _));have d:y.heap[w.heap.size]?=de (.cells #[(0:Int),(0:Int),(0:Int),(0:Int),(0:Int)] 54 (0,0)):=(by rw[<-j];exact(bE (by have e1:=hF h.o;omega) _ _ _).t ((bC _ _ _ (hF h.o)).t h.o));have r0:=ej d 0 rfl;have r1:=ej d 1 rfl;have P:=ej d 2 rfl;have Q:=ej d 3 rfl;have R:=ej d 4 rfl;have S:=aO d;have F:=ae d;clear j d)
 refine aH (v:= .tuple #[.agg #[(0:Int),(0:Int),(0:Int),(0:Int),(0:Int)],(13:Int)]) (iq (b:=w.heap.size) (c:=bk.zero) rfl rfl ?_) rfl ⟨rfl,?_⟩
 ·exact aB (aB (aB (aB (aB F.o _) _) _) _) _
 ·exact((((z.o.setCell (ag _) _).setCell (ag _) _).setCell (ag _) _).setCell (ag _) _).setCell (ag _) _
theorem Ct(D:List UInt8)(now:Int)(v:bd)(w:ax)(hv:Rd w v D)(K:D.length<=2000)(hk:Kn w)(L:Nd w):
  bl ed 49 #[v,now] w λe w'=>e= .returned (.tuple #[eG (iD D now).1,(iD D now).2])/\dd w.heap.size w w':=by
 cases D with
 |nil=>
  obtain⟨a,c,rfl,-,-⟩:=hv.slice;exact Fp a c now w
 |cons b R=>
  obtain⟨l,n,m,rfl,C,S⟩:=hv.gL (R.length+1) (by simp) (by omega);have c0:w.cell? (l,n)=de (.int .u8 b.toNat):=by
   have h0:=hv.cells _ rfl 0 (fs b) rfl;have h1:w.cell? (l,n)=de (fs b):=by simpa[Addr.add]using h0
   exact h1
  have Q:R.length<=1999:=by rw[aZ]at K;omega
  unfold iD;dsimp only;by_cases r:7<b.toNat
  ·rw[ar r];exact IE b l n m R.length now w c0 r
  rw[ak r];replace r:b.toNat<=7:=by omega
  by_cases E:R.length<20
  ·rw[ar E];by_cases u:2<=m
   ·exact qo b l n m R.length 13 (by decide) now w C u (λa c j _ _=>vr a (l,n+1) c R.length (m-1) 0 0 (l,n+1) (λ_=>dT) j E (by decide) (by decide) dB.none.ok) c0 r hk
   ·have e1:m=1:=by omega
    have e2:R.length=0:=by omega
    rw[e1,e2];exact ID b l n now w c0 r hk
  rw[ak E];have u:2<=m:=by omega
  have G:2<=m->∀j,dd w.heap.size w j->Rd j (.slice (l,n+1) R.length (m-1)) R:=λ_ j hb=>(hv.stay hb).tail 1 R.length (by simp;omega) (by simp);obtain⟨q,hq⟩:=aK (R.length-20);have F:R.length=q+20:=by omega
  rw[<-hq];by_cases y:1073741824<=sN (R.take 4)
  ·rw[ar y];exact qo b l n m R.length 2 (by decide) now w C u (λa c j hb B=>Cp a c _ (qH b) R 0 0 q (λ_=>dT) j B (G u j hb) (iM _) F (by omega) (by decide) (by decide) dB.none.ok y) c0 r hk
  rw[ak y];replace y:sN (R.take 4)<1073741824:=by omega
  by_cases z:Sea.tag (qH b) (kr (R.take 4)) (R.take 4) ((R.drop 4).take q)≠(R.drop 4).drop q
  ·rw[ar z];exact qo b l n m R.length 6 (by decide) now w C u (λa c j hb B=>Ix a c _ (qH b) R 0 0 q (λ_=>dT) j B (G u j hb) (iM _) F (by omega) (by decide) (by decide) dB.none.ok y (by simp[pw]) z) c0 r hk
  rw[ak z];replace z:=Classical.not_not.1 z;refine IF b l n m R.length _ (max 0 (sN (R.take 4)+1)) (lz 0 (sN (R.take 4)) (λ_=>dT)) now w C u (λa c j hb B=>?_) c0 r hk L;refine(Ku a c _ (qH b) R 0 0 q (λ_=>dT) j B (G u j hb) (iM _) F (by omega) (by decide) (by decide) dB.none.ok y (by simp[pw]) z).m ?_;rintro e w' ⟨T,pv,rfl,J,N,M⟩;have hkl:=iM b;obtain⟨P,O,I,_,_,_,_⟩:=J.shape (by intro h;rw[h]at hkl;cases hkl);rw[hkl]at I;subst I;exact⟨P,O,pv,rfl,J,N,M⟩
def fp(cz:Int)(u:Nat->Bool)(a:bd)(bad:Nat->Int)(tv:bd):List bd:=[cz,.bool (u 0),.bool (u 1),.bool (u 2),.bool (u 3),.bool (u 4),a,(bad 0),(bad 1),(bad 2),(bad 3),(bad 4),tv]
def je:List bd:=fp 0 (λ_=>dT) (.slice dl 0 0) (λ_=>0) (.slice dl 0 0)
theorem rY:(prog.info? 34).map (·.size)=de 13:=by kernel_rfl
theorem xL{w:ax}{b:Nat}{tmps:Array bd}{n:Int}{cs:List bd}(a:cs.length=13)(c:tmps.getD 2 undef= (b,0))(d:tmps.getD 3 undef= .int .i64 n)
  (h1:w.heap[b]?=de (.cells cs.toArray 34 (0,0))):
  (results Tryz.f16 tmps).run ed w= .ok (.tuple #[.agg cs.toArray,n]) w:=by
 have e:=aU (P:=ed) w b 0 34 cs _ (bu h1) Tryz.underlying34 rfl (by rw[a];exact rY);rw[dC Tryz.results16 c e,d]
def oP(l:List mE):Prop:=l.length<=100000/\∀x∈l,sM x=0
theorem Dv(x:mE)(w:ax)(hd:Rd w x.dv x.d):
  bl ed 19 #[.agg #[x.k,x.n,x.a,x.p,x.dv]] w λe w'=>e= .returned (sM x)/\dd w.heap.size w w':=by
 unfold sM;split
 ·rename_i h;exact Cw x.k x.n x.a x.p x.dv x.d w h.1 h.2 hd
 ·rename_i h;exact Cv x.k x.n x.a x.p x.dv w h
end Go.Proofs.YtcdmenphjilnnaaGreatDoor
