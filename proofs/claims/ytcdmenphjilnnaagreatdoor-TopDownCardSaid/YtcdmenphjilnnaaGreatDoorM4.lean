/-
  Parts of the proofs of the laws of the whole (what the functions compute, and plain laws of it); no conditions.
-/
import Derived.Test.YtcdmenphjilnnaaGreatDoorM1
import Derived.ProofKit
import Derived.OpenShut
import Derived.ShutString
import Derived.ChangeOld
import Derived.Lib.SmallJoins
import Derived.LaidLaws
import Derived.LaidMore
import Derived.LaidHandle
import Derived.Stop.Joined
import Derived.SevenTiedAt
import Derived.Outline
import Derived.Maps.RangeWalk
import Derived.Maps.OwnOps
import Derived.Maps.Views
import Derived.WideKeyEntry
import Derived.DeepKeys4
import Derived.Deep.Slices
import Derived.Lib.LaidTab
set_option linter.unusedVariables false
set_option linter.unusedSimpArgs false
set_option maxRecDepth 100000
set_option maxHeartbeats 1000000
open Go.Proofs.Tryz
open Go renaming World->ax,Value->bd,Calls->bl
open Go.RowKit renaming Below->dd
open Option renaming some->de,none->dl
open Bool renaming true->dE,false->dT
open Go.Proofs.Tryz renaming prog->ed
namespace Go.Proofs.YtcdmenphjilnnaaGreatDoor
open Go.ChangeShapes Go.WideShapes Go.ChangeAt Go.RowKit Go.Con
set_option maxHeartbeats 8000000
theorem hH:ownKnob prog.godebug=dl:=by kernel_rfl
theorem laidOut:laidOutB ed=dE:=by kernel_rfl
section
variable{H:Type}{fS:TypeId×bd->H}{W:ax}{base b0:Nat}
end
end Go.Proofs.YtcdmenphjilnnaaGreatDoor
namespace Go.Proofs.YtcdmenphjilnnaaGreatDoor
open Go.RowKit Go.Con
set_option maxHeartbeats 8000000
theorem Rd.qM{w:ax}{b off n c:Nat}{l:List UInt8}(h:Rd w (.slice (b,off) n c) l)(k:Nat)(hk:k<l.length):w.cell? (b,off+k)=de (.int .u8 (l.getD k 0).toNat):=by
 obtain⟨a',g,e,_,_,_,h⟩:=h;injection e with e1 e2 e3;subst e1;obtain⟨b,off,a,h2⟩:=h (by intro h;rw[h]at hk;cases hk);injection a with a;injection a with d f;subst d f;exact h2 k hk
theorem uP(v:bd)(l:List UInt8)(w:ax)(hv:Rd w v l)(hl:l.length<=1099511627776):
  bl ed 59 #[v] w (mX w l):=by
 obtain⟨a,c,rfl,hc,m⟩:=hv.slice;obtain⟨n,b⟩:=aK l.length;rw[<-b]at hv hl hc|-;have o:=λ(w:ax) (a:Option Addr)=>im (P:=ed) w 24 5 a n c 0 0 Tryz.underlying24;have d:=ae hv;have i:=ae b;clear hv b;cases a with
 |none=>
  have h0:=d.o.nA;have h:=ae h0;clear h0;go_enter func59,ntmps59
  go_wp2
  go_ret
  exact⟨_,rfl,by rw[h.o.1];exact Own.nil _ _,aj _ _⟩
 |some a=>
  go_enter func59,ntmps59
  go_wp2_with (at_builtin;refine uZ rfl (.tmp 5) (.tmp 6) rfl w.heap.size (.slice (de ⟨w.heap.size,0,dl⟩) 0 0) _ [] l rfl (xK w _ [] 0 rfl (ag _) (by decide)) rfl (d.o.alloc _) (by rw[<-i.o];simp;omega) (by simp) ?_;intro v2 p f e;have j:=ae f;have g:=ae e;clear f e)
  go_ret
  exact⟨_,rfl,j.o,((aj _ _).alloc (ag _) _).grown g.o (by simp) (λk hk=>by injection hk with hk;subst hk;exact ag _)⟩
theorem Own.lE{w w':ax}{base:Nat}{v:bd}{l:List UInt8}(h:Own w base v l)(b:∀k,v.ownBlock=de k->w'.heap[k]?=w.heap[k]?):Own w' base v l:=by
 obtain⟨h1,h2⟩:=h;refine⟨h1,?_⟩;rcases h2 with h2|⟨g,cap,a,rfl,hg,c,r⟩
 ·exact .inl h2
 ·exact .inr ⟨g,cap,a,rfl,hg,by rw[b g rfl];exact c,r⟩
theorem mP:(prog.info? 71).map (λx=>x.size)=de 2:=by kernel_rfl
theorem GL{w:ax}{b c:Nat}{x y v0 v1:bd}(a:b≠c)(h:w.cell? (b,0)=de x/\w.cell? (b,1)=de y):((w.setCell (c,0) v0).setCell (c,1) v1).cell? (b,0)=de x/\((w.setCell (c,0) v0).setCell (c,1) v1).cell? (b,1)=de y:=by
 have e:((w.setCell (c,0) v0).setCell (c,1) v1).heap[b]?=w.heap[b]?:=(aA 1 v1 a).t (aA 0 v0 a);exact⟨(aw (w:=w) e).t h.1,(aw (w:=w) e).t h.2⟩
def IH(w:ax)(l:List UInt8)(s:Int)(e:Ending)(w':ax):Prop:=
 ∃a,e= .returned (.tuple #[.agg #[a,s],.bool dE])/\Own w' w.heap.size a l/\dd w.heap.size w w'
theorem oV(v:bd)(l:List UInt8)(s:Int)(w:ax)(hv:Rd w v l)(h0:0<=s)(h1:s<=l.length)(h2:l.length<=100000):
  bl ed 58 #[.agg #[v,s]] w (IH w l s):=by
 obtain⟨a,c,rfl,hc,L⟩:=id hv.slice;obtain⟨n,m⟩:=aK l.length;rw[<-m]at hv h1 h2 hc|-;have x:=ae hv;have N:=ae m;have d1:decide (s<0)=dT:=by rw[ah];omega
 have d2:decide ((n:Int)<s)=dT:=by rw[ah];omega
 have d3:decide ((100000:Int)<(n:Int))=dT:=by rw[ah];omega
 have Q:decide (100000<n)=dT:=by rw[ah];omega
 have G:=ae (λw h=>uP (.slice a n c) l w h (by rw[<-m];omega));clear hv m hc L;go_enter func58,ntmps58
 go_upto_region 3 with fail
 generalize d:World.alloc _ _=b;have X:b.heap[w.heap.size]?=de (.cells #[.slice a n c,s] 71 (0,0)):=by rw[<-d];exact gT w _ _
 have Y:b.heap[w.heap.size+1]?=de (.cells #[.slice dl 0 0,(0:Int)] 71 (0,0)):=by rw[<-d];exact gl w _ _
 have q:=ae (show dd w.heap.size w b by rw[<-d];exact((aj _ _).alloc (ag _) _).alloc (by simp) _);have C:b.heap.size=w.heap.size+1+1:=by rw[<-d];simp
 have r:=ae C;have c0:=ej X 0 rfl;have c1:=ej X 1 rfl;have j:b.cell? (w.heap.size,0)=de (.slice a n c)/\b.cell? (w.heap.size,1)=s:=⟨c0,c1⟩
 have A:=hF X;have K:=hF Y;have I:w.heap.size≠w.heap.size+1:=by omega
 have O:=ae X;have H:=ae Y;clear d C X Y c0 c1;go_region_held3 (λw'=>w'.cell? (w.heap.size,0)=de (.slice a n c)/\w'.cell? (w.heap.size,1)=s) (first|with_reducible exact j|with_reducible exact z|with_reducible exact GL I z|exact j) (first
  |(go_at_call 59;refine(G.o _ (show Rd b.drew _ l from(x.o.below q.o x.o.lt).drewN 1)).m ?_;rintro e v2 ⟨S,rfl,t,B⟩;obtain⟨sa,g,rfl,_,_⟩:=t.rd.slice;have f:dd b.heap.size b v2:=(below_drewN (aj _ _) 1).t B;have z:v2.cell? (w.heap.size,0)=de (.slice a n c)/\v2.cell? (w.heap.size,1)=s:=⟨(f.cell (p:=(w.heap.size,0)) A).t j.1,(f.cell (p:=(w.heap.size,1)) A).t j.2⟩;have i:=(f.block (w.heap.size+1) K).t H.o;have T:=ej i 0 rfl;have U:=ej i 1 rfl;have R:=aO i;have J:=ae i;clear i;have F:=ae f;have y:=ae t;clear B f t))
 go_wp2_with fail
 have E:=aB (o:=1) (aB (o:=0) J.o (.slice sa l.length g)) s;have u:=ae (show dd w.heap.size w ((v2.setCell (w.heap.size+1,0) (.slice sa l.length g)).setCell (w.heap.size+1,1) s)from((q.o.t (F.o.m q.o.size)).setCell (by show w.heap.size<=w.heap.size+1;omega) _).setCell (by show w.heap.size<=w.heap.size+1;omega) _);have D:=(y.o.m (base':=w.heap.size) (by have:=r.o;show w.heap.size<=b.heap.size;omega)).lE (w':=(v2.setCell (w.heap.size+1,0) (.slice sa l.length g)).setCell (w.heap.size+1,1) s) (λk hk=>by
  have h3:=(y.o.lt k hk).1;have h4:b.heap.size<=k:=h3;exact(aA 1 _ (by have:=r.o;omega)).t (aA 0 _ (by have:=r.o;omega)))
 generalize d:World.setCell _ _ _=M at E u D|-;have hl:=aU (P:=ed) M (w.heap.size+1) 0 71 [.slice sa l.length g,s] _ (bu E) Tryz.underlying71 rfl mP;exact aH (v:= .tuple #[.agg #[.slice sa l.length g,s],.bool dE]) (dC Tryz.results58 rfl hl) rfl ⟨_,rfl,D,u.o⟩
end Go.Proofs.YtcdmenphjilnnaaGreatDoor
namespace Go.Proofs.YtcdmenphjilnnaaGreatDoor
open Go.ChangeShapes Go.WideShapes Go.ChangeAt Go.RowKit Go.Con
set_option maxHeartbeats 8000000
def jV(w:ax)(v:bd)(d:List Int):Prop:=
 ∃a c,v= .slice a d.length c/\d.length<=c/\c<=maxLen/\(∀i,i<d.length->-9223372036854775808<=d.getD i 0/\d.getD i 0<=9223372036854775807)/\(d≠[]->∃b off,a=de ⟨b,off,dl⟩/\∀i,i<d.length->w.cell? ⟨b,off+i,dl⟩=de (.int .i64 (d.getD i 0)))
theorem jV.stay{w w':ax}{v:bd}{d:List Int}(h:jV w v d)(hb:dd w.heap.size w w'):jV w' v d:=by
 obtain⟨a,c,rfl,h1,h2,h0,h3⟩:=h;refine⟨a,c,rfl,h1,h2,h0,λhl=>?_⟩;obtain⟨b,off,rfl,hc⟩:=h3 hl;refine⟨b,off,rfl,λi hi=>?_⟩;exact(aw (w:=w) (hb.block b (aI w _ (hc i hi)))).t (hc i hi)
section
variable{H:Type}{fS:TypeId×bd->H}{W:ax}{base b0:Nat}
end
end Go.Proofs.YtcdmenphjilnnaaGreatDoor
namespace Go.Con
set_option maxHeartbeats 8000000
structure T0k where
 bD:Int
 mS:Int
 KH:Int
 deriving DecidableEq
def T0k.zero:T0k:=⟨0,0,0⟩
def ou(t:T0k):bd:= .agg #[t.bD,t.mS,t.KH]
structure T0k.Ok(t:T0k):Prop where
 c0:0<=t.bD
 c1:t.bD<=7
 r0:0<=t.mS
 r1:t.mS<=7
 u0:0<=t.KH
 u1:t.KH<=1048576
def yV(t:T0k):Bool:=decide (0<=t.bD/\t.bD<=7/\0<=t.mS/\t.mS<=7/\0<=t.KH/\t.KH<=1048576)
theorem CJ{t:T0k}(h:yV t=dE):t.Ok:=by
 unfold yV at h;rw[ap]at h;exact⟨h.1,h.2.1,h.2.2.1,h.2.2.2.1,h.2.2.2.2.1,h.2.2.2.2.2⟩
def KQ(k:Int):Int:=if k=1 then 2 else if k=2 then 1 else if k=3 then 4 else 0
def KU(r k:Int):Bool:=bits .and .i64 r (KQ k)==0
def rH(t:T0k)(c:bk)(now:Int):Int:=
 if c.kind=0\/t.bD≠c.bD\/KU t.mS c.kind=dE then 11 else if now<0\/t.KH<now then 10 else 0
end Go.Con
namespace Go.Proofs.YtcdmenphjilnnaaGreatDoor
open Go.RowKit Go.Con
set_option maxHeartbeats 8000000
theorem Jj(cl r u:Int)(w:ax)(h:cl<0\/7<cl):
  bl ed 38 #[.agg #[cl,r,u]] w λe w'=>e= .returned (2:Int)/\dd w.heap.size w w':=by
 go_enter func38,ntmps38
 go_wp2_with (go_at_call 63;first|(refine(kK _ _ _ _ (by omega) (by omega)).m ?_;rintro e w' ⟨rfl,rfl⟩)|(refine(jL _ _ _ _ (by omega)).m ?_;rintro e w' ⟨rfl,rfl⟩))
 go_ret
 exact⟨rfl,(aj _ _).alloc (ag _) _⟩
theorem Ji(cl r u:Int)(w:ax)(c0:0<=cl)(c1:cl<=7)(h:r<0\/7<r):
  bl ed 38 #[.agg #[cl,r,u]] w λe w'=>e= .returned (2:Int)/\dd w.heap.size w w':=by
 go_enter func38,ntmps38
 go_wp2_with (go_at_call 63;first|(refine(kK _ _ _ _ (by omega) (by omega)).m ?_;rintro e w' ⟨rfl,rfl⟩)|(refine(jL _ _ _ _ (by omega)).m ?_;rintro e w' ⟨rfl,rfl⟩))
 go_ret
 exact⟨rfl,(aj _ _).alloc (ag _) _⟩
theorem Jh(cl r u:Int)(w:ax)(c0:0<=cl)(c1:cl<=7)(r0:0<=r)(r1:r<=7)(h:u<0\/1048576<u):
  bl ed 38 #[.agg #[cl,r,u]] w λe w'=>e= .returned (2:Int)/\dd w.heap.size w w':=by
 go_enter func38,ntmps38
 go_wp2_with (go_at_call 63;first|(refine(kK _ _ _ _ (by omega) (by omega)).m ?_;rintro e w' ⟨rfl,rfl⟩)|(refine(jL _ _ _ _ (by omega)).m ?_;rintro e w' ⟨rfl,rfl⟩))
 go_ret
 exact⟨rfl,(aj _ _).alloc (ag _) _⟩
theorem Jg(cl r u:Int)(w:ax)(c0:0<=cl)(c1:cl<=7)(r0:0<=r)(r1:r<=7)(u0:0<=u)(u1:u<=1048576):
  bl ed 38 #[.agg #[cl,r,u]] w λe w'=>e= .returned (0:Int)/\dd w.heap.size w w':=by
 go_enter func38,ntmps38
 go_wp2_with (go_at_call 63;first|(refine(kK _ _ _ _ (by omega) (by omega)).m ?_;rintro e w' ⟨rfl,rfl⟩)|(refine(jL _ _ _ _ (by omega)).m ?_;rintro e w' ⟨rfl,rfl⟩))
 go_ret
 exact⟨rfl,(aj _ _).alloc (ag _) _⟩
theorem yU(t:T0k)(w:ax)(h:t.Ok):
  bl ed 38 #[ou t] w λe w'=>e= .returned (0:Int)/\dd w.heap.size w w':=
 Jg _ _ _ w h.c0 h.c1 h.r0 h.r1 h.u0 h.u1
theorem DE(t:T0k)(w:ax):
  bl ed 38 #[ou t] w λe w'=>e= .returned (if yV t=dE then 0 else 2:Int)/\dd w.heap.size w w':=by
 by_cases h:yV t=dE
 ·rw[ar h];exact yU t w (CJ h)
 ·rw[ak h];have a:¬(0<=t.bD/\t.bD<=7/\0<=t.mS/\t.mS<=7/\0<=t.KH/\t.KH<=1048576):=λk=>h (fG k);by_cases hc:t.bD<0\/7<t.bD
  ·exact Jj _ _ _ w hc
  ·by_cases hr:t.mS<0\/7<t.mS
   ·exact Ji _ _ _ w (by omega) (by omega) hr
   ·exact Jh _ _ _ w (by omega) (by omega) (by omega) (by omega) (by omega)
def Nd(w:ax):Prop:=∀i,i<4->w.cell? ⟨0,i,dl⟩=de (.int .i64 (KQ i))
theorem Nd.lt{w:ax}(h:Nd w):0<w.heap.size:=aI w _ (h 0 (by decide))
theorem Nd.stay{w w':ax}(h:Nd w)(hb:dd w.heap.size w w'):Nd w':=λi hi=>(hb.cell (p:=⟨0,i,dl⟩) h.lt).t (h i hi)
theorem Cy(t:T0k)(c:bk)(now:Int)(w:ax)(L:t.Ok)(hc:cS c=0)(K:Nd w):
  bl ed 72 #[ou t,eG c,now] w λe w'=>e= .returned (rH t c now)/\dd w.heap.size w w':=by
 obtain⟨k,cl,N,M,O⟩:=c;obtain⟨G,b,I⟩:=t;have hk:k=0\/k=1\/k=2\/k=3:=by
  unfold cS at hc;dsimp only at hc;by_cases h0:k=0
  ·exact Or.inl h0
  ·rw[ak h0]at hc;by_cases h1:1<=k/\k<=3
   ·omega
   ·rw[ak h1]at hc;exact absurd hc (by decide)
 obtain⟨R,E⟩:=aK (rH ⟨G,b,I⟩ ⟨k,cl,N,M,O⟩ now);rw[<-E];have B:=λw=>yU _ w L;have u:=λw=>lR ⟨k,cl,N,M,O⟩ w;rw[hc]at u;unfold ou at B|-;unfold eG at u|-;dsimp only at B u|-;have S:=ae B;have Q:=ae u;have y:=ae K;have l:=ae hk;have m:=ae E;clear B u L hc K hk E;go_enter func72,ntmps72
 go_wp2_with fail
 refine(S.o _).m ?_;rintro e w1 ⟨rfl,r⟩;have s1:w.heap.size+2<=w1.heap.size:=by simpa using r.size
 have P:=ae ((((aj w.heap.size w).alloc (ag _) _).alloc (by simp) _).t (r.m (by simp;omega)));have T:=ae ((r.block w.heap.size (by simp;omega)).t (gT w _ _));have n:=ae ((r.block (w.heap.size+1) (by simp)).t (gl w _ _));have c0:=ej n.o 0 rfl;have c1:=ej n.o 1 rfl;have U:=ej n.o 2 rfl;have V:=ej n.o 3 rfl;have X:=ej n.o 4 rfl;clear r;go_wp2_with fail
 refine(Q.o _).m ?_;rintro e C ⟨rfl,z⟩;have j:=ae (P.o.t (z.m (by omega)));have D:=ae ((z.block w.heap.size (by omega)).t T.o);have J:=ae ((z.block (w.heap.size+1) (by omega)).t n.o);have d0:=ej J.o 0 rfl;have d1:=ej J.o 1 rfl;have t0:=ej D.o 0 rfl;have t1:=ej D.o 1 rfl;have t2:=ej D.o 2 rfl;have n0:C.cell? (0,0)=(0:Int):=(y.o.stay j.o) 0 (by decide);have Y:C.cell? (0,1)=(2:Int):=(y.o.stay j.o) 1 (by decide);have Z:C.cell? (0,2)=(1:Int):=(y.o.stay j.o) 2 (by decide);have n3:C.cell? (0,3)=(4:Int):=(y.o.stay j.o) 3 (by decide);clear z c0 c1 U V X;by_cases h0:k=0
 ·subst h0;have e:R=11:=m.o.t (ar (.inl rfl));subst e;clear Y Z n3;go_wp2
  go_ret
  exact⟨rfl,j.o⟩
 replace l:=ae (l.o.resolve_left h0);by_cases F:G=cl
 ·subst F;cases hm:KU b k with
  |true=>
   have e:R=11:=m.o.t (ar (.inr (.inr hm)));subst e;clear m h0;rcases l.o with rfl|rfl|rfl;all_goals
    first|replace hm:(bits .and .i64 b 2==0)=dE:=hm|replace hm:(bits .and .i64 b 1==0)=dE:=hm|replace hm:(bits .and .i64 b 4==0)=dE:=hm
    go_wp2
    go_ret
    exact⟨rfl,j.o⟩
  |false=>
   have hr:=m.o.t (ak (by rintro(h|h|h);exact h0 h;exact h rfl;rw[hm]at h;cases h));clear m h0;dsimp only at hr;by_cases hw:now<0
   ·have e:R=10:=hr.t (ar (.inl hw));subst e;clear hr;rcases l.o with rfl|rfl|rfl;all_goals
     first|replace hm:(bits .and .i64 b 2==0)=dT:=hm|replace hm:(bits .and .i64 b 1==0)=dT:=hm|replace hm:(bits .and .i64 b 4==0)=dT:=hm
     go_wp2
     go_ret
     exact⟨rfl,j.o⟩
   ·replace hw:0<=now:=by omega
    by_cases hv:I<now
    ·have e:R=10:=hr.t (ar (.inr hv));subst e;clear hr;rcases l.o with rfl|rfl|rfl;all_goals
      first|replace hm:(bits .and .i64 b 2==0)=dT:=hm|replace hm:(bits .and .i64 b 1==0)=dT:=hm|replace hm:(bits .and .i64 b 4==0)=dT:=hm
      go_wp2
      go_ret
      exact⟨rfl,j.o⟩
    ·replace hv:now<=I:=by omega
     have e:R=0:=hr.t (ak (by omega));subst e;clear hr;rcases l.o with rfl|rfl|rfl;all_goals
      first|replace hm:(bits .and .i64 b 2==0)=dT:=hm|replace hm:(bits .and .i64 b 1==0)=dT:=hm|replace hm:(bits .and .i64 b 4==0)=dT:=hm
      go_wp2
      go_ret
      exact⟨rfl,j.o⟩
 ·have e:R=11:=m.o.t (ar (.inr (.inl F)));subst e;clear m h0;have a0:(G !=cl)=dE:=by simpa using F
  rcases l.o with rfl|rfl|rfl;all_goals
   go_wp2
   go_ret
   exact⟨rfl,j.o⟩
end Go.Proofs.YtcdmenphjilnnaaGreatDoor
namespace Go.Con.Pol
set_option maxHeartbeats 8000000
structure L5 where
 a0:Nat
 a1:Nat
 a2:Nat
 a3:Nat
 a4:Nat
def P:Nat:=1361129467683753853853498429727072845819
def L5.val(x:L5):Nat:=x.a0+x.a1*67108864+x.a2*4503599627370496+x.a3*302231454903657293676544+x.a4*20282409603651670423947251286016
def wJ(n:Nat):L5:=⟨n%67108864,n/67108864%67108864,n/4503599627370496%67108864,n/302231454903657293676544%67108864,n/20282409603651670423947251286016⟩
theorem xM(n:Nat):(wJ n).val=n:=by
 simp only[wJ,L5.val];omega
structure Fq(x:L5):Prop where
 h0:x.a0<67108864
 h1:x.a1<67110912
 h2:x.a2<67108864
 h3:x.a3<67108864
 h4:x.a4<67108864
theorem xN(n:Nat)(h:n<1361129467683753853853498429727072845824):Fq (wJ n):=by
 constructor<;>simp only[wJ]<;>omega
def carry(x:L5):L5:=
 let b1:=x.a1+x.a0/67108864;let b2:=x.a2+b1/67108864;let b:=x.a3+b2/67108864;let c:=x.a4+b/67108864;let a:=x.a0%67108864+5*(c/67108864)
 ⟨a%67108864,b1%67108864+a/67108864,b2%67108864,b%67108864,c%67108864⟩
theorem EU(x:L5):(carry x).val+((x.a4+(x.a3+(x.a2+(x.a1+x.a0/67108864)/67108864)/67108864)/67108864)/67108864)*P=x.val:=by
 simp only[carry,L5.val,P];generalize e1:x.a1+x.a0/67108864=b1;generalize e2:x.a2+b1/67108864=b2;generalize e3:x.a3+b2/67108864=a;generalize c:x.a4+a/67108864=b;omega
theorem xj(x:L5):(carry x).val%P=x.val%P:=by
 rw[<-EU x,Nat.add_mul_mod_self_right]
theorem xm(x:L5)(h0:x.a0<=1152921504606846976)(h1:x.a1<=1152921504606846976)(h2:x.a2<=1152921504606846976)(h3:x.a3<=1152921504606846976)(h4:x.a4<=1152921504606846976):Fq (carry x):=by
 constructor<;>simp only[carry]<;>omega
def mul(x y:L5):L5:=
 ⟨x.a0*y.a0+5*x.a1*y.a4+5*x.a2*y.a3+5*x.a3*y.a2+5*x.a4*y.a1,
  x.a0*y.a1+x.a1*y.a0+5*x.a2*y.a4+5*x.a3*y.a3+5*x.a4*y.a2,
  x.a0*y.a2+x.a1*y.a1+x.a2*y.a0+5*x.a3*y.a4+5*x.a4*y.a3,
  x.a0*y.a3+x.a1*y.a2+x.a2*y.a1+x.a3*y.a0+5*x.a4*y.a4,
  x.a0*y.a4+x.a1*y.a3+x.a2*y.a2+x.a3*y.a1+x.a4*y.a0⟩
def over(x y:L5):Nat:=
 x.a1*y.a4+x.a2*y.a3+x.a3*y.a2+x.a4*y.a1+(x.a2*y.a4+x.a3*y.a3+x.a4*y.a2)*67108864+(x.a3*y.a4+x.a4*y.a3)*4503599627370496+x.a4*y.a4*302231454903657293676544
theorem JH(x y:L5):(mul x y).val+over x y*P=x.val*y.val:=by
 simp only[mul,over,L5.val,P];grind
theorem mul_mod(x y:L5):(mul x y).val%P=x.val*y.val%P:=by
 rw[<-JH x y,Nat.add_mul_mod_self_right]
def whole(x:L5):L5:=
 let z:=carry x;let a:=z.a0+5;let b:=z.a1+a/67108864;let c:=z.a2+b/67108864;let d:=z.a3+c/67108864;let e:=z.a4+d/67108864
 if e/67108864=0 then z else⟨a%67108864,b%67108864,c%67108864,d%67108864,e%67108864⟩
theorem Dx(x:L5)(h:Fq (carry x)):(whole x).val=x.val%P:=by
 rw[<-xj x];obtain⟨h0,h1,h2,h3,h4⟩:=h;generalize d:carry x=z at h0 h1 h2 h3 h4;have hw:whole x=(if(z.a4+(z.a3+(z.a2+(z.a1+(z.a0+5)/67108864)/67108864)/67108864)/67108864)/67108864=0 then z else⟨(z.a0+5)%67108864,(z.a1+(z.a0+5)/67108864)%67108864,(z.a2+(z.a1+(z.a0+5)/67108864)/67108864)%67108864,(z.a3+(z.a2+(z.a1+(z.a0+5)/67108864)/67108864)/67108864)%67108864,(z.a4+(z.a3+(z.a2+(z.a1+(z.a0+5)/67108864)/67108864)/67108864)/67108864)%67108864⟩):=by
  rw[<-d];rfl
 rw[hw];generalize e1:z.a1+(z.a0+5)/67108864=b1;generalize e2:z.a2+b1/67108864=b2;generalize e3:z.a3+b2/67108864=a;generalize e:z.a4+a/67108864=b;by_cases hb:b/67108864=0
 ·rw[ar hb,ft];simp only[L5.val,P];omega
 ·rw[ak hb];have hlt:z.val-P<P:=by simp only[L5.val,P];omega
  have c:P<=z.val:=by simp only[L5.val,P];omega
  rw[Nat.mod_eq_sub_mod c,ft hlt];simp only[L5.val,P];omega
theorem Dy(x:L5)(h:Fq (carry x)):Fq (whole x):=by
 unfold whole;dsimp only;split
 ·exact h
 ·constructor<;>simp only<;>omega
def pA:List UInt8->Nat
 |[]=>0
 |b::l=>b.toNat+256*pA l
theorem xV:∀l:List UInt8,pA l<256^l.length
 |[]=>by simp[pA]
 |b::l=>by
  have h:=xV l;have hb:=b.toNat_lt;simp only[pA,aZ,mu];omega
theorem uA:∀(l m:List UInt8),pA (l++m)=pA l+256^l.length*pA m
 |[],m=>by simp[pA]
 |b::l,m=>by
  simp only[List.cons_append,pA,uA l m,aZ,mu];rw[Nat.mul_add,eJ (256^l.length) 256,Nat.mul_assoc];omega
theorem sh:∀n,pA (List.replicate n 0)=0
 |0=>rfl
 |n+1=>by simp[List.replicate_succ,pA,sh n]
def qU:Nat->Nat->List UInt8
 |0,_=>[]
 |k+1,n=>UInt8.ofNat n::qU k (n/256)
theorem jy:∀k n,(qU k n).length=k
 |0,_=>rfl
 |k+1,n=>by simp[qU,jy k]
theorem xW:∀k n,qU k (n%256^k)=qU k n
 |0,_=>rfl
 |k+1,n=>by
  have h1:n%256^(k+1)/256=n/256%256^k:=by
   rw[mu,eJ,Nat.mod_mul_right_div_self]
  have h2:n%256^(k+1)%256=n%256:=by
   rw[mu,eJ,Nat.mod_mul_right_mod]
  simp only[qU];rw[h1,xW k];congr 1;apply UInt8.toNat_inj.1;rw[bM,bM];exact h2
def rI(r:Nat):Nat->Nat->List UInt8->Nat
 |0,a,_=>a
 |f+1,a,l=>if l=[]then a else rI r f ((a+(pA (l.take 16)+256^(min 16 l.length)))*r%P) (l.drop 16)
theorem ml(r f a:Nat):rI r f a []=a:=by
 cases f with
 |zero=>rfl
 |succ f=>simp[rI]
theorem xt(r:Nat):∀(f g a:Nat) (l:List UInt8),l.length<=f->l.length<=g->rI r f a l=rI r g a l
 |0,g,a,l,h,_=>by
  have:l=[]:=bq (by omega);subst this;rw[ml,ml]
 |f+1,0,a,l,_,h=>by
  have:l=[]:=bq (by omega);subst this;rw[ml,ml]
 |f+1,g+1,a,l,h1,h2=>by
  by_cases hl:l=[]
  ·subst hl;rw[ml,ml]
  ·have hp:0<l.length:=dw.2 hl;simp only[rI,ak hl];exact xt r f g _ _ (by simp;omega) (by simp;omega)
def acc(r:Nat)(l:List UInt8):Nat:=rI r l.length 0 l
def Ij(k:List UInt8):List UInt8:=((((((((k.set 3 (k.getD 3 0&&&15)).set 7 (k.getD 7 0&&&15)).set 11 (k.getD 11 0&&&15)).set 15 (k.getD 15 0&&&15)).set 4 (k.getD 4 0&&&252)).set 8 (k.getD 8 0&&&252)).set 12 (k.getD 12 0&&&252)))
def tag(key data:List UInt8):List UInt8:=qU 16 (acc (pA (Ij (key.take 16))) data+pA ((key.drop 16).take 16))
end Go.Con.Pol
namespace Go.Con
open Go.RowKit
set_option maxHeartbeats 8000000
def mark(L:Array Bool)(l:List Nat):Array Bool:=l.foldl (λL i=>L.setIfInBounds i dE) L
theorem Eo(l:List Nat):∀L,(mark L l).size=L.size:=by
 induction l with
 |nil=>intro L;rfl
 |cons i r a=>intro L;rw[mark,dH];exact(a _).t (by simp)
theorem uu(l:List Nat):∀(L:Array Bool) (k:Nat),(mark L l)[k]?=if k∈l/\k<L.size then de dE else L[k]?:=by
 induction l with
 |nil=>intro L k;simp[mark]
 |cons i r a=>
  intro L k;rw[mark,dH];have h:=a (L.setIfInBounds i dE) k;rw[mark]at h;rw[h];by_cases h1:k∈r
  ·by_cases h2:k<L.size
   ·simp[h1,h2]
   ·simp[h1,h2,fi]
  ·by_cases h3:i=k
   ·subst h3;by_cases h2:i<L.size
    ·simp[h1,h2]
    ·simp[h1,h2,fi]
   ·have h4:¬k=i:=λe=>h3 e.symm;simp[h1,h4,fi,h3]
theorem Gy(L:Array Bool)(a:List Nat)(p:Nat->Bool)(i:Nat)(hi:i∈a):
  (mark L (a.filter p)).setIfInBounds i dE=mark L (a.filter λk=>p k||k==i):=by
 apply Array.ext_getElem?;intro k;rw[fi,uu,uu,Eo];by_cases h:i=k
 ·subst h;by_cases h2:i<L.size
  ·simp[h2,hi]
  ·simp[h2]
 ·have h4:¬k=i:=λe=>h e.symm;simp[h,h4]
def fA(a:Act)(d:Nat->Tmp)(vs:Nat->bd)(l:List Nat):Act:=l.foldl (λa k=>a.put (de (d k)) (vs k)) a
theorem iY(a:Act)(d:Nat->Tmp)(vs:Nat->bd)(i:Nat)(l:List Nat):fA a d vs (i::l)=fA (a.put (de (d i)) (vs i)) d vs l:=rfl
theorem Gf(d:Nat->Tmp)(vs:Nat->bd)(t:Tmp)(v:bd)(l:List Nat)(h:∀k∈l,d k≠t):∀a,fA (a.put (de t) v) d vs l=(fA a d vs l).put (de t) v:=by
 induction l with
 |nil=>intro a;rfl
 |cons i r c=>
  intro a;rw[iY,iY,Act.put_comm a v (vs i) (λe he b=>by injection he with he;injection b with b;exact h i (by simp) (b.t he.symm))];exact c (λk hk=>h k (by simp[hk])) _
theorem fR(d:Nat->Tmp)(vs b:Nat->bd)(l:List Nat)(h:∀k∈l,vs k=b k):∀a,fA a d vs l=fA a d b l:=by
 induction l with
 |nil=>intro a;rfl
 |cons i r c=>intro a;rw[iY,iY,h i (by simp)];exact c (λk hk=>h k (by simp[hk])) _
theorem iI(d:Nat->Tmp)(vs:Nat->bd)(v:bd)(p:Nat->Bool)(i:Nat):∀(f:List Nat) (a:Act),(f.map d).Nodup->i∈f->p i=dT->
  (fA a d vs (f.filter p)).put (de (d i)) v=fA a d (λk=>if k=i then v else vs k) (f.filter λk=>p k||k==i)
 |[],a,_,hi,_=>by cases hi
 |j::r,a,l,hi,hp=>by
  rw[dm,gG]at l;obtain⟨m,n⟩:=l;by_cases b:j=i
  ·subst b;have o:∀k∈r,k≠j:=λk hk e=>m (e▸List.mem_map_of_mem hk);have e1:r.filter (λk=>p k||k==j)=r.filter p:=my λk hk=>by simp[o k hk]
   rw[fZ,ak (by simp[hp]),fZ,ar (by simp),e1,iY,ar rfl];rw[fR d (λk=>if k=j then v else vs k) vs _ (λk hk=>by rw[ak (o k (bZ.1 hk).1)])];exact(Gf d vs (d j) v _ (λk hk e=>m (e▸List.mem_map_of_mem (bZ.1 hk).1)) a).symm
  ·have g:i∈r:=by
    rcases dF.1 hi with h|h
    ·exact absurd h.symm b
    ·exact h
   rw[fZ,fZ];by_cases c:p j=dE
   ·rw[ar c,ar (by simp[c]),iY,iY,ak b];exact iI d vs v p i r _ n g hp
   ·rw[ak c,ak (by simp[c,b])];exact iI d vs v p i r a n g hp
theorem vK(a:Act)(t:Tmp)(v:bd)(h:t<a.tmps.size):(a.put (de t) v).eval (.tmp t)=v:=by
 simp[Act.eval,Act.put,h]
theorem zW(a:Act)(t u:Tmp)(v:bd)(h:u≠t):(a.put (de u) v).eval (.tmp t)=a.eval (.tmp t):=by
 simp[Act.eval,Act.put,cV h]
theorem ij(d:Nat->Tmp)(vs:Nat->bd)(t:Tmp)(l:List Nat)(h:∀k∈l,d k≠t):∀a,(fA a d vs l).eval (.tmp t)=a.eval (.tmp t):=by
 induction l with
 |nil=>intro a;rfl
 |cons i r b=>intro a;rw[iY,b (λk hk=>h k (by simp[hk])),zW _ _ _ _ (h i (by simp))]
theorem kM(d:Nat->Tmp)(vs:Nat->bd)(k:Nat)(l:List Nat)(b:(l.map d).Nodup)(hk:k∈l):∀a:Act,d k<a.tmps.size->(fA a d vs l).eval (.tmp (d k))=vs k:=by
 induction l with
 |nil=>cases hk
 |cons i r f=>
  intro a c;rw[dm,gG]at b;rw[iY];rcases dF.1 hk with h|h
  ·subst h;rw[ij d vs _ r (λj hj e=>b.1 (cH.2 ⟨j,hj,e⟩)),vK _ _ _ c]
  ·exact f b.2 h _ (by simpa[Act.put]using c)
theorem so(p:Nat->Bool)(i:Nat)(hp:p i=dT):∀l:List Nat,l.Nodup->i∈l->(l.filter λk=>p k||k==i).length=(l.filter p).length+1
 |[],_,hi=>by cases hi
 |j::r,c,hi=>by
  rw[gG]at c;by_cases b:j=i
  ·subst b;have e1:r.filter (λk=>p k||k==j)=r.filter p:=my λk hk=>by
    have:k≠j:=λe=>c.1 (e▸hk);simp[this]
   rw[fZ,ar (by simp),fZ,ak (by simp[hp]),e1,aZ]
  ·have f:i∈r:=by
    rcases dF.1 hi with h|h
    ·exact absurd h.symm b
    ·exact h
   have d:=so p i hp r c.2 f;rw[fZ,fZ];by_cases a:p j=dE
   ·rw[ar a,ar (by simp[a]),aZ,aZ,d]
   ·rw[ak a,ak (by simp[a,b]),d]
section
variable{P:Program}{ops:Array Oper}{Q:Exit->Act->ax->Prop}{md:Region.Mode}
theorem yQ{o:Oper}(h:o.guard=dl)(y:Nat->Option Bool):Region.wanted o y=dE:=by unfold Region.wanted;rw[h]
theorem nN{i:Nat}{o:Oper}{a:Act}{w:ax}{K:Act->ax->Prop}(hi:ops[i]?=de o)(hg:o.guard=dl)(h:o.wp P a w K Q):wpOp P ops Q i K a w:=by
 unfold wpOp;simp only[hi];rw[ar (yQ hg _)];exact .inl h
theorem mN{i:Nat}{o:Oper}{a:Act}{w:ax}{K:Act->ax->Prop}(hi:ops[i]?=de o)(hg:o.guard=dl)(ty:TypeId)(x y:Operand)(ho:o.op= .store ty x y)
  (b off:Nat)(cells:Array bd)(hx:a.eval x= (b,off))(hy:a.eval y= .agg cells)
  (c:w.there b off cells.size)(hs:(P.info? ty).map (·.size)=de cells.size)(h1:cells.all (·.oneCell')=dE)
  (h:K (a.put o.dst undef) (w.setCells b off cells.toList)):wpOp P ops Q i K a w:=
 nN hi hg (wp_store_mid ty x y ho b off cells hx hy c hs h1 h)
theorem ns{i:Nat}{o:Oper}{a:Act}{w:ax}{K:Act->ax->Prop}(hi:ops[i]?=de o)(hg:o.guard=dl)(f:FuncId)(args:Array bd)
  (c:(execOp a.eval o).run P w= .ok (.enter f args) w)
  (hc:bl P f args w λe w'=>∃v,e= .returned v/\K (a.put o.dst v) w'):wpOp P ops Q i K a w:=by
 refine nN hi hg ?_;unfold Oper.wp;rw[c,Oper.upon_enter];refine hc.m λe w' b=>?_;obtain⟨v,rfl,h⟩:=b;exact h
theorem jK{i:Nat}{o:Oper}{a:Act}{w w':ax}{K:Act->ax->Prop}(hi:ops[i]?=de o)(hg:o.guard=dl)(v:bd)
  (b:(execOp a.eval o).run P w= .ok (.value v) w')(h:K (a.put o.dst v) w'):wpOp P ops Q i K a w:=by
 refine nN hi hg ?_;unfold Oper.wp;rw[b];exact h
end
theorem tP{P:Program}{w:ax}{a:Operand->bd}{dst:Option Tmp}{f:Nat}{xs:Array Operand}{i:Array TypeId}{ty:TypeId}{pos:String}{b:Array Edge}{g:Option (Nat×Bool)}{vs:Array bd}{fn:Func}
  (d:P.funcs[f]?=de fn)(e:(fn.name== "runtime.NumGoroutine")=dT)(hb:fn.body.isNone=dT)(hv:xs.map a=vs)(c:a (.func f)= .func (.func f) #[] #[]):
  (execOp a {dst:=dst,op:= .call {callee:= .value (.func f),args:=xs,argTypes:=i},type:=ty,pos:=pos,after:=b,guard:=g}).run P w= .ok (.enter f vs) w:=by
 subst hv;simp only[execOp,resolve,c];simp[go_sem];have h1:¬fn.name= "runtime.NumGoroutine" :=by simpa using e
 have h2:¬fn.body=dl:=by intro h;rw[h]at hb;cases hb
 simp[callFunc,d,Sem.run,h1,h2]
end Go.Con
namespace Go.Proofs.YtcdmenphjilnnaaGreatDoor
open Go.RowKit Go.Con
set_option maxHeartbeats 400000
def mD(x:Int):Prop:=-9223372036854775808<=x/\x<=9223372036854775807
theorem NH{x:Int}(h:mD x):(Lit.int .i64 x).wf=dE:=WalkArith.wf_i64 h
structure vO(y:cF):Prop where
 a0:mD y.slot
 a1:mD y.bG.1
 a2:mD y.bG.2
 a3:mD y.cW.kind
 a4:mD y.cW.bD
 a5:mD y.cW.seq
 a6:mD y.cW.name
 a7:mD y.cW.value
theorem Cj:prog.cellsOf 3=1:=by kernel_rfl
theorem Im:prog.cellsOf 73=2:=by kernel_rfl
theorem Il:prog.cellsOf 54=5:=by kernel_rfl
theorem Me:prog.cellsOf 109=8:=by kernel_rfl
theorem iL(d:Nat){x:Int}(h:mD x):prog.keyLits (d+1) 3 [.int .i64 x]=de [.int .i64 x]:=by
 unfold Program.keyLits;rw[Tryz.underlying3];simp[NH h]
theorem pV(d:Nat){a b:Int}(c:mD a)(hb:mD b):prog.keyLits (d+1+1) 73 [.int .i64 a,.int .i64 b]=de [.int .i64 a,.int .i64 b]:=by
 unfold Program.keyLits;rw[Tryz.underlying73];simp[Cj,Im,iL d c,iL d hb]
theorem pU(d:Nat){c:bk}(h3:mD c.kind)(h4:mD c.bD)(h5:mD c.seq)(h6:mD c.name)(a:mD c.value):prog.keyLits (d+1+1) 54 [.int .i64 c.kind,.int .i64 c.bD,.int .i64 c.seq,.int .i64 c.name,.int .i64 c.value]=de [.int .i64 c.kind,.int .i64 c.bD,.int .i64 c.seq,.int .i64 c.name,.int .i64 c.value]:=by
 unfold Program.keyLits;rw[Tryz.underlying54];simp[Cj,Il,iL d h3,iL d h4,iL d h5,iL d h6,iL d a]
theorem si(d:Nat){y:cF}(h:vO y):prog.keyLits (d+1+1+1) 109 (aS y)=de [.int .i64 y.slot,.int .i64 y.bG.1,.int .i64 y.bG.2,.int .i64 y.cW.kind,.int .i64 y.cW.bD,.int .i64 y.cW.seq,.int .i64 y.cW.name,.int .i64 y.cW.value]:=by
 unfold Program.keyLits;rw[Tryz.underlying109];simp[aS,Cj,Im,Il,Me,iL (d+1) h.a0,pV d h.a1 h.a2,pU d h.a3 h.a4 h.a5 h.a6 h.a7]
theorem Lb{x y:cF}(hx:vO x)(hy:vO y)(W:ax):(binOp BinOp.eql 109 (qq x) (qq y)).run ed W= .ok (.bool (decide (x=y))) W:=by
 have h0:EqAt ed 10000 109:=run_equalIn_deep 9994 6 109 (by kernel_rfl);obtain⟨r,h1,h2⟩:=h0 W _ _ (qq x) (qq y) _ _ (by kernel_rfl) (by kernel_rfl) (si 0 hx) (si 0 hy);have h3:(Op.equal 109 (qq x) (qq y)).run ed W= .ok r W:=h1;have h4:r=decide (x=y):=by
  have e:(x=y)<->r=dE:=by
   rw[h2];obtain⟨a0,⟨a1,a2⟩,⟨a3,a4,a5,a6,a7⟩⟩:=x;obtain⟨b,⟨b1,b2⟩,⟨j,l,m,n,u⟩⟩:=y;simp[and_assoc]
  cases r with
  |true=>exact(fG (e.2 rfl)).symm
  |false=>exact(gE (λh=>by have:=e.1 h;cases this)).symm
 rw[<-h4];unfold qq at h3|-;simp[binOp,go_sem,h3]
theorem Lc{a1 a2 b1 b2:Int}(h1:mD a1)(h2:mD a2)(h3:mD b1)(h4:mD b2)(W:ax):(binOp BinOp.eql 73 (.agg #[a1,a2]) (.agg #[b1,b2])).run ed W= .ok (.bool (decide ((a1,a2)=(b1,b2)))) W:=by
 have h0:EqAt ed 10000 73:=run_equalIn_deep 9994 6 73 (by kernel_rfl);obtain⟨r,g1,g2⟩:=h0 W _ _ (.agg #[a1,a2]) (.agg #[b1,b2]) _ _ (by kernel_rfl) (by kernel_rfl) (pV 0 h1 h2) (pV 0 h3 h4);have a:(Op.equal 73 (.agg #[a1,a2]) (.agg #[b1,b2])).run ed W= .ok r W:=g1;have b:r=decide ((a1,a2)=(b1,b2)):=by
  have e:((a1,a2)=(b1,b2))<->r=dE:=by
   rw[g2];simp
  cases r with
  |true=>exact(fG (e.2 rfl)).symm
  |false=>exact(gE (λh=>by have:=e.1 h;cases this)).symm
 rw[<-b];simp[binOp,go_sem,a]
theorem oW{b1 b2:Int}(h:okB (b1,b2)=dE):mD b1/\mD b2:=by
 unfold okB at h;simp only[aP,ap]at h;unfold mD;omega
theorem tC{a b:Int}{l:List cF}(h:kf (a,b) l=dE):mD a/\mD b:=by
 unfold kf at h;rw[aP,dS]at h;rcases h.1 with h|h
 ·rw[ap]at h;injection h with h1 h2;subst h1 h2;unfold mD;omega
 ·exact oW h
end Go.Proofs.YtcdmenphjilnnaaGreatDoor
namespace Go.Con.Pol
set_option maxHeartbeats 8000000
def part(f:Nat->Nat):Nat->Nat
 |0=>0
 |k+1=>part f k+f k*2^(26*k)
theorem uB:∀(n T:Nat),qU (n+1) T=qU n T++[UInt8.ofNat (T/256^n)]
 |0,T=>by simp[qU]
 |n+1,T=>by
  rw[qU,uB n (T/256),qU,List.cons_append,Nat.div_div_eq_div_mul,mu,eJ 256]
theorem rj(n k:Nat)(h:8*n<=26*k):2^(26*k)=256^n*2^(26*k-8*n):=by
 rw[show(256:Nat)=2^8 from rfl,<-Nat.pow_mul,<-Nat.pow_add];congr 1;omega
theorem JL(T x n k:Nat)(h:8*n<=26*k):(T+x*2^(26*k))/256^n=T/256^n+x*2^(26*k-8*n):=by
 rw[rj n k h,show x*(256^n*2^(26*k-8*n))=256^n*(x*2^(26*k-8*n)) by rw[Nat.mul_left_comm]];exact Nat.add_mul_div_left _ _ (Nat.pow_pos (by decide))
theorem JO(T x n k:Nat)(h:8*n<=26*k):qU n (T+x*2^(26*k))=qU n T:=by
 rw[<-xW n (T+_),<-xW n T,rj n k h,show x*(256^n*2^(26*k-8*n))=256^n*(x*2^(26*k-8*n)) by rw[Nat.mul_left_comm],Nat.add_mul_mod_self_left]
theorem ua(f:Nat->Nat)(a:∀j,f j<=134221824):∀k,part f k<4*2^(26*k)
 |0=>by simp[part]
 |k+1=>by
  have b:=ua f a k;have h2:2^(26*(k+1))=67108864*2^(26*k):=by rw[show 26*(k+1)=26+26*k by omega,Nat.pow_add]
  have hm:f k*2^(26*k)<=134221824*2^(26*k):=gq _ (a k);rw[part,h2];omega
theorem pT(f:Nat->Nat)(a:∀j,f j<=134221824)(k n:Nat)(h:8*n<=26*k):part f k/256^n<4*2^(26*k-8*n):=by
 rw[Nat.div_lt_iff_lt_mul (Nat.pow_pos (by decide))];have hb:=ua f a k;rw[rj n k h]at hb;rw[Nat.mul_assoc,eJ (2^_)];exact hb
def pre(g:Nat->Nat):Nat->Nat
 |0=>0
 |k+1=>pre g k+g k*256^k
end Go.Con.Pol
namespace Go.Con
set_option maxHeartbeats 400000
structure yJ(V:Type) where
 h:Nat->Nat->Option V
 p:Nat->Nat
 v:Nat->Option V
def II(Q:List Nat):Prop:=Q.Nodup/\(∀a∈Q,a<5)/\5<2*Q.length
theorem nU:∀(n:Nat) (l:List Nat),l.Nodup->(∀a∈l,a<n)->l.length<=n
 |0,l,_,h=>by
  cases l with
  |nil=>exact ag _
  |cons a l=>exact absurd (h a (bO ..)) (lu _)
 |n+1,l,c,h=>by
  by_cases hm:n∈l
  ·have h1:=nU n (l.erase n) (c.erase n) (λa b=>by
    have h2:=(c.mem_erase_iff).1 b;have h3:=h a h2.2;have h4:=h2.1;omega)
   rw[qp hm]at h1;omega
  ·have h1:=nU n l c (λa b=>by
    have h3:=h a b;have h4:a≠n:=λe=>hm (e▸b);omega)
   omega
theorem uv{Q R:List Nat}(hq:II Q)(hr:II R):∃a,a∈Q/\a∈R:=by
 rcases Classical.em (∃a,a∈Q/\a∈R)with h|h
 ·exact h
 ·exfalso;have d:(Q++R).Nodup:=mw.2 ⟨hq.1,hr.1,λa c b hb e=>h ⟨a,c,e▸hb⟩⟩;have:=nU 5 (Q++R) d (λa c=>by
   rcases dR.1 c with h|h
   ·exact hq.2.1 a h
   ·exact hr.2.1 a h)
  simp at this;have h1:=hq.2.2;have h2:=hr.2.2;omega
def yJ.Safe{V:Type}(s:yJ V)(b:Nat)(v:V):Prop:=∀c,c<b->s.v c=de v\/∃Q,II Q/\∀a∈Q,s.h a c=dl/\c<s.p a
structure yJ.Ok{V:Type}(s:yJ V):Prop where
 val:∀a b x,s.h a b=de x->s.v b=de x
 low:∀a b x,s.h a b=de x->b<=s.p a
 safe:∀b x,s.v b=de x->s.Safe b x
theorem yJ.Ok.one{V:Type}{s:yJ V}(h:s.Ok){b d:Nat}{x f:V}{Q Q':List Nat}(hq:II Q)(g:II Q')(h1:∀a∈Q,s.h a b=de x)(h2:∀a∈Q',s.h a d=de f):x=f:=by
 have key:∀{b d:Nat} {x f:V} {Q Q':List Nat},II Q->II Q'->(∀a∈Q,s.h a b=de x)->(∀a∈Q',s.h a d=de f)->d<b->f=x:=by
  intro b d x f Q Q' hq g h1 h2 hb;rcases Classical.em (f=x)with e|e
  ·exact e
  ·exfalso;obtain⟨a,i,j⟩:=uv hq g;rcases h.safe b x (h.val a b x (h1 a i)) d hb with h3|⟨R,k,l⟩
   ·rw[h.val a d f (h2 a j)]at h3;injection h3 with h3;exact e h3
   ·obtain⟨c,hc,m⟩:=uv k g;have:=(l c hc).1;rw[h2 c m]at this;cases this
 rcases Nat.lt_trichotomy b d with hb|hb|hb
 ·exact key g hq h2 h1 hb
 ·subst hb;obtain⟨a,i,j⟩:=uv hq g;have e:=h1 a i;rw[h2 a j]at e;injection e with e;exact e.symm
 ·exact(key hq g h1 h2 hb).symm
theorem yJ.Ok.raise{V:Type}{s:yJ V}(h:s.Ok)(a b:Nat)(hb:s.p a<=b):yJ.Ok {s with p:=λc=>if c=a then b else s.p c}:=by
 have hp:∀c,s.p c<=(λc=>if c=a then b else s.p c) c:=λc=>by
  show s.p c<=if c=a then b else s.p c
  split
  ·rename_i e;rw[e];exact hb
  ·exact ag _
 refine⟨h.val,λc d x hx=>aE (h.low c d x hx) (hp c),λd x hx d' h1=>?_⟩;rcases h.safe d x hx d' h1 with h2|⟨Q,g,f⟩
 ·exact .inl h2
 ·exact .inr ⟨Q,g,λc hc=>⟨(f c hc).1,ai (f c hc).2 (hp c)⟩⟩
theorem yJ.Ok.cP{V:Type}{s:yJ V}(h:s.Ok)(a b:Nat)(x:V)(hv:s.v b=de x)(hb:s.p a<=b):yJ.Ok {s with h:=λc d=>if c=a/\d=b then de x else s.h c d,p:=λc=>if c=a then b else s.p c}:=by
 have hp:∀c,s.p c<=(if c=a then b else s.p c):=λc=>by
  split
  ·rename_i e;rw[e];exact hb
  ·exact ag _
 refine⟨λc d y hy=>?_,λc d y hy=>?_,λd y hy d' h1=>?_⟩
 ·have hy:(if c=a/\d=b then de x else s.h c d)=de y:=hy;show s.v d=de y;split at hy
  ·rename_i e;rw[e.2,hv];exact hy
  ·exact h.val c d y hy
 ·have hy:(if c=a/\d=b then de x else s.h c d)=de y:=hy;show d<=if c=a then b else s.p c
  split at hy
  ·rename_i e;rw[ar e.1,e.2];exact ag _
  ·exact aE (h.low c d y hy) (hp c)
 ·rcases h.safe d y hy d' h1 with h2|⟨Q,g,f⟩
  ·exact .inl h2
  ·refine .inr ⟨Q,g,λc hc=>⟨?_,ai (f c hc).2 (hp c)⟩⟩;show(if c=a/\d'=b then de x else s.h c d')=dl;split
   ·rename_i e;have:=(f c hc).2;rw[e.1,e.2]at this;omega
   ·exact(f c hc).1
theorem yJ.Ok.ask{V:Type}{s:yJ V}(h:s.Ok)(b:Nat)(x:V)(a:s.v b=dl)(hs:s.Safe b x):yJ.Ok {s with v:=λd=>if d=b then de x else s.v d}:=by
 have keep:∀d y,s.v d=de y->(if d=b then de x else s.v d)=de y:=λd y hy=>by
  split
  ·rename_i e;rw[e,a]at hy;cases hy
  ·exact hy
 refine⟨λc d y hy=>keep d y (h.val c d y hy),h.low,λd y hy d' h1=>?_⟩;have hy:(if d=b then de x else s.v d)=de y:=hy;have hS:s.Safe d y:=by
  split at hy
  ·rename_i e;injection hy with hy;rw[e,<-hy];exact hs
  ·exact h.safe d y hy
 rcases hS d' h1 with h2|h2
 ·exact .inl (keep d' y h2)
 ·exact .inr h2
theorem yJ.Ok.told{V:Type}{s:yJ V}(h:s.Ok)(b:Nat)(Q:List Nat)(f:II Q)(hp:∀a∈Q,b<=s.p a)(x:V)(hx:(∀a∈Q,∀d,d<b->s.h a d=dl)\/∃m,m<b/\s.v m=de x/\∀a∈Q,∀d,m<d->d<b->s.h a d=dl):s.Safe b x:=by
 intro e hb;rcases hx with hx|⟨m,hm,hv,hx⟩
 ·exact .inr ⟨Q,f,λa c=>⟨hx a c e hb,ai hb (hp a c)⟩⟩
 ·rcases Nat.lt_trichotomy e m with h1|h1|h1
  ·exact h.safe m x hv e h1
  ·rw[h1];exact .inl hv
  ·exact .inr ⟨Q,f,λa c=>⟨hx a c e h1 hb,ai hb (hp a c)⟩⟩
set_option maxHeartbeats 8000000
def qH(b:UInt8):List UInt8:=Sha.draw [b] [99,108,105,101,110,116] [] 32
def vJ:List UInt8:=Sha.draw [255] [105,115,115,117,101,114] [] 32
theorem iM(b:UInt8):(qH b).length=32:=Sha.ss _ _ _ _
theorem zO:vJ.length=32:=Sha.ss _ _ _ _
end Go.Con
namespace Go.Proofs.YtcdmenphjilnnaaGreatDoor
open Go.ChangeShapes Go.WideShapes Go.ChangeAt Go.RowKit Go.Con Go.Deep
set_option maxHeartbeats 8000000
section
variable{H:Type}{fS:TypeId×bd->H}{W:ax}{base b0:Nat}
end
end Go.Proofs.YtcdmenphjilnnaaGreatDoor
namespace Go.Con
set_option maxHeartbeats 8000000
theorem sI(c:Char)(r:List Char)(h:c≠Char.ofNat 32):wordsSigns (c::r)=match wordsSigns r with|w::ws=>(c::w)::ws|[]=>[[c]]:=by
 rw[wordsSigns]
 ·rfl
 ·exact h
theorem kX(w:List Char)(r:List Char)(h:∀c∈w,c≠Char.ofNat 32):wordsSigns (w++Char.ofNat 32::r)=w::wordsSigns r:=by
 induction w with
 |nil=>rfl
 |cons c w ih=>
  rw[List.cons_append,sI c _ (h c (by simp)),ih (λd hd=>h d (by simp[hd]))]
theorem DJ{s:List Char}(h:isSumSigns s=dE):∀c∈s,c≠Char.ofNat 32:=by
 intro c hc e
 unfold isSumSigns at h
 rw[aP]at h
 have h1:=gR.1 h.2 c hc
 subst e
 exact absurd h1 (by decide)
theorem Ha(P:Program)(c0 c1 c2 c3 c4 c5 c6 c7 c8 c9 c10 c11 c12 c13 c14 c15 c16 c17 c18 c19 c20 c21 c22 c23 c24 c25 c26 c27 c28 c29 c30 c31 c32 c33 c34 c35 c36 c37 c38 c39 c40 c41 c42 c43 c44 c45 c46 c47 c48 c49 c50 c51 c52 c53 c54 c55 c56 c57 c58 c59 c60 c61 c62 c63:Char)(R:List Char)(h:P.initOrder=String.ofList (Char.ofNat 104::Char.ofNat 97::Char.ofNat 114::Char.ofNat 110::Char.ofNat 101::Char.ofNat 115::Char.ofNat 115::Char.ofNat 32::c0::c1::c2::c3::c4::c5::c6::c7::c8::c9::c10::c11::c12::c13::c14::c15::c16::c17::c18::c19::c20::c21::c22::c23::c24::c25::c26::c27::c28::c29::c30::c31::c32::c33::c34::c35::c36::c37::c38::c39::c40::c41::c42::c43::c44::c45::c46::c47::c48::c49::c50::c51::c52::c53::c54::c55::c56::c57::c58::c59::c60::c61::c62::c63::Char.ofNat 32::Char.ofNat 99::Char.ofNat 117::Char.ofNat 116::Char.ofNat 32::R))(hs:isSumSigns [c0,c1,c2,c3,c4,c5,c6,c7,c8,c9,c10,c11,c12,c13,c14,c15,c16,c17,c18,c19,c20,c21,c22,c23,c24,c25,c26,c27,c28,c29,c30,c31,c32,c33,c34,c35,c36,c37,c38,c39,c40,c41,c42,c43,c44,c45,c46,c47,c48,c49,c50,c51,c52,c53,c54,c55,c56,c57,c58,c59,c60,c61,c62,c63]=dE):
  behindMainWord (wordsSigns P.initOrder.toList)= "cut".toList::wordsSigns R:=by
 rw[h,String.toList_ofList]
 have e1:wordsSigns (Char.ofNat 104::Char.ofNat 97::Char.ofNat 114::Char.ofNat 110::Char.ofNat 101::Char.ofNat 115::Char.ofNat 115::Char.ofNat 32::c0::c1::c2::c3::c4::c5::c6::c7::c8::c9::c10::c11::c12::c13::c14::c15::c16::c17::c18::c19::c20::c21::c22::c23::c24::c25::c26::c27::c28::c29::c30::c31::c32::c33::c34::c35::c36::c37::c38::c39::c40::c41::c42::c43::c44::c45::c46::c47::c48::c49::c50::c51::c52::c53::c54::c55::c56::c57::c58::c59::c60::c61::c62::c63::Char.ofNat 32::Char.ofNat 99::Char.ofNat 117::Char.ofNat 116::Char.ofNat 32::R)=[Char.ofNat 104,Char.ofNat 97,Char.ofNat 114,Char.ofNat 110,Char.ofNat 101,Char.ofNat 115,Char.ofNat 115]::wordsSigns (c0::c1::c2::c3::c4::c5::c6::c7::c8::c9::c10::c11::c12::c13::c14::c15::c16::c17::c18::c19::c20::c21::c22::c23::c24::c25::c26::c27::c28::c29::c30::c31::c32::c33::c34::c35::c36::c37::c38::c39::c40::c41::c42::c43::c44::c45::c46::c47::c48::c49::c50::c51::c52::c53::c54::c55::c56::c57::c58::c59::c60::c61::c62::c63::Char.ofNat 32::Char.ofNat 99::Char.ofNat 117::Char.ofNat 116::Char.ofNat 32::R):=
  kX [Char.ofNat 104,Char.ofNat 97,Char.ofNat 114,Char.ofNat 110,Char.ofNat 101,Char.ofNat 115,Char.ofNat 115] _ (by decide)
 have e2:wordsSigns (c0::c1::c2::c3::c4::c5::c6::c7::c8::c9::c10::c11::c12::c13::c14::c15::c16::c17::c18::c19::c20::c21::c22::c23::c24::c25::c26::c27::c28::c29::c30::c31::c32::c33::c34::c35::c36::c37::c38::c39::c40::c41::c42::c43::c44::c45::c46::c47::c48::c49::c50::c51::c52::c53::c54::c55::c56::c57::c58::c59::c60::c61::c62::c63::Char.ofNat 32::Char.ofNat 99::Char.ofNat 117::Char.ofNat 116::Char.ofNat 32::R)=[c0,c1,c2,c3,c4,c5,c6,c7,c8,c9,c10,c11,c12,c13,c14,c15,c16,c17,c18,c19,c20,c21,c22,c23,c24,c25,c26,c27,c28,c29,c30,c31,c32,c33,c34,c35,c36,c37,c38,c39,c40,c41,c42,c43,c44,c45,c46,c47,c48,c49,c50,c51,c52,c53,c54,c55,c56,c57,c58,c59,c60,c61,c62,c63]::wordsSigns (Char.ofNat 99::Char.ofNat 117::Char.ofNat 116::Char.ofNat 32::R):=
  kX [c0,c1,c2,c3,c4,c5,c6,c7,c8,c9,c10,c11,c12,c13,c14,c15,c16,c17,c18,c19,c20,c21,c22,c23,c24,c25,c26,c27,c28,c29,c30,c31,c32,c33,c34,c35,c36,c37,c38,c39,c40,c41,c42,c43,c44,c45,c46,c47,c48,c49,c50,c51,c52,c53,c54,c55,c56,c57,c58,c59,c60,c61,c62,c63] _ (DJ hs)
 have e3:wordsSigns (Char.ofNat 99::Char.ofNat 117::Char.ofNat 116::Char.ofNat 32::R)=[Char.ofNat 99,Char.ofNat 117,Char.ofNat 116]::wordsSigns R:=kX [Char.ofNat 99,Char.ofNat 117,Char.ofNat 116] _ (by decide)
 rw[e1,e2,e3]
 have hh:([Char.ofNat 104,Char.ofNat 97,Char.ofNat 114,Char.ofNat 110,Char.ofNat 101,Char.ofNat 115,Char.ofNat 115]== "harness".toList)=dE:=by decide
 show(if(([Char.ofNat 104,Char.ofNat 97,Char.ofNat 114,Char.ofNat 110,Char.ofNat 101,Char.ofNat 115,Char.ofNat 115]== "harness".toList||[Char.ofNat 104,Char.ofNat 97,Char.ofNat 114,Char.ofNat 110,Char.ofNat 101,Char.ofNat 115,Char.ofNat 115]== "ownmain".toList)&&isSumSigns [c0,c1,c2,c3,c4,c5,c6,c7,c8,c9,c10,c11,c12,c13,c14,c15,c16,c17,c18,c19,c20,c21,c22,c23,c24,c25,c26,c27,c28,c29,c30,c31,c32,c33,c34,c35,c36,c37,c38,c39,c40,c41,c42,c43,c44,c45,c46,c47,c48,c49,c50,c51,c52,c53,c54,c55,c56,c57,c58,c59,c60,c61,c62,c63])=dE then _ else _)=_
 rw[hh,hs]
 rfl
theorem LL{P:Program}{X:List (List Char)}(h:behindMainWord (wordsSigns P.initOrder.toList)= "cut".toList::X)(h1:P.laysLater=dT)(h2:P.bearsReflect=dT)(h3:P.doorFits []=dE):P.mayEnter=dE:=by
 have e:stripLifts liftWords ("cut".toList::X)=([],"cut".toList::X):=rfl
 have e0:(de "cut".toList==de "cut".toList)=dE:=by decide
 unfold Program.mayEnter
 rw[h]
 dsimp only
 rw[e]
 simp[h1,h2,h3]
theorem GI{P:Program}{X:List (List Char)}(h:behindMainWord (wordsSigns P.initOrder.toList)= "cut".toList::X):P.liftsFinal=dT:=by
 have e:stripLifts liftWords ("cut".toList::X)=([],"cut".toList::X):=rfl
 have e0:(de "cut".toList==de "carried".toList)=dT:=by decide
 have e1:P.headLifts=[]:=by
  unfold Program.headLifts
  rw[h]
  dsimp only
  rw[e]
  simp
 unfold Program.liftsFinal
 rw[h,e1]
 simp
theorem JJ{P:Program}{X:List (List Char)}(h:behindMainWord (wordsSigns P.initOrder.toList)= "cut".toList::X):P.make=de .cut:=by
 have e1:("cut".toList== "gc".toList|| "cut".toList== "spec".toList)=dT:=by decide
 unfold Program.make
 rw[h]
 dsimp only
 rw[e1]
 simp
end Go.Con
namespace Go.Proofs.YtcdmenphjilnnaaGreatDoor
open Go.RowKit Go.Con
set_option maxHeartbeats 8000000
theorem xZ:∃X,behindMainWord (wordsSigns prog.initOrder.toList)= "cut".toList::X:=
 ⟨_,Ha ed _ _ _ _ _ _ _ _ _ _ _ _ _ _ _ _ _ _ _ _ _ _ _ _ _ _ _ _ _ _ _ _ _ _ _ _ _ _ _ _ _ _ _ _ _ _ _ _ _ _ _ _ _ _ _ _ _ _ _ _ _ _ _ _ _ rfl (by as_aux_lemma=>kernel_rfl)⟩
theorem may:prog.mayEnter=dE:=by
 obtain⟨X,h⟩:=xZ
 exact LL h (by as_aux_lemma=>kernel_rfl) (by as_aux_lemma=>kernel_rfl) (by as_aux_lemma=>kernel_rfl)
theorem Ni:prog.liftsFinal=dT:=by
 obtain⟨X,h⟩:=xZ
 exact GI h
theorem LM:prog.make=de .cut:=by
 obtain⟨X,h⟩:=xZ
 exact JJ h
set_option maxHeartbeats 400000
theorem Gw:(Rows.laid_conclave_order_need:DataW Unit)=Lib.tabData .i64 [0,2,1,4]:=by kernel_rfl
theorem xO{W:ax}{rest:List (String×DataW Unit)}(hp:laidMet ed (("conclave/order.need",Rows.laid_conclave_order_need)::rest) W):Nd W:=by
 rw[Gw]at hp;have hg:prog.globalNamed "conclave/order.need" =de 0:=by kernel_rfl
 have a:=Lib.tabIs_of_head (t:=183) (e:=3) (n:=4) hg (by kernel_rfl) Tryz.underlying183 Tryz.underlying3 (by kernel_rfl) (by kernel_rfl) hp;intro i hi;have:=a.cell hg i (by simpa using hi);rw[this];have h4:i=0\/i=1\/i=2\/i=3:=by omega
 rcases h4 with rfl|rfl|rfl|rfl<;>rfl
end Go.Proofs.YtcdmenphjilnnaaGreatDoor
