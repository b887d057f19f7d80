/-
  Parts of the proofs of the laws of the whole (what the functions compute, and plain laws of it); no conditions.
-/
import Derived.Test.YtcdmenphjilnnaaGreatDoorM6
import Derived.Test.YtcdmenphjilnnaaGreatDoorM7
import Derived.Test.YtcdmenphjilnnaaGreatDoorM8
set_option linter.unusedVariables false
set_option linter.unusedSimpArgs false
set_option maxRecDepth 100000
set_option maxHeartbeats 1000000
open Go.Proofs.Tryz
open Go renaming World->ax,Value->bd,Calls->bl
open Go.RowKit renaming Below->dd
open Option renaming some->de,none->dl
open Bool renaming true->dE,false->dT
open Go.Proofs.Tryz renaming prog->ed
namespace Go.Proofs.YtcdmenphjilnnaaGreatDoor
open Go.RowKit Go.Con
theorem Dm{w a:ax}{A B C:Obj}(h:((w.alloc A).alloc B).alloc C=a):a.heap[w.heap.size]?=de A/\a.heap[w.heap.size+1]?=de B/\a.heap[w.heap.size+1+1]?=de C/\dd w.heap.size w a:=by
 subst h;have e:((w.alloc A).alloc B).heap.size=w.heap.size+1+1:=by simp
 refine⟨(bC _ _ _ (by simp;omega)).t (gT w A B),(bC _ _ _ (by simp)).t (gl w A B),?_,(((aj _ _).alloc (ag _) _).alloc (by simp) _).alloc (by simp;omega) _⟩;rw[<-e];exact aL _ _
theorem CY(W:ax)(a:List Int)(n:Nat)(b:n=a.length)(hm:n<=maxLen)(hb:∀i,i<a.length->-9223372036854775808<=a.getD i 0/\a.getD i 0<=9223372036854775807):
  jV (W.alloc (.cells (a.map (Value.int .i64)).toArray 3)) (.slice (W.heap.size,0) n n) a:=by
 subst b;refine⟨_,_,rfl,ag _,hm,hb,λ_=>⟨_,_,rfl,λi hi=>?_⟩⟩;rw[ca];refine ej (aL W _) i ?_;simp[hi]
theorem Ls(r q:Int)(hr:0<=r)(hq:0<=q):∀i,i<[r,q].length->0<=[r,q].getD i 0:=by
 intro i hi;have hc:i=0\/i=1:=by simp at hi;omega
 rcases hc with rfl|rfl<;>simp<;>omega
theorem Lt(r q:Int)(hr:0<=r/\r<=65536)(hq:0<=q/\q<=65536):∀i,i<[r,q].length->-9223372036854775808<=[r,q].getD i 0/\[r,q].getD i 0<=9223372036854775807:=by
 intro i hi;have hc:i=0\/i=1:=by simp at hi;omega
 rcases hc with rfl|rfl<;>simp<;>omega
theorem qE{w:ax}{o:Obj}{k:Nat}(h:k<w.heap.size):k<(w.alloc o).heap.size:=by simp;omega
abbrev SP(w:ax)(tb a:Nat)(v:bd)(s r q:Int):Prop:=w.cell? (tb,0)=de v/\w.cell? (tb,1)=s/\w.cell? (a,0)=r/\w.cell? (a,1)=q
theorem SP.stay{w w':ax}{tb a:Nat}{v:bd}{s r q:Int}(h:SP w tb a v s r q)(h1:tb<w.heap.size)(h2:a<w.heap.size)(hb:dd w.heap.size w w'):SP w' tb a v s r q:=
 ⟨(hb.cell (p:=(tb,0)) h1).t h.1,(hb.cell (p:=(tb,1)) h1).t h.2.1,(hb.cell (p:=(a,0)) h2).t h.2.2.1,(hb.cell (p:=(a,1)) h2).t h.2.2.2⟩
theorem SP.set{w:ax}{tb c a:Nat}{v v0 v1:bd}{s r q:Int}(h1:tb≠a)(h2:c≠a)(h:SP w tb c v s r q):SP ((w.setCell (a,0) v0).setCell (a,1) v1) tb c v s r q:=by
 have e:∀b,b≠a->((w.setCell (a,0) v0).setCell (a,1) v1).heap[b]?=w.heap[b]?:=λb d=>(aA 1 v1 d).t (aA 0 v0 d);exact⟨(aw (w:=w) (e tb h1)).t h.1,(aw (w:=w) (e tb h1)).t h.2.1,(aw (w:=w) (e c h2)).t h.2.2.1,(aw (w:=w) (e c h2)).t h.2.2.2⟩
theorem SP.alloc{w:ax}{tb a:Nat}{v:bd}{s r q:Int}(h:SP w tb a v s r q)(h1:tb<w.heap.size)(h2:a<w.heap.size)(o:Obj):SP (w.alloc o) tb a v s r q:=h.stay h1 h2 ((aj _ _).alloc (ag _) o)
theorem SP.drew{w:ax}{tb a:Nat}{v:bd}{s r q:Int}(h:SP w tb a v s r q):SP w.drew tb a v s r q:=h
def Tp.iJ(r n:Int):List UInt8:=1::gH [r,n]
theorem ny(r n:Int):(Tp.iJ r n).length=9:=by rw[Tp.iJ,aZ,gU];rfl
theorem vW(w:ax):fz w (.slice dl 0 0) []:=⟨⟨dl,0,rfl,ag _,bX _,λh=>absurd rfl h⟩,.inl rfl⟩
theorem xe{r n:Int}(h:okB (r,n)=dE):0<=dX (r,n) (0,0):=by
 have:1<=r:=by simp[okB]at h;omega
 have e:mC r 0=1:=by unfold mC;split<;>(try split)<;>omega
 unfold dX;simp only[e];simp
theorem qx(v:bd)(l:List UInt8)(s r q:Int)(w:ax)(hv:Rd w v l)(h0:0<=s)(h1:s<=l.length)(h3:l.length<=100000)(hq:okB (r,q)=dE)(hk:Kn w):
  bl ed 100 #[.agg #[v,s],.agg #[r,q]] w (mm w (IV l (Tp.iJ r q)) (IU l (Tp.iJ r q) s) (IW l (Tp.iJ r q))):=by
 obtain⟨a,c,rfl,hc,e5⟩:=id hv.slice;obtain⟨n,hn⟩:=aK l.length;have f0:(1<=r/\r<=65536)/\(0<=q/\q<5):=by simp[okB]at hq;omega
 obtain⟨⟨f6,f7⟩,e9,f5⟩:=f0;have b5:=ae (λw h=>oV (.slice a l.length c) l s w h h0 h1 (by omega));have a7:=λvb w h hb hk=>vT (.slice a l.length c) vb l (Tp.iJ r q) s w h hb h0 h1 (by rw[ny];decide) h3 hk;obtain⟨L9,c3⟩:=aK (IV l (Tp.iJ r q));obtain⟨D,c4⟩:=aK (IU l (Tp.iJ r q) s);obtain⟨C9,b9⟩:=aK (IW l (Tp.iJ r q));rw[<-c3,<-c4,<-b9]at a7|-;obtain⟨k9,u⟩:=aK L9.length;have d2:=ae u.symm;have b7:=ae a7;clear a7 c3 c4 b9 u;have d3:=ae (λw=>og 0 0 r q (.slice dl 0 0) [] w (vW w) (by decide) hq (by decide) (ae (xe hq)));have a0:=ae (λv w h=>wU v [r,q] w h (Ls r q (by omega) e9) (by show 2<=100;decide));have a3:=ae (λW=>CY W [r,q] 2 rfl (by show 2<=maxLen;decide) (Lt r q (by omega) (by omega)));rw[<-hn]at hv h1 h3 hc b5 b7|-;have HV:=ae hv;have HN:=ae hn;have HK:=ae hk;have m:=ae ((((aj w.heap.size w).alloc (ag _) (.cells #[.slice a n c,s] 71)).alloc (by simp) (.cells #[r,q] 73)).alloc (by simp;omega) (.cells #[.slice dl 0 0,(0:Int)] 71));clear hv hn hk hc e5 hq;go_enter func100,ntmps100
 go_upto_region 1 with fail
 generalize t:World.alloc _ _=J at m|-;obtain⟨X,Z,Y,_⟩:=Dm t;have c9:J.heap.size=w.heap.size+1+1+1:=by rw[<-t];simp
 have HZ:=ae c9;have c0:=ej X 0 rfl;have c1:=ej X 1 rfl;have e0:=ej Z 0 rfl;have e1:=ej Z 1 rfl;have b6:=ae (HV.o.below m.o HV.o.lt);have HX:=ae X;have HY:=ae Y;have M:=ae Z;clear t c9 X Y Z;go_upto_region 2 with(go_at_call 58;refine(b5.o _ b6.o).m ?_;rintro e w2 ⟨v2,rfl,c7,g⟩;obtain⟨sa,sc,rfl,_,_⟩:=c7.rd.fB n HN.o.symm;have B2:=ae g;clear c7 g)
 have R:dd J.heap.size J (w2.alloc (.cells #[.slice sa n sc,s] 71)):=B2.o.alloc B2.o.size _;generalize t:w2.alloc _=w3 at R|-;have V:=(R.block _ (hF M.o)).t M.o;have e3:=ej V 0 rfl;have e4:=ej V 1 rfl;have L:=ae R;have Z3:=ae V;clear t R V B2 e0 e1 c0 c1;go_upto_region 5 with(go_at_call 86;refine(d3.o _).m ?_;rintro e w4 ⟨a1,c1,a2,c2,rfl,e7,e8,c5⟩;have A:=ae c5;clear e7 e8 c5)
 have hb5:dd J.heap.size J (w4.alloc (.cells #[r,q,.slice a1 0 c1] 76)):=(L.o.t (A.o.m L.o.size)).alloc (by have:=L.o.size;have:=A.o.size;omega) _;obtain⟨x5,c8⟩:=aK w4.heap.size;rw[<-c8];generalize t:w4.alloc _=b at hb5|-;have B5:=ae hb5;have z5:=(hb5.block _ (hF M.o)).t M.o;have U:=(hb5.block _ (hF HX.o)).t HX.o;have y5:=(hb5.block _ (hF HY.o)).t HY.o;have O:SP b w.heap.size (w.heap.size+1) (.slice a n c) s r q:=⟨ej U 0 rfl,ej U 1 rfl,ej z5 0 rfl,ej z5 1 rfl⟩
 have i:=hF U;have j:=hF z5;have e6:=hF y5;have d7:=ae (b6.o.stay hb5);have d1:=ae ((HK.o.stay m.o).stay hb5);have d8:=ae y5;clear t hb5 c8 z5 U y5 L A e3 e4 Z3;go_upto_region 7 with fail
 have d9:w.heap.size≠w.heap.size+1+1:=by omega
 have e2:w.heap.size+1≠w.heap.size+1+1:=by omega
 have p:=O;have SX:SP b.drew w.heap.size (w.heap.size+1) (.slice a n c) s r q:=O;have f3:w.heap.size<b.drew.heap.size:=i;have f4:w.heap.size+1<b.drew.heap.size:=j;unfold SP at O;obtain⟨k0,k1,k2,k3⟩:=O;have RA:jV ((b.alloc (.cells #[.int .u8 1] 5)).alloc (.cells #[r,q] 3)).drew (.slice (b.heap.size+1,0) 2 2) [r,q]:=by
  have h:=a3.o (b.alloc (.cells #[.int .u8 1] 5));rw[show(b.alloc (.cells #[.int .u8 1] 5)).heap.size=b.heap.size+1 by simp]at h;exact h
 have RB:jV ((b.alloc (.cells #[r,q] 3)).alloc (.cells #[.int .u8 1] 5)).drew (.slice (b.heap.size,0) 2 2) [r,q]:=
  (show jV ((b.alloc (.cells #[r,q] 3)).alloc (.cells #[.int .u8 1] 5)) _ _ from(a3.o b).stay ((aj _ _).alloc (ag _) _))
 have RC:jV (b.alloc (.cells #[r,q] 3)).drew (.slice (b.heap.size,0) 2 2) [r,q]:=a3.o b;have OA:Own ((b.alloc (.cells #[.int .u8 1] 5)).alloc (.cells #[r,q] 3)).drew b.heap.size (.slice (b.heap.size,0) 1 1) [1]:=(mF b b.heap.size 1 1 rfl (ag _)).alloc _;have OB:Own ((b.alloc (.cells #[r,q] 3)).alloc (.cells #[.int .u8 1] 5)).drew b.heap.size (.slice (b.heap.size+1,0) 1 1) [1]:=by
  have h:=mF (b.alloc (.cells #[r,q] 3)) b.heap.size 1 1 rfl (by simp);rw[show(b.alloc (.cells #[r,q] 3)).heap.size=b.heap.size+1 by simp]at h;exact h
 have BA:dd b.heap.size b ((b.alloc (.cells #[.int .u8 1] 5)).alloc (.cells #[r,q] 3)).drew:=below_drewN (((aj _ _).alloc (ag _) _).alloc (by simp) _) 1;have a8:dd b.heap.size b ((b.alloc (.cells #[r,q] 3)).alloc (.cells #[.int .u8 1] 5)).drew:=below_drewN (((aj _ _).alloc (ag _) _).alloc (by simp) _) 1;have BC:dd b.heap.size b (b.alloc (.cells #[r,q] 3)).drew:=below_drewN ((aj _ _).alloc (ag _) _) 1;have b2:=ae (show([1]:List UInt8).length+(gH [r,q]).length<=140737488355328 by rw[gU];simp);have d4:=ae RA;have d5:=ae RB;have d6:=ae RC;have b3:=ae OA;have b4:=ae OB;have a9:=ae BA;have b0:=ae a8;have b1:=ae BC;clear RA RB RC OA OB BA a8 BC;go_region_held3 (λw'=>w'.cell? (w.heap.size,0)=de (.slice a n c)/\w'.cell? (w.heap.size,1)=s/\w'.cell? (w.heap.size+1,0)=r/\w'.cell? (w.heap.size+1,1)=q) (first|with_reducible exact SX|with_reducible exact SP.drew (p.alloc i j _)|with_reducible exact SP.drew ((p.alloc i j _).alloc (qE i) (qE j) _)|with_reducible exact Q|with_reducible exact Q.alloc a5 a6 _|with_reducible exact S3|with_reducible exact S4|with_reducible exact S4.set d9 e2) (first
  |(go_at_call 125;(with_reducible refine(a0.o _ _ d4.o).m ?_);rintro e v2 ⟨vf,rfl,x,g⟩;have d:dd b.heap.size b v2:=a9.o.t (g.m a9.o.size);have Q:=p.stay i j d;have a5:=ai i d.size;have a6:=ai j d.size;have O1:=ae (b3.o.below g (λk hk=>(b3.o.lt k hk).2));have N:=ae x;have f:=ae d;clear x g d)
  |(go_at_call 125;(with_reducible refine(a0.o _ _ d5.o).m ?_);rintro e v2 ⟨vf,rfl,x,g⟩;have d:dd b.heap.size b v2:=b0.o.t (g.m b0.o.size);have Q:=p.stay i j d;have a5:=ai i d.size;have a6:=ai j d.size;have O1:=ae (b4.o.below g (λk hk=>(b4.o.lt k hk).2));have N:=ae x;have f:=ae d;clear x g d)
  |(go_at_call 125;(with_reducible refine(a0.o _ _ d6.o).m ?_);rintro e v2 ⟨vf,rfl,x,g⟩;have d:dd b.heap.size b v2:=b1.o.t (g.m b1.o.size);have Q:=p.stay i j d;have a5:=ai i d.size;have a6:=ai j d.size;have N:=ae x;have f:=ae d;clear x g d)
  |(refine oC rfl (.tmp 31) (.tmp 37) rfl b.heap.size _ _ [1] (gH [r,q]) rfl O1.o rfl N.o.rd b2.o f.o.size ?_;intro v9 w9 z E;have u:=Kept.ma (B:=b.heap.size) (S:=λ_=>False) E f.o.size (λk hk=>.inl (O1.o.lt k hk).1);have y:dd b.heap.size b w9:=f.o.t (u.below (λ_ _ h=>h));have S3:=p.stay i j y;obtain⟨ga,gc,G,_,_,_,_⟩:=z.shape (by intro h;cases h);have O9:=ae z;have C:=ae y;have F:([1]++gH [r,q]).length=9:=(by simp[gU]);rw[F]at G;subst G;clear z E u y F)
  |(refine oC rfl (.tmp 31) (.tmp 37) rfl b.heap.size _ _ [1] (gH [r,q]) rfl (mF v2 b.heap.size 1 1 rfl f.o.size) rfl (N.o.rd.alloc _) b2.o (f.o.alloc f.o.size _).size ?_;intro v9 w9 z E;have u:=Kept.ma (B:=b.heap.size) (S:=λ_=>False) E (f.o.alloc f.o.size _).size (λk hk=>.inl ((mF v2 b.heap.size 1 1 rfl f.o.size).lt k hk).1);have y:dd b.heap.size b w9:=(f.o.alloc f.o.size _).t (u.below (λ_ _ h=>h));have S3:=p.stay i j y;obtain⟨ga,gc,G,_,_,_,_⟩:=z.shape (by intro h;cases h);have O9:=ae z;have C:=ae y;have F:([1]++gH [r,q]).length=9:=(by simp[gU]);rw[F]at G;subst G;clear z E u y F)
  |(go_at_call 124;refine(b7.o _ _ (d7.o.stay C.o) O9.o.rd (d1.o.stay C.o)).m ?_;rintro e wA ⟨vA,rfl,a4,c6⟩;obtain⟨H,I,rfl,_,_⟩:=a4.rd.fB k9 d2.o;have T:dd b.heap.size b wA:=C.o.t (c6.m C.o.size);have S4:=p.stay i j T;have K:=(T.block (w.heap.size+1+1) e6).t d8.o;have f1:=ej K 0 rfl;have f2:=ej K 1 rfl;have fy:=aO K;have b8:=ae (a4.m (base':=b.heap.size) C.o.size);have YA:=ae K;have d0:=ae T;clear a4 c6 T K))
 all_goals
  go_wp2_with fail
  have z4:=aB (o:=1) (aB (o:=0) YA.o (.slice H k9 I)) D;have A:=ae (show dd w.heap.size w ((wA.setCell (w.heap.size+1+1,0) (.slice H k9 I)).setCell (w.heap.size+1+1,1) D)from(((m.o.t (B5.o.m m.o.size)).t (d0.o.m (m.o.t (B5.o.m m.o.size)).size)).setCell (by show w.heap.size<=w.heap.size+1+1;omega) _).setCell (by show w.heap.size<=w.heap.size+1+1;omega) _);have o4:=(b8.o.m (base':=w.heap.size) (m.o.t (B5.o.m m.o.size)).size).lE (w':=(wA.setCell (w.heap.size+1+1,0) (.slice H k9 I)).setCell (w.heap.size+1+1,1) D) (λk hk=>by
   have h4:=(b8.o.lt k hk).1;exact(aA 1 _ (by omega)).t (aA 0 _ (by omega)))
  generalize t:World.setCell _ _ _=wZ at z4 A o4|-;have hl:=aU (P:=ed) wZ (w.heap.size+1+1) 0 71 [.slice H k9 I,D] _ (bu z4) Tryz.underlying71 rfl mP;exact aH (v:= .tuple #[.agg #[.slice H k9 I,D],C9]) (dC Tryz.results100 rfl hl) rfl ⟨_,rfl,o4,A.o⟩
def Tp.sV(a b c d e f g h:Int):List UInt8:=(2::gH [a,b,c])++pW ⟨d,e,f,g,h⟩
theorem nG(c:bk):(pW c).length=20:=sr c 5
theorem sU(a b c d e f g h:Int):(Tp.sV a b c d e f g h).length=33:=by rw[Tp.sV,aD,aZ,gU,nG];rfl
theorem FI(x r q:Int)(hx:0<=x)(hr:0<=r)(hq:0<=q):∀i,i<[x,r,q].length->0<=[x,r,q].getD i 0:=by
 intro i hi;have hc:i=0\/i=1\/i=2:=by simp at hi;omega
 rcases hc with rfl|rfl|rfl<;>simp<;>omega
theorem FJ(x r q:Int)(hx:0<=x/\x<=65536)(hr:0<=r/\r<=65536)(hq:0<=q/\q<=65536):∀i,i<[x,r,q].length->-9223372036854775808<=[x,r,q].getD i 0/\[x,r,q].getD i 0<=9223372036854775807:=by
 intro i hi;have hc:i=0\/i=1\/i=2:=by simp at hi;omega
 rcases hc with rfl|rfl|rfl<;>simp<;>omega
abbrev SV(w:ax)(tb a:Nat)(v:bd)(s x r q:Int):Prop:=w.cell? (tb,0)=de v/\w.cell? (tb,1)=s/\w.cell? (a,0)=x/\w.cell? (a,1)=r/\w.cell? (a,2)=q
theorem SV.stay{w w':ax}{tb a:Nat}{v:bd}{s x r q:Int}(h:SV w tb a v s x r q)(h1:tb<w.heap.size)(h2:a<w.heap.size)(hb:dd w.heap.size w w'):SV w' tb a v s x r q:=
 ⟨(hb.cell (p:=(tb,0)) h1).t h.1,(hb.cell (p:=(tb,1)) h1).t h.2.1,(hb.cell (p:=(a,0)) h2).t h.2.2.1,(hb.cell (p:=(a,1)) h2).t h.2.2.2.1,(hb.cell (p:=(a,2)) h2).t h.2.2.2.2⟩
theorem SV.set{w:ax}{tb c a:Nat}{v v0 v1:bd}{s x r q:Int}(h1:tb≠a)(h2:c≠a)(h:SV w tb c v s x r q):SV ((w.setCell (a,0) v0).setCell (a,1) v1) tb c v s x r q:=by
 have e:∀b,b≠a->((w.setCell (a,0) v0).setCell (a,1) v1).heap[b]?=w.heap[b]?:=λb d=>(aA 1 v1 d).t (aA 0 v0 d);exact⟨(aw (w:=w) (e tb h1)).t h.1,(aw (w:=w) (e tb h1)).t h.2.1,(aw (w:=w) (e c h2)).t h.2.2.1,(aw (w:=w) (e c h2)).t h.2.2.2.1,(aw (w:=w) (e c h2)).t h.2.2.2.2⟩
theorem SV.alloc{w:ax}{tb a:Nat}{v:bd}{s x r q:Int}(h:SV w tb a v s x r q)(h1:tb<w.heap.size)(h2:a<w.heap.size)(o:Obj):SV (w.alloc o) tb a v s x r q:=h.stay h1 h2 ((aj _ _).alloc (ag _) o)
theorem SV.drew{w:ax}{tb a:Nat}{v:bd}{s x r q:Int}(h:SV w tb a v s x r q):SV w.drew tb a v s x r q:=h
theorem DP(v:bd)(l:List UInt8)(s g d f m p i q r:Int)(w:ax)(hv:Rd w v l)(h0:0<=s)(h1:s<=l.length)(h3:l.length<=100000)(hq:jJ ⟨g,(d,f),⟨m,p,i,q,r⟩⟩=dE)(hk:Kn w):
  bl ed 106 #[.agg #[v,s],.agg #[g,d,f,m,p,i,q,r]] w (mm w (IV l (Tp.sV g d f m p i q r)) (IU l (Tp.sV g d f m p i q r) s) (IW l (Tp.sV g d f m p i q r))):=by
 obtain⟨a,c,rfl,hc,h6⟩:=id hv.slice;obtain⟨n,hn⟩:=aK l.length;obtain⟨b3,d9,b1,a3⟩:=eV hq;have b3:0<=g:=b3;have d9:g<40:=d9;have a3:cS ⟨m,p,i,q,r⟩=0:=a3;have i1:(1<=d/\d<=65536)/\(0<=f/\f<5):=by simp[okB]at b1;omega
 obtain⟨⟨i6,i7⟩,i0,i5⟩:=i1;have c6:=ae (λw h=>oV (.slice a l.length c) l s w h h0 h1 (by omega));have b6:=λvb w h hb hk=>vT (.slice a l.length c) vb l (Tp.sV g d f m p i q r) s w h hb h0 h1 (by rw[sU];decide) h3 hk;obtain⟨L9,d1⟩:=aK (IV l (Tp.sV g d f m p i q r));obtain⟨O,d2⟩:=aK (IU l (Tp.sV g d f m p i q r) s);obtain⟨C9,d0⟩:=aK (IW l (Tp.sV g d f m p i q r));rw[<-d1,<-d2,<-d0]at b6|-;obtain⟨k9,F⟩:=aK L9.length;have e8:=ae F.symm;have c8:=ae b6;clear b6 d1 d2 d0 F;have e4:=ae (λw=>sH 0 0 g d f m p i q r (.slice dl 0 0) [] w (vW w) (by decide) hq (by decide) (ae (xe b1)));have e5:=ae (λw=>Ft ⟨m,p,i,q,r⟩ w a3);have a6:=ae (λv w h=>wU v [g,d,f] w h (FI g d f b3 (by omega) i0) (by show 3<=100;decide));have a7:=ae (λW=>CY W [g,d,f] 3 rfl (by show 3<=maxLen;decide) (FJ g d f (by omega) (by omega) (by omega)));rw[<-hn]at hv h1 h3 hc c6 c8|-;have HV:=ae hv;have HN:=ae hn;have HK:=ae hk;have C:=ae ((((aj w.heap.size w).alloc (ag _) (.cells #[.slice a n c,s] 71)).alloc (by simp) (.cells #[g,d,f,m,p,i,q,r] 109)).alloc (by simp;omega) (.cells #[.slice dl 0 0,(0:Int)] 71));clear hv hn hk hc h6 hq b1 a3;go_enter func106,ntmps106
 go_upto_region 1 with fail
 generalize E:World.alloc _ _=V at C|-;obtain⟨X,Z,Y,_⟩:=Dm E;have e2:V.heap.size=w.heap.size+1+1+1:=by rw[<-E];simp
 have HZ:=ae e2;have c0:=ej X 0 rfl;have c1:=ej X 1 rfl;have c7:=ae (HV.o.below C.o HV.o.lt);have HX:=ae X;have HY:=ae Y;have L:=ae Z;clear E e2 X Y Z;go_upto_region 2 with(go_at_call 58;refine(c6.o _ c7.o).m ?_;rintro e w2 ⟨v2,rfl,d8,u⟩;obtain⟨sa,sc,rfl,_,_⟩:=d8.rd.fB n HN.o.symm;have B2:=ae u;clear d8 u)
 have a0:dd V.heap.size V (w2.alloc (.cells #[.slice sa n sc,s] 71)):=B2.o.alloc B2.o.size _;generalize E:w2.alloc _=w3 at a0|-;have D:=(a0.block _ (hF L.o)).t L.o;have f9:=ej D 0 rfl;have g0:=ej D 1 rfl;have g1:=ej D 2 rfl;have g2:=ej D 3 rfl;have g3:=ej D 4 rfl;have g4:=ej D 5 rfl;have g5:=ej D 6 rfl;have g6:=ej D 7 rfl;have B3:=ae a0;clear E a0 D B2 c0 c1;go_upto_region 5 with(go_at_call 88;refine(e4.o _).m ?_;rintro e w4 ⟨a1,c1,n1,h8,rfl,h9,d3⟩;have K:=ae d3;clear h9 d3 h8)
 have hb5:dd V.heap.size V (w4.alloc (.cells #[d,f,.slice a1 n1 c1] 76)):=(B3.o.t (K.o.m B3.o.size)).alloc (by have:=B3.o.size;have:=K.o.size;omega) _;obtain⟨x5,e1⟩:=aK w4.heap.size;rw[<-e1];generalize E:w4.alloc _=i8 at hb5|-;have z:=(hb5.block _ (hF L.o)).t L.o;have g7:=ej z 3 rfl;have g8:=ej z 4 rfl;have g9:=ej z 5 rfl;have h2:=ej z 6 rfl;have h5:=ej z 7 rfl;have a5:=ae hb5;have Z5:=ae z;clear E hb5 e1 z B3 K f9 g0 g1 g2 g3 g4 g5 g6;go_upto_region 8 with(go_at_call 25;refine(e5.o _).m ?_;rintro e b ⟨ve,rfl,b2,d5⟩;obtain⟨ea,ec,rfl,_,_⟩:=b2.rd.fB 20 (nG _);have OE:=ae b2;have BE:=ae d5;clear b2 d5)
 have hb5:=a5.o.t (BE.o.m a5.o.size);have B5:=ae hb5;have z:=(hb5.block _ (hF L.o)).t L.o;have a4:=(hb5.block _ (hF HX.o)).t HX.o;have i:=(hb5.block _ (hF HY.o)).t HY.o;have A:SV b w.heap.size (w.heap.size+1) (.slice a n c) s g d f:=⟨ej a4 0 rfl,ej a4 1 rfl,ej z 0 rfl,ej z 1 rfl,ej z 2 rfl⟩
 have x:=hF a4;have y:=hF z;have h7:=hF i;have f2:=ae (c7.o.stay hb5);have e7:=ae ((HK.o.stay C.o).stay hb5);have f3:=ae i;have f7:=ae OE.o.rd;clear hb5 z a4 i a5 BE Z5 g7 g8 g9 h2 h5;have f4:w.heap.size≠w.heap.size+1+1:=by omega
 have f5:w.heap.size+1≠w.heap.size+1+1:=by omega
 have SX:SV b.drew w.heap.size (w.heap.size+1) (.slice a n c) s g d f:=A;obtain⟨k0,k1,k2,k3,k4⟩:=id A;have RA:jV ((b.alloc (.cells #[.int .u8 2] 5)).alloc (.cells #[g,d,f] 3)).drew (.slice (b.heap.size+1,0) 3 3) [g,d,f]:=by
  have h:=a7.o (b.alloc (.cells #[.int .u8 2] 5));rw[show(b.alloc (.cells #[.int .u8 2] 5)).heap.size=b.heap.size+1 by simp]at h;exact h
 have RB:jV ((b.alloc (.cells #[g,d,f] 3)).alloc (.cells #[.int .u8 2] 5)).drew (.slice (b.heap.size,0) 3 3) [g,d,f]:=
  (show jV ((b.alloc (.cells #[g,d,f] 3)).alloc (.cells #[.int .u8 2] 5)) _ _ from(a7.o b).stay ((aj _ _).alloc (ag _) _))
 have RC:jV (b.alloc (.cells #[g,d,f] 3)).drew (.slice (b.heap.size,0) 3 3) [g,d,f]:=a7.o b;have OA:Own ((b.alloc (.cells #[.int .u8 2] 5)).alloc (.cells #[g,d,f] 3)).drew b.heap.size (.slice (b.heap.size,0) 1 1) [2]:=(mF b b.heap.size 2 2 rfl (ag _)).alloc _;have OB:Own ((b.alloc (.cells #[g,d,f] 3)).alloc (.cells #[.int .u8 2] 5)).drew b.heap.size (.slice (b.heap.size+1,0) 1 1) [2]:=by
  have h:=mF (b.alloc (.cells #[g,d,f] 3)) b.heap.size 2 2 rfl (by simp);rw[show(b.alloc (.cells #[g,d,f] 3)).heap.size=b.heap.size+1 by simp]at h;exact h
 have BA:dd b.heap.size b ((b.alloc (.cells #[.int .u8 2] 5)).alloc (.cells #[g,d,f] 3)).drew:=below_drewN (((aj _ _).alloc (ag _) _).alloc (by simp) _) 1;have b7:dd b.heap.size b ((b.alloc (.cells #[g,d,f] 3)).alloc (.cells #[.int .u8 2] 5)).drew:=below_drewN (((aj _ _).alloc (ag _) _).alloc (by simp) _) 1;have BC:dd b.heap.size b (b.alloc (.cells #[g,d,f] 3)).drew:=below_drewN ((aj _ _).alloc (ag _) _) 1;have c3:=ae (show([2]:List UInt8).length+(gH [g,d,f]).length<=140737488355328 by rw[gU];simp);have e6:=ae (show([2]++gH [g,d,f]).length+(pW ⟨m,p,i,q,r⟩).length<=140737488355328 by rw[aD,gU,nG];simp);have e9:=ae RA;have f0:=ae RB;have f1:=ae RC;have c4:=ae OA;have c5:=ae OB;have b8:=ae BA;have b9:=ae b7;have c2:=ae BC;clear RA RB RC OA OB BA b7 BC OE;go_region_held3 (λw'=>w'.cell? (w.heap.size,0)=de (.slice a n c)/\w'.cell? (w.heap.size,1)=s/\w'.cell? (w.heap.size+1,0)=g/\w'.cell? (w.heap.size+1,1)=d/\w'.cell? (w.heap.size+1,2)=f) (first|with_reducible exact SX|with_reducible exact SV.drew (A.alloc x y _)|with_reducible exact SV.drew ((A.alloc x y _).alloc (qE x) (qE y) _)|with_reducible exact S2|with_reducible exact S2.alloc b4 b5 _|with_reducible exact S3|with_reducible exact f8|with_reducible exact S4|with_reducible exact S4.set f4 f5) (first
  |(go_at_call 125;(with_reducible refine(a6.o _ _ e9.o).m ?_);rintro e v2 ⟨vf,rfl,H,u⟩;have j:dd b.heap.size b v2:=b8.o.t (u.m b8.o.size);have S2:=A.stay x y j;have b4:=ai x j.size;have b5:=ai y j.size;have O1:=ae (c4.o.below u (λk hk=>(c4.o.lt k hk).2));have OF:=ae H;have t:=ae j;clear H u j)
  |(go_at_call 125;(with_reducible refine(a6.o _ _ f0.o).m ?_);rintro e v2 ⟨vf,rfl,H,u⟩;have j:dd b.heap.size b v2:=b9.o.t (u.m b9.o.size);have S2:=A.stay x y j;have b4:=ai x j.size;have b5:=ai y j.size;have O1:=ae (c5.o.below u (λk hk=>(c5.o.lt k hk).2));have OF:=ae H;have t:=ae j;clear H u j)
  |(go_at_call 125;(with_reducible refine(a6.o _ _ f1.o).m ?_);rintro e v2 ⟨vf,rfl,H,u⟩;have j:dd b.heap.size b v2:=c2.o.t (u.m c2.o.size);have S2:=A.stay x y j;have b4:=ai x j.size;have b5:=ai y j.size;have OF:=ae H;have t:=ae j;clear H u j)
  |(refine oC rfl (.tmp 37) (.tmp 47) rfl b.heap.size _ _ [2] (gH [g,d,f]) rfl O1.o rfl OF.o.rd c3.o t.o.size ?_;intro v9 w9 J Q;have F:=Kept.ma (B:=b.heap.size) (S:=λ_=>False) Q t.o.size (λk hk=>.inl (O1.o.lt k hk).1);have I:dd b.heap.size b w9:=t.o.t (F.below (λ_ _ h=>h));have S3:=A.stay x y I;obtain⟨ga,gc,R,_,_,_,_⟩:=J.shape (by intro h;cases h);have O9:=ae J;have N:=ae I;have G:([2]++gH [g,d,f]).length=13:=(by simp[gU]);rw[G]at R;subst R;clear J Q F I G)
  |(refine oC rfl (.tmp 37) (.tmp 47) rfl b.heap.size _ _ [2] (gH [g,d,f]) rfl (mF v2 b.heap.size 2 2 rfl t.o.size) rfl (OF.o.rd.alloc _) c3.o (t.o.alloc t.o.size _).size ?_;intro v9 w9 J Q;have F:=Kept.ma (B:=b.heap.size) (S:=λ_=>False) Q (t.o.alloc t.o.size _).size (λk hk=>.inl ((mF v2 b.heap.size 2 2 rfl t.o.size).lt k hk).1);have I:dd b.heap.size b w9:=(t.o.alloc t.o.size _).t (F.below (λ_ _ h=>h));have S3:=A.stay x y I;obtain⟨ga,gc,R,_,_,_,_⟩:=J.shape (by intro h;cases h);have O9:=ae J;have N:=ae I;have G:([2]++gH [g,d,f]).length=13:=(by simp[gU]);rw[G]at R;subst R;clear J Q F I G)
  |(refine oC rfl (.tmp 48) (.tmp 49) rfl b.heap.size _ _ ([2]++gH [g,d,f]) (pW ⟨m,p,i,q,r⟩) rfl O9.o rfl (f7.o.stay N.o) e6.o N.o.size ?_;intro v10 i2 a9 d6;have d7:=Kept.ma (B:=b.heap.size) (S:=λ_=>False) d6 N.o.size (λk hk=>.inl (O9.o.lt k hk).1);have a8:dd b.heap.size b i2:=N.o.t (d7.below (λ_ _ h=>h));have f8:=A.stay x y a8;obtain⟨gb,gd,e0,_,_,_,_⟩:=a9.shape (by intro h;cases h);have f6:=ae a9;have M:=ae a8;have G:([2]++gH [g,d,f]++pW ⟨m,p,i,q,r⟩).length=33:=(by rw[aD,nG];simp[gU]);rw[G]at e0;subst e0;clear a9 d6 d7 a8 G)
  |(go_at_call 124;refine(c8.o _ _ (f2.o.stay M.o) f6.o.rd (e7.o.stay M.o)).m ?_;rintro e wA ⟨vA,rfl,b0,d4⟩;obtain⟨T,U,rfl,_,_⟩:=b0.rd.fB k9 e8.o;have a2:dd b.heap.size b wA:=M.o.t (d4.m M.o.size);have S4:=A.stay x y a2;have yA:=(a2.block (w.heap.size+1+1) h7).t f3.o;have i3:=ej yA 0 rfl;have i4:=ej yA 1 rfl;have fy:=aO yA;have c9:=ae (b0.m (base':=b.heap.size) M.o.size);have YA:=ae yA;have e3:=ae a2;clear b0 d4 a2 yA))
 all_goals
  go_wp2_with fail
  have z4:=aB (o:=1) (aB (o:=0) YA.o (.slice T k9 U)) O;have K:=ae (show dd w.heap.size w ((wA.setCell (w.heap.size+1+1,0) (.slice T k9 U)).setCell (w.heap.size+1+1,1) O)from(((C.o.t (B5.o.m C.o.size)).t (e3.o.m (C.o.t (B5.o.m C.o.size)).size)).setCell (by show w.heap.size<=w.heap.size+1+1;omega) _).setCell (by show w.heap.size<=w.heap.size+1+1;omega) _);have o4:=(c9.o.m (base':=w.heap.size) (C.o.t (B5.o.m C.o.size)).size).lE (w':=(wA.setCell (w.heap.size+1+1,0) (.slice T k9 U)).setCell (w.heap.size+1+1,1) O) (λk hk=>by
   have h4:=(c9.o.lt k hk).1;exact(aA 1 _ (by omega)).t (aA 0 _ (by omega)))
  generalize E:World.setCell _ _ _=wZ at z4 K o4|-;have hl:=aU (P:=ed) wZ (w.heap.size+1+1) 0 71 [.slice T k9 U,O] _ (bu z4) Tryz.underlying71 rfl mP;exact aH (v:= .tuple #[.agg #[.slice T k9 U,O],C9]) (dC Tryz.results106 rfl hl) rfl ⟨_,rfl,o4,K.o⟩
theorem lI{w a:ax}{A B:Obj}(h:(w.alloc A).alloc B=a):a.heap[w.heap.size]?=de A/\a.heap[w.heap.size+1]?=de B/\dd w.heap.size w a/\a.heap.size=w.heap.size+1+1:=by
 subst h;exact⟨gT w A B,gl w A B,((aj _ _).alloc (ag _) _).alloc (by simp) _,by simp⟩
theorem FR(v:bd)(l:List UInt8)(s:Int)(w:ax)(hv:Rd w v l)(h0:0<=s)(h1:s<=l.length)(h2:l.length<=100000):
  bl ed 54 #[.agg #[v,s]] w (mm w l (l.length:Nat) 0):=by
 obtain⟨a,c,rfl,hc,a0⟩:=id hv.slice;obtain⟨n,y⟩:=aK l.length;have C:=ae (λw h=>oV (.slice a l.length c) l s w h h0 h1 h2);rw[<-y]at hv h1 h2 hc C|-;have D:=ae hv;have T:=ae y;clear hv y hc a0;go_enter func54,ntmps54
 go_upto_region 1 with fail
 generalize f:World.alloc _ _=g;obtain⟨X,Y,t,K⟩:=lI f;have u:=ae t;have c0:=ej X 0 rfl;have c1:=ej X 1 rfl;have U:=ae (D.o.below t D.o.lt);have F:=ae K;have E:=ae Y;clear f K X Y t;go_upto_region 2 with(go_at_call 58;refine(C.o _ U.o).m ?_;rintro e d ⟨v2,rfl,z,J⟩;obtain⟨sa,b,rfl,_,_⟩:=z.rd.fB n T.o.symm;have m:=ae J;have G:=ae z;clear z J)
 have p:dd g.heap.size g (d.alloc (.cells #[.slice sa n b,s] 71)):=m.o.alloc m.o.size _;have i:(d.alloc (.cells #[.slice sa n b,s] 71)).heap[d.heap.size]?=de (.cells #[.slice sa n b,s] 71):=aL _ _;have A:Own (d.alloc (.cells #[.slice sa n b,s] 71)) g.heap.size (.slice sa n b) l:=G.o.alloc _;have hlt:∀k,(Value.slice sa n b).ownBlock=de k->k<d.heap.size:=λk hk=>(G.o.lt k hk).2;have a1:g.heap.size<=d.heap.size:=m.o.size;obtain⟨q,hq⟩:=aK d.heap.size;rw[<-hq]at i hlt a1|-;generalize f:d.alloc _=w3 at p i A|-;have N:=(p.block _ (hF E.o)).t E.o;have V:=ae i;have W:=ae N;have Q:=ae p;have O3:=ae A;have S:=ae hlt;have e0:=ej i 0 rfl;have e1:=ej i 1 rfl;have ef:=aO i;have a2:¬(w.heap.size+1=q):=by have:=F.o;omega
 have a3:¬(q=w.heap.size+1):=by omega
 clear f p i N A hlt c0 c1 m hq;go_upto_region 5 with fail
 have r:=aB (o:=1) V.o (n:Int);have j:=(aA (w:=w3) 1 (n:Int) a2).t W.o;have x:dd g.heap.size g (w3.setCell (q,1) (n:Int)):=Q.o.setCell (by show g.heap.size<=q;omega) _;have B:=O3.o.lE (w':=w3.setCell (q,1) (n:Int)) (λk hk=>aA 1 _ (by have:=S.o k hk;omega));generalize f:World.setCell _ _ _=M at r j x B|-;have f0:=ej r 0 rfl;have f1:=ej r 1 rfl;have g0:=ej j 0 rfl;have g1:=ej j 1 rfl;have gf:=aO j;have Z:=ae j;have R:=ae x;have H:=ae B;clear f r j x B e0 e1 ef;go_wp2_with fail
 have O:=aB (o:=1) (aB (o:=0) Z.o (.slice sa n b)) (n:Int);have I:dd w.heap.size w ((M.setCell (w.heap.size+1,0) (.slice sa n b)).setCell (w.heap.size+1,1) (n:Int)):=((u.o.t (R.o.m u.o.size)).setCell (by show w.heap.size<=w.heap.size+1;omega) _).setCell (by show w.heap.size<=w.heap.size+1;omega) _;have L:=(H.o.m (base':=w.heap.size) u.o.size).lE (w':=(M.setCell (w.heap.size+1,0) (.slice sa n b)).setCell (w.heap.size+1,1) (n:Int)) (λk hk=>by
  have h4:=(H.o.lt k hk).1;have:=F.o;exact(aA 1 _ (by omega)).t (aA 0 _ (by omega)))
 generalize f:World.setCell _ _ _=wZ at O I L|-;have hl:=aU (P:=ed) wZ (w.heap.size+1) 0 71 [.slice sa n b,n] _ (bu O) Tryz.underlying71 rfl mP;exact aH (v:= .tuple #[.agg #[.slice sa n b,n],(0:Int)]) (dC Tryz.results54 rfl hl) rfl ⟨_,rfl,L,I⟩
def Ny(w:ax)(l:List UInt8)(s c:Int)(e:Ending)(w':ax):Prop:=
 ∃a,e= .returned (.tuple #[.agg #[a,s],c])/\Rd w' a l/\dd w.heap.size w w'
theorem mm.rd{w:ax}{l:List UInt8}{s c:Int}{e:Ending}{w':ax}(h:mm w l s c e w'):Ny w l s c e w':=by
 obtain⟨v,h1,h2,h3⟩:=h;exact⟨v,h1,h2.rd,h3⟩
theorem Rd.nT{w w':ax}{v:bd}{l:List UInt8}(h:Rd w v l)(e:∀k,v.ownBlock=de k->l≠[]->w'.heap[k]?=w.heap[k]?):Rd w' v l:=by
 obtain⟨a,c,rfl,h1,h2,h3,h4⟩:=h;refine⟨a,c,rfl,h1,h2,h3,λd=>?_⟩;obtain⟨b,off,rfl,h5⟩:=h4 d;exact⟨b,off,rfl,λi hi=>(aw (w:=w) (e b rfl d)).t (h5 i hi)⟩
theorem Rd.Of{w:ax}{a:Option Addr}{k c:Nat}{l:List UInt8}(h:Rd w (.slice a k c) l)(n:Nat)(b:l.length=n):n<=c/\c<=maxLen:=by
 subst b;obtain⟨_,_,e,h1,h2,_⟩:=h;injection e with e1 e2 e3;subst e3;exact⟨h1,h2⟩
theorem Rd.NO{w:ax}{a:Option Addr}{n c:Nat}{l:List UInt8}(h:Rd w (.slice a n c) l)(m:Nat)(hm:m<=l.length):Rd w (.slice a m m) (l.take m):=by
 have h2:=h.pre m hm;have hl:(l.take m).length=m:=by simp;omega
 obtain⟨a',b,e,h3,h4,h5,h6⟩:=h2;rw[hl]at e h3;injection e with e1 e2 e3;subst e1 e3;exact⟨_,_,by rw[hl],gi hl,by omega,λh=>by have:=h5 h;omega,h6⟩
end Go.Proofs.YtcdmenphjilnnaaGreatDoor
namespace Go.Con
set_option maxHeartbeats 400000
theorem uj{p:Int×Int}:∀{l:List cF} {last:Int},last<=39->kO p last l=dE->(l.length:Int)<=39-last
 |[],last,h,_=>by simp;omega
 |v::l,last,h,hl=>by
  have a:(jJ v&&decide (last<v.slot)&&decide (dX v.bG p<=0)&&kO p v.slot l)=dE:=hl;simp only[aP,ap]at a;obtain⟨⟨⟨h1,h2⟩,_⟩,h3⟩:=a;have h4:=eV h1;have h5:=uj (by omega) h3;simp only[aZ];omega
theorem qA{p:Int×Int}{l:List cF}(h:kf p l=dE):l.length<=1000:=by
 unfold kf at h;simp only[aP]at h;have:=uj (by omega) h.2;omega
structure eL where
 p:Int×Int
 l:List cF
 deriving DecidableEq
def eL.ok(a:eL):Bool:=kf a.p a.l
def eL.zero:eL:=⟨(0,0),[]⟩
def oG(a:eL)(b:Int×Int):Option eL:=if okB b=dE/\¬dX b a.p<0 then de ⟨b,a.l⟩else dl
def pq(a:eL)(y:cF):Option eL:=if jJ y=dE/\¬dX y.bG a.p<0 then de ⟨y.bG,mA y a.l⟩else dl
theorem JA{a c:eL}{b:Int×Int}(h:a.ok=dE)(hc:oG a b=de c):c.ok=dE:=by
 unfold oG at hc;split at hc
 ·rename_i h1;injection hc with hc;subst hc;exact Br h h1.1 h1.2
 ·cases hc
theorem Ja{a c:eL}{y:cF}(h:a.ok=dE)(hc:pq a y=de c):c.ok=dE:=by
 unfold pq at hc;split at hc
 ·rename_i h1;injection hc with hc;subst hc;exact CT h h1.1 h1.2
 ·cases hc
end Go.Con
namespace Go.Proofs.YtcdmenphjilnnaaGreatDoor
open Go.RowKit Go.Con
set_option maxHeartbeats 400000
def uW(l:List UInt8):Int×Int:=(oL (l.drop 1),oL (l.drop 5))
def uV(l:List UInt8):cF:=⟨oL (l.drop 1),(oL (l.drop 5),oL (l.drop 9)),(kh (l.drop 13)).1⟩
def eD(a:eL)(l:List UInt8):Option eL:=
 if l.length=9/\l.getD 0 0=1 then oG a (uW l)
 else if l.length=33/\l.getD 0 0=2 then(if(kh (l.drop 13)).2=0 then pq a (uV l)else dl)
 else dl
theorem xq{a c:eL}{l:List UInt8}(h:a.ok=dE)(hc:eD a l=de c):c.ok=dE:=by
 unfold eD at hc;split at hc
 ·exact JA h hc
 ·split at hc
  ·split at hc
   ·exact Ja h hc
   ·cases hc
  ·cases hc
theorem AA(a:eL)(d b:Int)(v:bd)(w:ax)(hv:fz w v a.l)(f:a.ok=dE):
  bl ed 86 #[.agg #[.int .i64 a.p.1,.int .i64 a.p.2,v],.agg #[.int .i64 d,.int .i64 b]] w λe w'=>
   dd w.heap.size w w'/\∃x y a1 g c1 v2 c,e= .returned (.tuple #[.agg #[.int .i64 x,.int .i64 y,.slice a1 g c1],v2,.int .i64 c])/\((oG a (d,b)=dl/\c≠0)\/(oG a (d,b)=de ⟨(x,y),a.l⟩/\c=0/\fk w' w.heap.size (.slice a1 g c1) a.l)):=by
 obtain⟨⟨j,i⟩,l⟩:=a;have hl:l.length<=1000:=qA f;cases hb:okB (d,b)with
 |false=>
  refine(Ay j i d b v l w hv f hb hl).m ?_;rintro e w' ⟨rfl,h⟩;exact⟨h,_,_,_,_,_,_,_,rfl,.inl ⟨by simp[oG,hb],by decide⟩⟩
 |true=>
  refine(qm j i d b v l w hv f hb hl).m ?_;rintro e w' ⟨h,h2|h2⟩
  ·obtain⟨h2,rfl⟩:=h2;exact⟨h,_,_,_,_,_,_,_,rfl,.inl ⟨by simp[oG,h2],by decide⟩⟩
  ·obtain⟨h2,v1,v2,rfl,o1,_⟩:=h2;obtain⟨a1,c1,rfl,-⟩:=id o1.row;exact⟨h,_,_,_,_,_,_,_,rfl,.inr ⟨by rw[oG,ar ⟨hb,h2⟩],rfl,o1⟩⟩
theorem CC(a:eL)(b d f g i j k n:Int)(v:bd)(w:ax)(hv:fz w v a.l)(o:a.ok=dE):
  bl ed 88 #[.agg #[.int .i64 a.p.1,.int .i64 a.p.2,v],.agg #[.int .i64 b,.int .i64 d,.int .i64 f,.int .i64 g,.int .i64 i,.int .i64 j,.int .i64 k,.int .i64 n]] w λe w'=>
   dd w.heap.size w w'/\∃x y a1 p c1 c,e= .returned (.tuple #[.agg #[.int .i64 x,.int .i64 y,.slice a1 p c1],.int .i64 c])/\((pq a ⟨b,(d,f),⟨g,i,j,k,n⟩⟩=dl/\c≠0)\/(∃m,pq a ⟨b,(d,f),⟨g,i,j,k,n⟩⟩=de ⟨(x,y),m⟩/\c=0/\fk w' w.heap.size (.slice a1 p c1) m)):=by
 obtain⟨⟨r,q⟩,l⟩:=a;have hl:l.length<=1000:=qA o;cases hb:jJ ⟨b,(d,f),⟨g,i,j,k,n⟩⟩with
 |false=>
  refine(CA r q b d f g i j k n v l w hv o hb hl).m ?_;rintro e w' ⟨rfl,h⟩;exact⟨h,_,_,_,_,_,_,rfl,.inl ⟨by simp[pq,hb],by decide⟩⟩
 |true=>
  refine(rM r q b d f g i j k n v l w hv o hb hl).m ?_;rintro e w' ⟨h,h2|h2⟩
  ·obtain⟨h2,rfl⟩:=h2;exact⟨h,_,_,_,_,_,_,rfl,.inl ⟨by simp[pq,h2],by decide⟩⟩
  ·obtain⟨h2,v1,rfl,o1⟩:=h2;obtain⟨a1,c1,rfl,-⟩:=id o1.row;exact⟨h,_,_,_,_,_,_,rfl,.inr ⟨_,by rw[pq,ar ⟨hb,h2⟩],rfl,o1⟩⟩
end Go.Proofs.YtcdmenphjilnnaaGreatDoor
namespace Go.Con
set_option maxHeartbeats 400000
structure Fv where
 a:eL
 ad:Option Addr
 n:Nat
 c:Nat
def Fv.zero:Fv:=⟨eL.zero,dl,0,0⟩
def Aw(x:Fv):List bd:=[x.a.p.1,x.a.p.2,.slice x.ad x.n x.c]
end Go.Con
namespace Go.Proofs.YtcdmenphjilnnaaGreatDoor
open Go.RowKit Go.Con
set_option maxHeartbeats 400000
abbrev OL:=gN 3 Aw Fv.zero
def Kz(w:ax)(base:Nat)(v:bd)(l:List Fv):Prop:=w.ownsRow base 76 3 v l.length (l.flatMap Aw)
theorem Kz.row{w:ax}{base:Nat}{v:bd}{l:List Fv}(h:Kz w base v l):OL w v l:=gN.zB (λ_=>rfl) h
section
variable{ops:Array Oper}{rest:List Oper}{o:Oper}{a:Act}{Q:Exit->Act->ax->Prop}{w:ax}
end
theorem jB{w w':ax}{v:bd}{l:List cF}(h:fz w v l)(f:l≠[]->∀k,v.ownBlock=de k->k<w.heap.size->w'.heap[k]?=w.heap[k]?):fz w' v l:=by
 obtain⟨⟨a,c,rfl,h1,h2,h3⟩,h4⟩:=h;refine⟨⟨a,c,rfl,h1,h2,λhl=>?_⟩,h4⟩;obtain⟨b,off,rfl,hb,hc⟩:=h3 hl;have e:=f hl b rfl hb;have d:b<w'.heap.size:=by
  have h5:w.heap[b]?=de w.heap[b]:=bm hb;exact hF (e.t h5)
 exact⟨b,off,rfl,d,λi hi j hj=>(aw (w:=w) e).t (hc i hi j hj)⟩
theorem CE{w:ax}{v:bd}{l:List cF}(h:fz w v l)(hl:l≠[]):∀k,v.ownBlock=de k->k<w.heap.size:=by
 obtain⟨⟨a,c,rfl,h1,h2,h3⟩,h4⟩:=h;obtain⟨b,off,rfl,hb,hc⟩:=h3 hl;intro k hk;injection hk with hk;subst hk;exact hb
structure IP(w:ax)(lo:Nat)(q:Option Nat)(x:Fv):Prop where
 ok:x.a.ok=dE
 vs:fz w (.slice x.ad x.n x.c) x.a.l
 ne:x.a.l≠[]->∀k,(Value.slice x.ad x.n x.c).ownBlock=de k->lo<=k/\de k≠q
structure sQ(w:ax)(base:Nat)(v:bd)(l:List Fv):Prop where
 hH:Kz w base v l
 each:∀x∈l,IP w base v.ownBlock x
theorem sQ.heap{w w':ax}{base:Nat}{v:bd}{l:List Fv}(h:sQ w base v l)(a:∀k,base<=k->k<w.heap.size->w'.heap[k]?=w.heap[k]?):sQ w' base v l:=
 ⟨tQ h.hH (λk hk=>a k (lV h.hH k hk).1 (lV h.hH k hk).2),λx hx=>⟨(h.each x hx).ok,jB (h.each x hx).vs (λhl k hk hkl=>a k ((h.each x hx).ne hl k hk).1 hkl),(h.each x hx).ne⟩⟩
theorem sQ.stay{w w':ax}{base:Nat}{v:bd}{l:List Fv}(h:sQ w base v l)(hb:dd w.heap.size w w'):sQ w' base v l:=h.heap (λk _ hk=>hb.block k hk)
theorem sQ.m{w:ax}{base base':Nat}{v:bd}{l:List Fv}(h:sQ w base v l)(hb:base'<=base):sQ w base' v l:=
 ⟨zi h.hH hb,λx hx=>⟨(h.each x hx).ok,(h.each x hx).vs,λhl k hk=>⟨aE hb ((h.each x hx).ne hl k hk).1,((h.each x hx).ne hl k hk).2⟩⟩⟩
theorem sQ.grown{w w':ax}{base:Nat}{v b:bd}{l:List Fv}{c:Fv}(h:sQ w base v l)(g:Kz w' base b (l++[c]))(hg:w.grownBy w' v.ownBlock)(f:b.ownBlock=v.ownBlock\/b.ownBlock=de w.heap.size)(hc:IP w base v.ownBlock c):sQ w' base b (l++[c]):=by
 refine⟨g,λx hx=>?_⟩;have a:IP w base v.ownBlock x:=(dR.1 hx).elim (h.each x) (λhx=>(cL.1 hx)▸hc);refine⟨a.ok,jB a.vs (λhl k hk hkl=>hg.block k hkl (a.ne hl k hk).2),λhl k hk=>⟨(a.ne hl k hk).1,?_⟩⟩;rcases f with e|e
 ·rw[e];exact(a.ne hl k hk).2
 ·rw[e];have:=CE a.vs hl k hk;intro d;injection d with d;omega
set_option maxHeartbeats 1000000
def Nz(w:ax)(l:List UInt8)(s:Int)(e:Ending)(w':ax):Prop:=
 ∃a n c,e= .returned (.tuple #[.agg #[.slice a n c,s],(0:Int)])/\Rd w' (.slice a n c) l/\(∀q,(Value.slice a n c).ownBlock=de q->l≠[]->w.heap.size<=q)/\dd w.heap.size w w'
theorem Bd(v:bd)(l:List UInt8)(s k:Int)(m:Nat)(w:ax)(hv:Rd w v l)(h0:0<=s)(h1:s<=l.length)(h2:l.length<=100000)(a9:0<=k)(V:k<=1000000000)(hm:(m:Int)=s+min k ((l.length:Int)-s)):
  bl ed 35 #[.agg #[v,s],k] w (Nz w (l.take m) m):=by
 obtain⟨a,c,rfl,hc,a2⟩:=id hv.slice;obtain⟨n,I⟩:=aK l.length;have N:=ae (λw h=>oV (.slice a l.length c) l s w h h0 h1 h2);rw[<-I]at hv h1 h2 hc hm N|-;have a4:m<=n:=by omega
 have Q:=ae hv;have H:=ae I;have G:=ae hm;have dk:decide (k<0)=dT:=by rw[ah];omega
 have a6:=ae V;clear hv I hc a2 hm V;go_enter func35,ntmps35
 go_upto_region 1 with fail
 generalize g:World.alloc _ _=u;obtain⟨X,Y,E,a0⟩:=lI g;have f:=ae E;have c0:=ej X 0 rfl;have c1:=ej X 1 rfl;have a1:=ae (Q.o.below E Q.o.lt);have T:=ae a0;have R:=ae Y;clear g a0 X Y E;go_upto_region 2 with(go_at_call 58;refine(N.o _ a1.o).m ?_;rintro e d ⟨v2,rfl,J,U⟩;obtain⟨sa,i,rfl,_,_⟩:=J.rd.fB n H.o.symm;have B:=ae U;have O2:=ae J;clear J U)
 have D:dd u.heap.size u (d.alloc (.cells #[.slice sa n i,s] 71)):=B.o.alloc B.o.size _;have j:(d.alloc (.cells #[.slice sa n i,s] 71)).heap[d.heap.size]?=de (.cells #[.slice sa n i,s] 71):=aL _ _;have K:Own (d.alloc (.cells #[.slice sa n i,s] 71)) u.heap.size (.slice sa n i) l:=O2.o.alloc _;have a3:u.heap.size<=d.heap.size:=B.o.size;obtain⟨q,hq⟩:=aK d.heap.size;rw[<-hq]at j a3|-;generalize g:d.alloc _=w3 at D j K|-;have z:=(D.block _ (hF R.o)).t R.o;have HX:=ae j;have S:=ae z;have M:=ae D;have C:=ae K;have e0:=ej j 0 rfl;have e1:=ej j 1 rfl;have b1:¬(w.heap.size+1=q):=by have:=T.o;omega
 have b2:¬(q=w.heap.size+1):=by omega
 have g0:=ej z 0 rfl;have g1:=ej z 1 rfl;have gf:=aO z;clear g D j z K c0 c1 B hq;have W:(if k<(n:Int)-s then k else(n:Int)-s)=(m:Int)-s:=by have:=G.o;split<;>omega
 have a7:=ae W;clear W;obtain⟨b3,Z⟩:=C.o.rd.Of n H.o.symm;have a8:i<=9223372036854775807:=Z;clear Z;have HR:=ae (C.o.rd.NO m (by rw[<-H.o];exact a4));have F:=ae (show∀k,(Value.slice sa m m).ownBlock=de k->l.take m≠[]->u.heap.size<=k from λk hk _=>(C.o.lt k (by cases sa with|none=>exact absurd hk (by simp[Value.ownBlock])|some b=>exact hk)).1);clear C;have b0:(n:Int)<=100000:=by omega
 have O:=ae (show∀b x y,b=w.heap.size+1->Rd ((w3.setCell (b,0) x).setCell (b,1) y) (.slice sa m m) (l.take m)from λb x y hb=>by
  refine(HR.o.nT (λk hk r=>?_));have h4:=F.o k hk r;have:=T.o;exact(aA 1 _ (by omega)).t (aA 0 _ (by omega)))
 by_cases hlt:(n:Int)-s<k
 ·obtain rfl:m=n:=by have:=G.o;omega
  have a5:s+((m:Int)-s)=(m:Int):=by omega
  go_wp2_with fail
  have A:=aB (o:=1) (aB (o:=0) S.o (.slice sa m m)) (m:Int);have p:dd w.heap.size w ((w3.setCell (w.heap.size+1,0) (.slice sa m m)).setCell (w.heap.size+1,1) (m:Int)):=((f.o.t (M.o.m f.o.size)).setCell (by show w.heap.size<=w.heap.size+1;omega) _).setCell (by show w.heap.size<=w.heap.size+1;omega) _;have t:Rd ((w3.setCell (w.heap.size+1,0) (.slice sa m m)).setCell (w.heap.size+1,1) (m:Int)) (.slice sa m m) (l.take m):=O.o _ _ _ rfl;generalize g:World.setCell _ _ _=L at A p t|-;have hl:=aU (P:=ed) L (w.heap.size+1) 0 71 [.slice sa m m,m] _ (bu A) Tryz.underlying71 rfl mP;exact aH (v:= .tuple #[.agg #[.slice sa m m,m],(0:Int)]) (dC Tryz.results35 rfl hl) rfl ⟨_,_,_,rfl,t,λq hq r=>aE f.o.size (F.o q hq r),p⟩
 ·have a5:s+k=(m:Int):=by have:=G.o;omega
  go_wp2_with fail
  have A:=aB (o:=1) (aB (o:=0) S.o (.slice sa m m)) (m:Int);have p:dd w.heap.size w ((w3.setCell (w.heap.size+1,0) (.slice sa m m)).setCell (w.heap.size+1,1) (m:Int)):=((f.o.t (M.o.m f.o.size)).setCell (by show w.heap.size<=w.heap.size+1;omega) _).setCell (by show w.heap.size<=w.heap.size+1;omega) _;have t:Rd ((w3.setCell (w.heap.size+1,0) (.slice sa m m)).setCell (w.heap.size+1,1) (m:Int)) (.slice sa m m) (l.take m):=O.o _ _ _ rfl;generalize g:World.setCell _ _ _=L at A p t|-;have hl:=aU (P:=ed) L (w.heap.size+1) 0 71 [.slice sa m m,m] _ (bu A) Tryz.underlying71 rfl mP;exact aH (v:= .tuple #[.agg #[.slice sa m m,m],(0:Int)]) (dC Tryz.results35 rfl hl) rfl ⟨_,_,_,rfl,t,λq hq r=>aE f.o.size (F.o q hq r),p⟩
end Go.Proofs.YtcdmenphjilnnaaGreatDoor
