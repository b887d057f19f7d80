/-
  Parts of the proofs of the laws of the whole (what the functions compute, and plain laws of it); no conditions.
-/
import Derived.Test.YtcdmenphjilnnaaGreatDoorM10
import Derived.Maps.Own
import Derived.Deep.AppendSrc
import Derived.Lib.SlicesDelete
set_option linter.unusedVariables false
set_option linter.unusedSimpArgs false
set_option maxRecDepth 100000
set_option maxHeartbeats 1000000
open Go.Proofs.Tryz
open Go renaming World->ax,Value->bd,Calls->bl
open Go.RowKit renaming Below->dd
open Option renaming some->de,none->dl
open Bool renaming true->dE,false->dT
open Go.Proofs.Tryz renaming prog->ed
namespace Go.Proofs.YtcdmenphjilnnaaGreatDoor
open Go.RowKit Go.Con
theorem eT{a w:ax}(h:dd a.heap.size a w):dd a.heap.size a w.drew:=below_drewN h 1
theorem gh{a W w:ax}(h:dd a.heap.size a W)(h2:dd W.heap.size W w):dd a.heap.size a w:=h.t (h2.m h.size)
theorem ei{a w:ax}{o:Obj}(h:dd a.heap.size a w):dd a.heap.size a (w.alloc o):=h.alloc h.size o
def ph(w:ax)(a:eL)(b:List UInt8)(e:Ending)(w':ax):Prop:=
 dd w.heap.size w w'/\∃x y a1 c c1 t,e= .returned (.tuple #[.agg #[.int .i64 x,.int .i64 y,.slice a1 c c1],.bool t])/\((eD a b=dl/\t=dT)\/(∃m,eD a b=de ⟨(x,y),m⟩/\t=dE/\fk w' w.heap.size (.slice a1 c c1) m))
abbrev SA(w:ax)(tb:Nat)(b a:Int)(v:bd):Prop:=w.cell? (tb,0)=b/\w.cell? (tb,1)=a/\w.cell? (tb,2)=de v
theorem SA.stay{w w':ax}{tb:Nat}{b a:Int}{v:bd}(h:SA w tb b a v)(h1:tb<w.heap.size)(hb:dd w.heap.size w w'):SA w' tb b a v:=
 ⟨(hb.cell (p:=(tb,0)) h1).t h.1,(hb.cell (p:=(tb,1)) h1).t h.2.1,(hb.cell (p:=(tb,2)) h1).t h.2.2⟩
theorem SA.alloc{w:ax}{tb:Nat}{b a:Int}{v:bd}(h:SA w tb b a v)(h1:tb<w.heap.size)(o:Obj):SA (w.alloc o) tb b a v:=h.stay h1 ((aj _ _).alloc (ag _) o)
theorem SA.set{w:ax}{tb a:Nat}{c b:Int}{v v0 v1 v2:bd}(h1:tb≠a)(h:SA w tb c b v):SA (((w.setCell (a,0) v0).setCell (a,1) v1).setCell (a,2) v2) tb c b v:=by
 have e:(((w.setCell (a,0) v0).setCell (a,1) v1).setCell (a,2) v2).heap[tb]?=w.heap[tb]?:=(aA 2 v2 h1).t ((aA 1 v1 h1).t (aA 0 v0 h1));exact⟨(aw (w:=w) e).t h.1,(aw (w:=w) e).t h.2.1,(aw (w:=w) e).t h.2.2⟩
theorem oo:(prog.info? 76).map (λx=>x.size)=de 3:=by kernel_rfl
theorem zT{b off n c:Nat}{l:List UInt8}{a:ax}(h:Rd a (.slice (b,off) n c) l)(d:l.length=n)(k m:Nat)(hk:k<n)(hm:m=n-k)(h4:4<=m):
  ∀W,dd a.heap.size a W->bl ed 87 #[.slice (b,off+k) m (c-k)] W λe w'=>e= .returned (oL (l.drop k):Int)/\∃m,w'=W.drewN m:=
 λW hb=>JR b (off+k) m (c-k) (l.drop k) W ((h.stay hb).tail k m hk hm) (by simp;omega) h4
theorem Ff(a:eL)(v vb:bd)(b:List UInt8)(w:ax)(hv:fz w v a.l)(b1:a.ok=dE)(hb:Rd w vb b)(D:b.length=9)(hx:b.getD 0 0=1):
  bl ed 62 #[.agg #[a.p.1,a.p.2,v],vb] w (ph w a b):=by
 obtain⟨⟨m,j⟩,l⟩:=a;obtain⟨ea,Q,rfl,hle,c3,-⟩:=id hv.1;obtain⟨bb,bo,O,rfl,c9,a9⟩:=hb.gL 9 D (by decide);have d2:O<=9223372036854775807:=a9;have c2:O≠1/\O≠5:=by omega
 obtain⟨d0,d1⟩:=c2;obtain⟨el,b0⟩:=aK l.length;rw[<-b0]at hv|-;have HV:=ae hv;have HB:=ae hb;have G:=ae D;have b4:=ae b1;have HX:=ae hx;clear hv hb D b1 hle c3 a9 b0 hx;have b3:=ae (show eD ⟨(m,j),l⟩ b=oG ⟨(m,j),l⟩ (uW b) by rw[eD,ar ⟨G.o,HX.o⟩]);go_enter func62,ntmps62
 go_upto_region 1 with fail
 generalize n:World.alloc _ _=c;obtain⟨X,Y,F,b2⟩:=lI n;have y:=ae F;have HZ:=ae b2;have H:=ae X;have b8:=ae Y;have K:=ae (HB.o.stay F);have b6:=ae (HV.o.stay F);have x0:c.cell? (bb,bo)=de (.int .u8 1):=by
  have h:=K.o.qM 0 (by rw[G.o];decide);rw[HX.o]at h;exact h
 clear n b2 X Y F;go_upto_region 2 with fail
 clear x0;have T:=hF H.o;have N:SA c w.heap.size m j (.slice ea el Q):=⟨ej H.o 0 rfl,ej H.o 1 rfl,ej H.o 2 rfl⟩
 have ST:=ae N;obtain⟨k0,k1,k2⟩:=id N;have a6:=ae (zT K.o G.o 1 8 (by decide) rfl (by decide));have a7:=ae (zT K.o G.o 5 4 (by decide) rfl (by decide));obtain⟨g1,R⟩:∃g:Int,g=oL (b.drop 1):=⟨_,rfl⟩
 obtain⟨t,S⟩:∃g:Int,g=oL (b.drop 5):=⟨_,rfl⟩
 rw[<-R]at a6;rw[<-S]at a7;have a3:=ae (show eD ⟨(m,j),l⟩ b=oG ⟨(m,j),l⟩ (g1,t) by rw[b3.o,uW,R,S]);have M:=b8;have b9:=HZ;have a0:=ae (aj c.heap.size c);clear R S;have b5:=ae (λW (n:dd c.heap.size c W)=>AA ⟨(m,j),l⟩ g1 t (.slice ea el Q) W (b6.o.stay n) b4.o);have c0:w.heap.size≠c.heap.size:=by omega
 clear N;go_region_held3 (λw'=>w'.cell? ⟨w.heap.size,0,dl⟩=de (.int .i64 m)/\w'.cell? ⟨w.heap.size,1,dl⟩=de (.int .i64 j)/\w'.cell? ⟨w.heap.size,2,dl⟩=de (.slice ea el Q)) (first|with_reducible exact z|with_reducible exact z.alloc V _|(refine SA.stay ST.o T ?_;(repeat (first|exact aj _ _|with_reducible refine eT ?_|with_reducible refine below_drewN ?_ _|with_reducible refine ei ?_));done)|with_reducible exact z.set c0) (first
  |(go_at_call 87;with_reducible refine(a6.o _ ?hb).m ?_;(case hb=>(repeat (first|exact aj _ _|with_reducible refine eT ?_|with_reducible refine below_drewN ?_ _|with_reducible refine ei ?_)));rintro e _ ⟨rfl,nq,rfl⟩)
  |(go_at_call 87;with_reducible refine(a7.o _ ?hb).m ?_;(case hb=>(repeat (first|exact aj _ _|with_reducible refine eT ?_|with_reducible refine below_drewN ?_ _|with_reducible refine ei ?_)));rintro e _ ⟨rfl,nq,rfl⟩)
  |(go_at_call 86;(with_reducible refine(b5.o _ ?hb).m ?_);(case hb=>(repeat (first|exact aj _ _|with_reducible refine eT ?_|with_reducible refine below_drewN ?_ _|with_reducible refine ei ?_)));rintro e v2 ⟨I,f,i,a1,d,c1,v9,B,rfl,J⟩;have C:dd c.heap.size c v2:=(by(refine gh ?_ I;(repeat (first|exact aj _ _|with_reducible refine eT ?_|with_reducible refine below_drewN ?_ _|with_reducible refine ei ?_))));have z:=SA.stay ST.o T C;have V:=ai T C.size;have s:=ae C;first|(have u:v2.heap[c.heap.size]?=de (.cells #[.int .i64 0,.int .i64 0,.slice dl 0 0] 76 (0,0)):=(I.block _ (by show _<(World.alloc c _).heap.size;simp)).t (aL c _);have a4:=ae (show∀w',(∀k,k≠c.heap.size->w'.heap[k]?=v2.heap[k]?)->((oG ⟨(m,j),l⟩ (g1,t)=dl/\B≠0)\/(oG ⟨(m,j),l⟩ (g1,t)=de ⟨(f,i),l⟩/\B=0/\fk w' c.heap.size (.slice a1 d c1) l))from λw' hw=>J.imp_right (λ⟨h1,h2,h3⟩=>⟨h1,h2,ew h3 (by show c.heap.size<=(World.alloc c _).heap.size;simp) (λk hk _=>hw k (by have h9:(World.alloc c _).heap.size<=k:=hk;simp at h9;omega))⟩));have c5:=ej u 0 rfl;have c6:=ej u 1 rfl;have c7:=ej u 2 rfl;have c8:=aO u;have ZA:=ae u;clear u I C J)|(have a5:=ae (show∀w',dd v2.heap.size v2 w'->((oG ⟨(m,j),l⟩ (g1,t)=dl/\B≠0)\/(oG ⟨(m,j),l⟩ (g1,t)=de ⟨(f,i),l⟩/\B=0/\fk w' c.heap.size (.slice a1 d c1) l))from λw' hw=>J.imp_right (λ⟨h1,h2,h3⟩=>⟨h1,h2,ew h3 (show c.heap.size<=c.heap.size from ag _) (λk _ hk=>hw.block k hk)⟩));clear I C J)))
 all_goals
  first
  |(have zz:=ZA.o;have hx:(((v2.setCell ⟨c.heap.size,0,dl⟩ (.int .i64 f)).setCell ⟨c.heap.size,1,dl⟩ (.int .i64 i)).setCell ⟨c.heap.size,2,dl⟩ (.slice a1 d c1)).heap[c.heap.size]?=de (.cells #[.int .i64 f,.int .i64 i,.slice a1 d c1] 76 (0,0)):=aB (o:=2) (aB (o:=1) (aB (o:=0) zz _) _) _;have p:dd c.heap.size c (((v2.setCell ⟨c.heap.size,0,dl⟩ (.int .i64 f)).setCell ⟨c.heap.size,1,dl⟩ (.int .i64 i)).setCell ⟨c.heap.size,2,dl⟩ (.slice a1 d c1)):=((s.o.setCell (ag _) _).setCell (ag _) _).setCell (ag _) _;have hu:=a4.o (((v2.setCell ⟨c.heap.size,0,dl⟩ (.int .i64 f)).setCell ⟨c.heap.size,1,dl⟩ (.int .i64 i)).setCell ⟨c.heap.size,2,dl⟩ (.slice a1 d c1)) (λk hk=>(aA 2 _ hk).t ((aA 1 _ hk).t (aA 0 _ hk)));generalize n:World.setCell _ _ _=w3 at hx p hu|-;obtain⟨q,hq⟩:∃b,b=c.heap.size:=⟨_,rfl⟩;have c4:c.heap.size<=q:=gi hq.symm;rw[<-hq]at hx|-;clear zz n hq ZA c5 c6 c7 c8 z V s a4)
  |(have hx:(v2.alloc (.cells #[.int .i64 f,.int .i64 i,.slice a1 d c1] 76)).heap[v2.heap.size]?=de (.cells #[.int .i64 f,.int .i64 i,.slice a1 d c1] 76 (0,0)):=aL _ _;have p:dd c.heap.size c (v2.alloc (.cells #[.int .i64 f,.int .i64 i,.slice a1 d c1] 76)):=s.o.alloc s.o.size _;have hu:=a5.o (v2.alloc (.cells #[.int .i64 f,.int .i64 i,.slice a1 d c1] 76)) ((aj _ _).alloc (ag _) _);have U:c.heap.size<=v2.heap.size:=s.o.size;generalize n:World.alloc _ _=w3 at hx p hu|-;obtain⟨q,hq⟩:∃b,b=v2.heap.size:=⟨_,rfl⟩;rw[<-hq]at hx U|-;have c4:=U;clear n hq z V s a5 U)
  clear k0 k1 k2;have e0:=ej hx 0 rfl;have e1:=ej hx 1 rfl;have e2:=ej hx 2 rfl;have x:=(p.block _ (hF M.o)).t M.o;have d6:=ej x 0 rfl;have d7:=ej x 1 rfl;have d8:=ej x 2 rfl;have gf:=aO x;have a8:=ae x;have B3:=ae p;have a2:=ae (gh a0.o p);have HU:=ae hu;have d4:¬(w.heap.size+1=q):=by have:=b9.o;omega
  have d5:¬(q=w.heap.size+1):=by omega
  have L:=ae (hF M.o);clear hx x p hu;rcases HU.o with⟨D,hc⟩|⟨hs,hc,hv⟩
  ·have d3:(B==0)=dT:=by rw[aJ];exact hc
   go_wp2_with fail
   have E:=aB (o:=2) (aB (o:=1) (aB (o:=0) a8.o f) i) (.slice a1 d c1);have r:w.heap.size<=w.heap.size+1:=by omega
   have A:dd w.heap.size w (((w3.setCell (w.heap.size+1,0) f).setCell (w.heap.size+1,1) i).setCell (w.heap.size+1,2) (.slice a1 d c1)):=(((y.o.t (a2.o.m y.o.size)).setCell r _).setCell r _).setCell r _;generalize n:World.setCell _ _ _=Z at E A|-;have hl:=aU (P:=ed) Z (w.heap.size+1) 0 76 [f,i,.slice a1 d c1] _ (bu E) Tryz.underlying76 rfl oo;exact aH (v:= .tuple #[.agg #[f,i,.slice a1 d c1],.bool dT]) (dC Tryz.results62 rfl hl) rfl ⟨A,_,_,_,_,_,_,rfl,.inl ⟨a3.o.t D,rfl⟩⟩
  ·subst hc;have b7:=ae hv;clear hv;go_wp2_with fail
   have E:=aB (o:=2) (aB (o:=1) (aB (o:=0) a8.o f) i) (.slice a1 d c1);have r:w.heap.size<=w.heap.size+1:=by omega
   have A:dd w.heap.size w (((w3.setCell (w.heap.size+1,0) f).setCell (w.heap.size+1,1) i).setCell (w.heap.size+1,2) (.slice a1 d c1)):=(((y.o.t (a2.o.m y.o.size)).setCell r _).setCell r _).setCell r _;have r5:fk (((w3.setCell (w.heap.size+1,0) f).setCell (w.heap.size+1,1) i).setCell (w.heap.size+1,2) (.slice a1 d c1)) w.heap.size (.slice a1 d c1) l:=(ew b7.o (by have:=y.o.size;have:=a0.o.size;omega) (λk hk _=>(aA 2 _ (by have:=L.o;omega)).t ((aA 1 _ (by have:=L.o;omega)).t (aA 0 _ (by have:=L.o;omega)))))
   generalize n:World.setCell _ _ _=Z at E A r5|-;have hl:=aU (P:=ed) Z (w.heap.size+1) 0 76 [f,i,.slice a1 d c1] _ (bu E) Tryz.underlying76 rfl oo;exact aH (v:= .tuple #[.agg #[f,i,.slice a1 d c1],.bool dE]) (dC Tryz.results62 rfl hl) rfl ⟨A,_,_,_,_,_,_,rfl,.inr ⟨l,a3.o.t hs,rfl,r5⟩⟩
abbrev SB(w:ax)(tb a:Nat)(c b:Int)(v:bd)(d0 d1 d2 d3 d4:Int):Prop:=w.cell? (tb,0)=c/\w.cell? (tb,1)=b/\w.cell? (tb,2)=de v/\w.cell? (a,0)=d0/\w.cell? (a,1)=d1/\w.cell? (a,2)=d2/\w.cell? (a,3)=d3/\w.cell? (a,4)=d4
theorem SB.zC{w w':ax}{tb a:Nat}{c b:Int}{v:bd}{d0 d1 d2 d3 d4:Int}(h:SB w tb a c b v d0 d1 d2 d3 d4)(h1:w'.heap[tb]?=w.heap[tb]?)(h2:w'.heap[a]?=w.heap[a]?):SB w' tb a c b v d0 d1 d2 d3 d4:=by
 obtain⟨a0,a1,a2,d,b1,b2,e,f⟩:=h;exact⟨(aw (w:=w) h1).t a0,(aw (w:=w) h1).t a1,(aw (w:=w) h1).t a2,(aw (w:=w) h2).t d,(aw (w:=w) h2).t b1,(aw (w:=w) h2).t b2,(aw (w:=w) h2).t e,(aw (w:=w) h2).t f⟩
theorem SB.stay{w w':ax}{tb a:Nat}{c b:Int}{v:bd}{d0 d1 d2 d3 d4:Int}(h:SB w tb a c b v d0 d1 d2 d3 d4)(h1:tb<w.heap.size)(h2:a<w.heap.size)(hb:dd w.heap.size w w'):SB w' tb a c b v d0 d1 d2 d3 d4:=h.zC (hb.block _ h1) (hb.block _ h2)
theorem SB.alloc{w:ax}{tb a:Nat}{c b:Int}{v:bd}{d0 d1 d2 d3 d4:Int}(h:SB w tb a c b v d0 d1 d2 d3 d4)(h1:tb<w.heap.size)(h2:a<w.heap.size)(o:Obj):SB (w.alloc o) tb a c b v d0 d1 d2 d3 d4:=h.stay h1 h2 ((aj _ _).alloc (ag _) o)
theorem SB.set{w:ax}{tb b a:Nat}{d c:Int}{v v0 v1 v2:bd}{d0 d1 d2 d3 d4:Int}(h1:tb≠a)(h2:b≠a)(h:SB w tb b d c v d0 d1 d2 d3 d4):SB (((w.setCell (a,0) v0).setCell (a,1) v1).setCell (a,2) v2) tb b d c v d0 d1 d2 d3 d4:=
 h.zC ((aA 2 v2 h1).t ((aA 1 v1 h1).t (aA 0 v0 h1))) ((aA 2 v2 h2).t ((aA 1 v1 h2).t (aA 0 v0 h2)))
theorem Fe(a:eL)(v vb:bd)(b:List UInt8)(w:ax)(hv:fz w v a.l)(d7:a.ok=dE)(hb:Rd w vb b)(R:b.length=33)(hx:b.getD 0 0=2):
  bl ed 62 #[.agg #[a.p.1,a.p.2,v],vb] w (ph w a b):=by
 obtain⟨⟨n,j⟩,l⟩:=a;obtain⟨ea,A,rfl,hle,f0,-⟩:=id hv.1;obtain⟨bb,bo,H,rfl,g0,c8⟩:=hb.gL 33 R (by decide);have g5:H<=9223372036854775807:=c8;have e9:H≠1/\H≠5/\H≠9/\H≠13:=by omega
 obtain⟨g2,g4,g6,g3⟩:=e9;obtain⟨el,d6⟩:=aK l.length;rw[<-d6]at hv|-;have HV:=ae hv;have HB:=ae hb;have F:=ae R;have d9:=ae d7;have HX:=ae hx;clear hv hb R d7 hle f0 c8 d6 hx;have b6:=ae (show eD ⟨(n,j),l⟩ b=(if(kh (b.drop 13)).2=0 then pq ⟨(n,j),l⟩ (uV b)else dl) by rw[eD,ak (by rw[F.o];rintro⟨h,-⟩;cases h),ar ⟨F.o,HX.o⟩]);obtain⟨⟨⟨d0,d1,d2,d3,d4⟩,U⟩,hD⟩:∃D,D=kh (b.drop 13):=⟨_,rfl⟩
 have c0:=ae (show(kh (b.drop 13)).1=⟨d0,d1,d2,d3,d4⟩ by rw[<-hD]);have a5:=ae (show(kh (b.drop 13)).2=U by rw[<-hD]);clear hD;go_enter func62,ntmps62
 go_upto_region 1 with fail
 generalize p:World.alloc _ _=M;obtain⟨X,Y,T,d8⟩:=lI p;have x:=ae T;have HZ:=ae d8;have c5:=ae X;have c7:=ae Y;have a2:=ae (HB.o.stay T);have e4:=ae (HV.o.stay T);have x0:M.cell? (bb,bo)=de (.int .u8 2):=by
  have h:=a2.o.qM 0 (by rw[F.o];decide);rw[HX.o]at h;exact h
 clear p d8 X Y T;go_upto_region 5 with fail
 have b9:=ae (show bl ed 71 #[.slice (bb,bo+13) 20 (H-13)] M λe w'=>e= .returned (.tuple #[.agg #[d0,d1,d2,d3,d4],U])/\dd M.heap.size M w' by
  have h:=vB _ _ _ (a2.o.tail 13 20 (by decide) rfl);rw[c0.o,a5.o]at h;exact h)
 clear x0;go_upto_region 6 with(go_at_call 71;refine b9.o.m ?_;rintro e wd ⟨rfl,c9⟩;have BD:=ae c9;clear c9)
 have B:dd M.heap.size M (wd.alloc (.cells #[d0,d1,d2,d3,d4] 54)):=BD.o.alloc BD.o.size _;have x2:(wd.alloc (.cells #[d0,d1,d2,d3,d4] 54)).heap[wd.heap.size]?=de (.cells #[d0,d1,d2,d3,d4] 54 (0,0)):=aL _ _;obtain⟨z,d5⟩:=aK wd.heap.size;rw[<-d5]at x2|-;generalize p:wd.alloc _=c at B x2|-;clear p BD b9;have t2:=(B.block _ (hF c5.o)).t c5.o;have y2:=(B.block _ (hF c7.o)).t c7.o;have s:=ae y2;have y:=ae t2;have a0:=ae B;have G:=ae x2;have a3:=ae (a2.o.stay B);have e5:=ae (e4.o.stay B);clear d5 B x2 y2 t2;by_cases hE:U=0
 ·subst hE;go_upto_region 8 with fail
  have a9:=hF y.o;have b0:=hF G.o;have S1:SB c w.heap.size z n j (.slice ea el A) d0 d1 d2 d3 d4:=⟨ej y.o 0 rfl,ej y.o 1 rfl,ej y.o 2 rfl,ej G.o 0 rfl,ej G.o 1 rfl,ej G.o 2 rfl,ej G.o 3 rfl,ej G.o 4 rfl⟩
  have ST:=ae S1;obtain⟨k0,k1,k2,k3,k4,k5,k6,k7⟩:=id S1;have c2:=ae (zT a3.o F.o 1 32 (by decide) rfl (by decide));have c3:=ae (zT a3.o F.o 5 28 (by decide) rfl (by decide));have c4:=ae (zT a3.o F.o 9 24 (by decide) rfl (by decide));obtain⟨g1,a6⟩:∃g:Int,g=oL (b.drop 1):=⟨_,rfl⟩
  obtain⟨I,a7⟩:∃g:Int,g=oL (b.drop 5):=⟨_,rfl⟩
  obtain⟨J,a8⟩:∃g:Int,g=oL (b.drop 9):=⟨_,rfl⟩
  rw[<-a6]at c2;rw[<-a7]at c3;rw[<-a8]at c4;have b5:=ae (show eD ⟨(n,j),l⟩ b=pq ⟨(n,j),l⟩ ⟨g1,(I,J),⟨d0,d1,d2,d3,d4⟩⟩ by rw[b6.o,ar a5.o,uV,a6,a7,a8,c0.o]);clear a6 a7 a8;have e3:=ae (λW (p:dd c.heap.size c W)=>CC ⟨(n,j),l⟩ g1 I J d0 d1 d2 d3 d4 (.slice ea el A) W (e5.o.stay p) d9.o);have e7:w.heap.size≠c.heap.size:=by omega
  have e8:z≠c.heap.size:=by omega
  clear S1;go_region_held3 (λw'=>w'.cell? ⟨w.heap.size,0,dl⟩=de (.int .i64 n)/\w'.cell? ⟨w.heap.size,1,dl⟩=de (.int .i64 j)/\w'.cell? ⟨w.heap.size,2,dl⟩=de (.slice ea el A)/\w'.cell? ⟨z,0,dl⟩=de (.int .i64 d0)/\w'.cell? ⟨z,1,dl⟩=de (.int .i64 d1)/\w'.cell? ⟨z,2,dl⟩=de (.int .i64 d2)/\w'.cell? ⟨z,3,dl⟩=de (.int .i64 d3)/\w'.cell? ⟨z,4,dl⟩=de (.int .i64 d4)) (first|with_reducible exact O|with_reducible exact O.alloc b2 b3 _|(refine SB.stay ST.o a9 b0 ?_;(repeat (first|exact aj _ _|with_reducible refine eT ?_|with_reducible refine below_drewN ?_ _|with_reducible refine ei ?_));done)|with_reducible exact O.set e7 e8) (first
   |(go_at_call 87;with_reducible refine(c2.o _ ?hb).m ?_;(case hb=>(repeat (first|exact aj _ _|with_reducible refine eT ?_|with_reducible refine below_drewN ?_ _|with_reducible refine ei ?_)));rintro e _ ⟨rfl,nq,rfl⟩)
   |(go_at_call 87;with_reducible refine(c3.o _ ?hb).m ?_;(case hb=>(repeat (first|exact aj _ _|with_reducible refine eT ?_|with_reducible refine below_drewN ?_ _|with_reducible refine ei ?_)));rintro e _ ⟨rfl,nq,rfl⟩)
   |(go_at_call 87;with_reducible refine(c4.o _ ?hb).m ?_;(case hb=>(repeat (first|exact aj _ _|with_reducible refine eT ?_|with_reducible refine below_drewN ?_ _|with_reducible refine ei ?_)));rintro e _ ⟨rfl,nq,rfl⟩)
   |(go_at_call 88;(with_reducible refine(e3.o _ ?hb).m ?_);(case hb=>(repeat (first|exact aj _ _|with_reducible refine eT ?_|with_reducible refine below_drewN ?_ _|with_reducible refine ei ?_)));rintro e v2 ⟨V,f,i,a1,d,c1,Q,rfl,Z⟩;have K:dd c.heap.size c v2:=(by(refine gh ?_ V;(repeat (first|exact aj _ _|with_reducible refine eT ?_|with_reducible refine below_drewN ?_ _|with_reducible refine ei ?_))));have O:=SB.stay ST.o a9 b0 K;have b2:=ai a9 K.size;have b3:=ai b0 K.size;have E:=ae K;first|(have L:v2.heap[c.heap.size]?=de (.cells #[.int .i64 0,.int .i64 0,.slice dl 0 0] 76 (0,0)):=(V.block _ (by show _<(World.alloc c _).heap.size;simp)).t (aL c _);have b7:=ae (show∀w',(∀k,k≠c.heap.size->w'.heap[k]?=v2.heap[k]?)->((pq ⟨(n,j),l⟩ ⟨g1,(I,J),⟨d0,d1,d2,d3,d4⟩⟩=dl/\Q≠0)\/(∃m,pq ⟨(n,j),l⟩ ⟨g1,(I,J),⟨d0,d1,d2,d3,d4⟩⟩=de ⟨(f,i),m⟩/\Q=0/\fk w' c.heap.size (.slice a1 d c1) m))from λw' hw=>Z.imp_right (λ⟨m,h1,h2,h3⟩=>⟨m,h1,h2,ew h3 (by show c.heap.size<=(World.alloc c _).heap.size;simp) (λk hk _=>hw k (by have h9:(World.alloc c _).heap.size<=k:=hk;simp at h9;omega))⟩));have f5:=ej L 0 rfl;have f6:=ej L 1 rfl;have f7:=ej L 2 rfl;have f8:=aO L;have ZA:=ae L;clear L V K Z)|(have b8:=ae (show∀w',dd v2.heap.size v2 w'->((pq ⟨(n,j),l⟩ ⟨g1,(I,J),⟨d0,d1,d2,d3,d4⟩⟩=dl/\Q≠0)\/(∃m,pq ⟨(n,j),l⟩ ⟨g1,(I,J),⟨d0,d1,d2,d3,d4⟩⟩=de ⟨(f,i),m⟩/\Q=0/\fk w' c.heap.size (.slice a1 d c1) m))from λw' hw=>Z.imp_right (λ⟨m,h1,h2,h3⟩=>⟨m,h1,h2,ew h3 (show c.heap.size<=c.heap.size from ag _) (λk _ hk=>hw.block k hk)⟩));clear V K Z)))
  all_goals
   first
   |(have zz:=ZA.o;have hx:(((v2.setCell ⟨c.heap.size,0,dl⟩ (.int .i64 f)).setCell ⟨c.heap.size,1,dl⟩ (.int .i64 i)).setCell ⟨c.heap.size,2,dl⟩ (.slice a1 d c1)).heap[c.heap.size]?=de (.cells #[.int .i64 f,.int .i64 i,.slice a1 d c1] 76 (0,0)):=aB (o:=2) (aB (o:=1) (aB (o:=0) zz _) _) _;have C:dd c.heap.size c (((v2.setCell ⟨c.heap.size,0,dl⟩ (.int .i64 f)).setCell ⟨c.heap.size,1,dl⟩ (.int .i64 i)).setCell ⟨c.heap.size,2,dl⟩ (.slice a1 d c1)):=((E.o.setCell (ag _) _).setCell (ag _) _).setCell (ag _) _;have hu:=b7.o (((v2.setCell ⟨c.heap.size,0,dl⟩ (.int .i64 f)).setCell ⟨c.heap.size,1,dl⟩ (.int .i64 i)).setCell ⟨c.heap.size,2,dl⟩ (.slice a1 d c1)) (λk hk=>(aA 2 _ hk).t ((aA 1 _ hk).t (aA 0 _ hk)));generalize p:World.setCell _ _ _=w3 at hx C hu|-;obtain⟨q,hq⟩:∃b,b=c.heap.size:=⟨_,rfl⟩;have f1:c.heap.size<=q:=gi hq.symm;rw[<-hq]at hx|-;clear zz p hq ZA f5 f6 f7 f8 O b2 b3 E b7)
   |(have hx:(v2.alloc (.cells #[.int .i64 f,.int .i64 i,.slice a1 d c1] 76)).heap[v2.heap.size]?=de (.cells #[.int .i64 f,.int .i64 i,.slice a1 d c1] 76 (0,0)):=aL _ _;have C:dd c.heap.size c (v2.alloc (.cells #[.int .i64 f,.int .i64 i,.slice a1 d c1] 76)):=E.o.alloc E.o.size _;have hu:=b8.o (v2.alloc (.cells #[.int .i64 f,.int .i64 i,.slice a1 d c1] 76)) ((aj _ _).alloc (ag _) _);have b1:c.heap.size<=v2.heap.size:=E.o.size;generalize p:World.alloc _ _=w3 at hx C hu|-;obtain⟨q,hq⟩:∃b,b=v2.heap.size:=⟨_,rfl⟩;rw[<-hq]at hx b1|-;have f1:=b1;clear p hq O b2 b3 E b8 b1)
   clear k0 k1 k2 k3 k4 k5 k6 k7;have e0:=ej hx 0 rfl;have e1:=ej hx 1 rfl;have e2:=ej hx 2 rfl;have N:=(C.block _ (hF s.o)).t s.o;have f2:=ej N 0 rfl;have f3:=ej N 1 rfl;have f4:=ej N 2 rfl;have gf:=aO N;have c6:=ae N;have B3:=ae C;have b4:=ae (gh a0.o C);have HU:=ae hu;have g8:¬(w.heap.size+1=q):=by have:=hF s.o;omega
   have g9:¬(q=w.heap.size+1):=by omega
   have a4:=ae (hF s.o);clear hx N C hu;rcases HU.o with⟨R,hc⟩|⟨m,hs,hc,hv⟩
   ·have g7:(Q==0)=dT:=by rw[aJ];exact hc
    go_wp2_with fail
    have u:=aB (o:=2) (aB (o:=1) (aB (o:=0) c6.o f) i) (.slice a1 d c1);have r:w.heap.size<=w.heap.size+1:=by omega
    have t:dd w.heap.size w (((w3.setCell (w.heap.size+1,0) f).setCell (w.heap.size+1,1) i).setCell (w.heap.size+1,2) (.slice a1 d c1)):=(((x.o.t (b4.o.m x.o.size)).setCell r _).setCell r _).setCell r _;generalize p:World.setCell _ _ _=S at u t|-;have hl:=aU (P:=ed) S (w.heap.size+1) 0 76 [f,i,.slice a1 d c1] _ (bu u) Tryz.underlying76 rfl oo;exact aH (v:= .tuple #[.agg #[f,i,.slice a1 d c1],.bool dT]) (dC Tryz.results62 rfl hl) rfl ⟨t,_,_,_,_,_,_,rfl,.inl ⟨b5.o.t R,rfl⟩⟩
   ·subst hc;have e6:=ae hv;clear hv;go_wp2_with fail
    have u:=aB (o:=2) (aB (o:=1) (aB (o:=0) c6.o f) i) (.slice a1 d c1);have r:w.heap.size<=w.heap.size+1:=by omega
    have t:dd w.heap.size w (((w3.setCell (w.heap.size+1,0) f).setCell (w.heap.size+1,1) i).setCell (w.heap.size+1,2) (.slice a1 d c1)):=(((x.o.t (b4.o.m x.o.size)).setCell r _).setCell r _).setCell r _;have r5:fk (((w3.setCell (w.heap.size+1,0) f).setCell (w.heap.size+1,1) i).setCell (w.heap.size+1,2) (.slice a1 d c1)) w.heap.size (.slice a1 d c1) m:=(ew e6.o (by have:=x.o.size;have:=a0.o.size;omega) (λk hk _=>(aA 2 _ (by have:=a4.o;omega)).t ((aA 1 _ (by have:=a4.o;omega)).t (aA 0 _ (by have:=a4.o;omega)))))
    generalize p:World.setCell _ _ _=S at u t r5|-;have hl:=aU (P:=ed) S (w.heap.size+1) 0 76 [f,i,.slice a1 d c1] _ (bu u) Tryz.underlying76 rfl oo;exact aH (v:= .tuple #[.agg #[f,i,.slice a1 d c1],.bool dE]) (dC Tryz.results62 rfl hl) rfl ⟨t,_,_,_,_,_,_,rfl,.inr ⟨m,b5.o.t hs,rfl,r5⟩⟩
 ·have f9:(U !=0)=dE:=by rw[eP];exact hE
  have h0:=ej y.o 0 rfl;have h4:=ej y.o 1 rfl;have h5:=ej y.o 2 rfl;have f2:=ej s.o 0 rfl;have f3:=ej s.o 1 rfl;have f4:=ej s.o 2 rfl;have gf:=aO s.o;go_wp2_with fail
  have u:=aB (o:=2) (aB (o:=1) (aB (o:=0) s.o n) j) (.slice ea el A);have r:w.heap.size<=w.heap.size+1:=by omega
  have t:dd w.heap.size w (((c.setCell (w.heap.size+1,0) n).setCell (w.heap.size+1,1) j).setCell (w.heap.size+1,2) (.slice ea el A)):=(((x.o.t (a0.o.m x.o.size)).setCell r _).setCell r _).setCell r _;generalize p:World.setCell _ _ _=S at u t|-;have hl:=aU (P:=ed) S (w.heap.size+1) 0 76 [n,j,.slice ea el A] _ (bu u) Tryz.underlying76 rfl oo;exact aH (v:= .tuple #[.agg #[n,j,.slice ea el A],.bool dT]) (dC Tryz.results62 rfl hl) rfl ⟨t,_,_,_,_,_,_,rfl,.inl ⟨by rw[b6.o,ak (by rw[a5.o];exact hE)],rfl⟩⟩
theorem Cl(a:eL)(v C:bd)(b:List UInt8)(w:ax)(hv:fz w v a.l)(A:a.ok=dE)(hb:Rd w C b)(p:b.length=9)(hx:b.getD 0 0≠1):
  bl ed 62 #[.agg #[a.p.1,a.p.2,v],C] w (ph w a b):=by
 obtain⟨⟨e,d⟩,l⟩:=a;obtain⟨ea,g,rfl,hle,M,-⟩:=id hv.1;obtain⟨J,K,k,rfl,T,y⟩:=hb.gL 9 p (by decide);have W:k<=9223372036854775807:=y;have L:k≠1/\k≠5:=by omega
 obtain⟨U,V⟩:=L;obtain⟨el,z⟩:=aK l.length;rw[<-z]at hv|-;have I:=ae hv;have G:=ae hb;have s:=ae p;have O:=ae A;have t:=ae hx;clear hv hb p A hle M y z hx;have F:=ae (show eD ⟨(e,d),l⟩ b=dl by rw[eD,ak (λh=>t.o h.2),ak (λh=>by have:=s.o;have:=h.1;omega)]);go_enter func62,ntmps62
 go_upto_region 1 with fail
 generalize m:World.alloc _ _=i;obtain⟨X,Y,f,B⟩:=lI m;have r:=ae f;have R:=ae B;have j:=ae X;have c:=ae Y;have H:=ae (G.o.stay f);have Q:=ae (I.o.stay f);obtain⟨x,q⟩:=aK (b.getD 0 0);have x0:i.cell? (J,K)=de (.int .u8 (x.toNat:Int)):=by
  have h:=H.o.qM 0 (by rw[s.o];decide);rw[<-q]at h;exact h
 have Z:((x.toNat:Int)==1)=dT:=by
  rw[aJ];intro h;exact t.o (by rw[<-q];exact UInt8.toNat_inj.1 (by show x.toNat=1;omega))
 clear q;clear m B X Y f;have E:=ae (aj i.heap.size i);have a0:=ej j.o 0 rfl;have a1:=ej j.o 1 rfl;have a2:=ej j.o 2 rfl;have a3:=ej c.o 0 rfl;have a4:=ej c.o 1 rfl;have a5:=ej c.o 2 rfl;have S:=aO c.o;go_wp2_with fail
 have D:=aB (o:=2) (aB (o:=1) (aB (o:=0) c.o e) d) (.slice ea el g);have n:w.heap.size<=w.heap.size+1:=by omega
 have u:dd w.heap.size w (((i.setCell (w.heap.size+1,0) e).setCell (w.heap.size+1,1) d).setCell (w.heap.size+1,2) (.slice ea el g)):=(((r.o.t (E.o.m r.o.size)).setCell n _).setCell n _).setCell n _;generalize m:World.setCell _ _ _=N at D u|-;have hl:=aU (P:=ed) N (w.heap.size+1) 0 76 [e,d,.slice ea el g] _ (bu D) Tryz.underlying76 rfl oo;exact aH (v:= .tuple #[.agg #[e,d,.slice ea el g],.bool dT]) (dC Tryz.results62 rfl hl) rfl ⟨u,_,_,_,_,_,_,rfl,.inl ⟨F.o,rfl⟩⟩
theorem Ar(a:eL)(v C:bd)(b:List UInt8)(w:ax)(hv:fz w v a.l)(A:a.ok=dE)(hb:Rd w C b)(p:b.length=33)(hx:b.getD 0 0≠2):
  bl ed 62 #[.agg #[a.p.1,a.p.2,v],C] w (ph w a b):=by
 obtain⟨⟨f,e⟩,l⟩:=a;obtain⟨ea,i,rfl,hle,M,-⟩:=id hv.1;obtain⟨J,K,d,rfl,T,y⟩:=hb.gL 33 p (by decide);have Z:d<=9223372036854775807:=y;have L:d≠1/\d≠5/\d≠9/\d≠13:=by omega
 obtain⟨U,W,a0,V⟩:=L;obtain⟨el,z⟩:=aK l.length;rw[<-z]at hv|-;have I:=ae hv;have G:=ae hb;have s:=ae p;have O:=ae A;have t:=ae hx;clear hv hb p A hle M y z hx;have F:=ae (show eD ⟨(f,e),l⟩ b=dl by rw[eD,ak (λh=>by have:=s.o;have:=h.1;omega),ak (λh=>t.o h.2)]);go_enter func62,ntmps62
 go_upto_region 1 with fail
 generalize m:World.alloc _ _=j;obtain⟨X,Y,g,B⟩:=lI m;have r:=ae g;have R:=ae B;have k:=ae X;have c:=ae Y;have H:=ae (G.o.stay g);have Q:=ae (I.o.stay g);obtain⟨x,q⟩:=aK (b.getD 0 0);have x0:j.cell? (J,K)=de (.int .u8 (x.toNat:Int)):=by
  have h:=H.o.qM 0 (by rw[s.o];decide);rw[<-q]at h;exact h
 have a1:((x.toNat:Int)==2)=dT:=by
  rw[aJ];intro h;exact t.o (by rw[<-q];exact UInt8.toNat_inj.1 (by show x.toNat=2;omega))
 clear q;clear m B X Y g;have E:=ae (aj j.heap.size j);have a2:=ej k.o 0 rfl;have a3:=ej k.o 1 rfl;have a4:=ej k.o 2 rfl;have a5:=ej c.o 0 rfl;have a6:=ej c.o 1 rfl;have a7:=ej c.o 2 rfl;have S:=aO c.o;go_wp2_with fail
 have D:=aB (o:=2) (aB (o:=1) (aB (o:=0) c.o f) e) (.slice ea el i);have n:w.heap.size<=w.heap.size+1:=by omega
 have u:dd w.heap.size w (((j.setCell (w.heap.size+1,0) f).setCell (w.heap.size+1,1) e).setCell (w.heap.size+1,2) (.slice ea el i)):=(((r.o.t (E.o.m r.o.size)).setCell n _).setCell n _).setCell n _;generalize m:World.setCell _ _ _=N at D u|-;have hl:=aU (P:=ed) N (w.heap.size+1) 0 76 [f,e,.slice ea el i] _ (bu D) Tryz.underlying76 rfl oo;exact aH (v:= .tuple #[.agg #[f,e,.slice ea el i],.bool dT]) (dC Tryz.results62 rfl hl) rfl ⟨u,_,_,_,_,_,_,rfl,.inl ⟨F.o,rfl⟩⟩
theorem Fg(a:eL)(v y:bd)(b:List UInt8)(w:ax)(hv:fz w v a.l)(E:a.ok=dE)(hb:Rd w y b)(p:b.length≠9)(m:b.length≠33):
  bl ed 62 #[.agg #[a.p.1,a.p.2,v],y] w (ph w a b):=by
 obtain⟨⟨e,d⟩,l⟩:=a;obtain⟨ea,f,rfl,hle,D,-⟩:=id hv.1;obtain⟨I,J,rfl,-,-⟩:=id hb.slice;obtain⟨n,u⟩:=aK b.length;have B:=ae (show eD ⟨(e,d),l⟩ b=dl by rw[eD,ak (λh=>p h.1),ak (λh=>m h.1)]);rw[<-u]at hb p m|-;have L:((n:Int)==9)=dT:=by rw[aJ];omega
 have K:((n:Int)==33)=dT:=by rw[aJ];omega
 obtain⟨el,t⟩:=aK l.length;rw[<-t]at hv|-;have C:=ae hv;clear hv hb E hle D t p m u;go_enter func62,ntmps62
 go_upto_region 1 with fail
 generalize j:World.alloc _ _=q;obtain⟨X,Y,g,x⟩:=lI j;have r:=ae g;have H:=ae x;have i:=ae X;have c:=ae Y;have G:=ae (C.o.stay g);clear j x X Y g;have A:=ae (aj q.heap.size q);have N:=ej i.o 0 rfl;have O:=ej i.o 1 rfl;have Q:=ej i.o 2 rfl;have R:=ej c.o 0 rfl;have S:=ej c.o 1 rfl;have T:=ej c.o 2 rfl;have M:=aO c.o;go_wp2_with fail
 have z:=aB (o:=2) (aB (o:=1) (aB (o:=0) c.o e) d) (.slice ea el f);have k:w.heap.size<=w.heap.size+1:=by omega
 have s:dd w.heap.size w (((q.setCell (w.heap.size+1,0) e).setCell (w.heap.size+1,1) d).setCell (w.heap.size+1,2) (.slice ea el f)):=(((r.o.t (A.o.m r.o.size)).setCell k _).setCell k _).setCell k _;generalize j:World.setCell _ _ _=F at z s|-;have hl:=aU (P:=ed) F (w.heap.size+1) 0 76 [e,d,.slice ea el f] _ (bu z) Tryz.underlying76 rfl oo;exact aH (v:= .tuple #[.agg #[e,d,.slice ea el f],.bool dT]) (dC Tryz.results62 rfl hl) rfl ⟨s,_,_,_,_,_,_,rfl,.inl ⟨B.o,rfl⟩⟩
theorem Fh(a:eL)(v e:bd)(b:List UInt8)(w:ax)(hv:fz w v a.l)(j:a.ok=dE)(hb:Rd w e b):
  bl ed 62 #[.agg #[a.p.1,a.p.2,v],e] w (ph w a b):=by
 by_cases h9:b.length=9
 ·by_cases h1:b.getD 0 0=1
  ·exact Ff a v e b w hv j hb h9 h1
  ·exact Cl a v e b w hv j hb h9 h1
 ·by_cases l:b.length=33
  ·by_cases h2:b.getD 0 0=2
   ·exact Fe a v e b w hv j hb l h2
   ·exact Ar a v e b w hv j hb l h2
  ·exact Fg a v e b w hv j hb h9 l
set_option maxHeartbeats 400000
def eR(a:eL)(d:List UInt8):Option (eL×Nat):=
 if d.length=0 then dl
 else if d.length<1+(d.getD 0 0).toNat+4 then dl
 else if(Sha.sum (d.take (1+(d.getD 0 0).toNat))).take 4=(d.drop (1+(d.getD 0 0).toNat)).take 4 then
  (eD a ((d.drop 1).take (d.getD 0 0).toNat)).map λc=>(c,1+(d.getD 0 0).toNat+4)
 else dl
def Gc:Nat->eL->List UInt8->eL×Nat
 |0,a,_=>(a,0)
 |f+1,a,d=>match eR a d with
  |none=>(a,0)
  |some (c,k)=>((Gc f c (d.drop k)).1,k+(Gc f c (d.drop k)).2)
theorem lL{a c:eL}{d:List UInt8}{k:Nat}(h:eR a d=de (c,k)):5<=k/\k<=d.length:=by
 unfold eR at h;split at h
 ·cases h
 ·split at h
  ·cases h
  ·split at h
   ·rename_i h1 h2 h3;obtain⟨x,hx,hy⟩:=ji.1 h;injection hy with _ hy;subst hy;omega
   ·cases h
theorem lW{f:Nat}{a:eL}{d:List UInt8}(h:eR a d=dl):Gc f a d=(a,0):=by
 cases f with
 |zero=>rfl
 |succ f=>rw[Gc,h]
theorem tR{f:Nat}{a c:eL}{d:List UInt8}{k:Nat}(h:eR a d=de (c,k)):Gc (f+1) a d=((Gc f c (d.drop k)).1,k+(Gc f c (d.drop k)).2):=by
 rw[Gc,h]
theorem FZ{a c:eL}{d:List UInt8}{k:Nat}(b:a.ok=dE)(h:eR a d=de (c,k)):c.ok=dE:=by
 unfold eR at h;split at h
 ·cases h
 ·split at h
  ·cases h
  ·split at h
   ·obtain⟨x,hx,hy⟩:=ji.1 h;injection hy with hy _;subst hy;exact xq b hx
   ·cases h
theorem zp:∀(f:Nat) (a:eL) (d:List UInt8) (g:Nat),d.length<=f->d.length<=g->Gc f a d=Gc g a d
 |0,a,d,g,h,_=>by
  have h0:eR a d=dl:=by rw[eR,ar (by omega)]
  rw[lW h0,lW h0]
 |f+1,a,d,0,_,h=>by
  have h0:eR a d=dl:=by rw[eR,ar (by omega)]
  rw[lW h0,lW h0]
 |f+1,a,d,g+1,h1,h2=>by
  cases hr:eR a d with
  |none=>rw[lW hr,lW hr]
  |some ck=>
   obtain⟨c,k⟩:=ck;have:=lL hr;rw[tR hr,tR hr,zp f c (d.drop k) g (by simp;omega) (by simp;omega)]
def cE(a:eL)(d:List UInt8):eL×Nat:=Gc d.length a d
theorem eK{a:eL}{d:List UInt8}(h:eR a d=dl):cE a d=(a,0):=lW h
theorem ie{a c:eL}{d:List UInt8}{k:Nat}(h:eR a d=de (c,k)):cE a d=((cE c (d.drop k)).1,k+(cE c (d.drop k)).2):=by
 have hp:=lL h;obtain⟨f,b⟩:∃f,d.length=f+1:=⟨d.length-1,by omega⟩
 rw[cE,b,tR h,cE,zp f c (d.drop k) (d.drop k).length (by simp;omega) (ag _)]
theorem nw:∀(m:Nat) (a:eL) (d:List UInt8),d.length<=m->(cE a d).2<=d.length
 |m,a,d,hm=>by
  cases hr:eR a d with
  |none=>rw[eK hr];exact bX _
  |some ck=>
   obtain⟨c,k⟩:=ck;have hp:=lL hr;rw[ie hr];cases m with
   |zero=>omega
   |succ m=>
    have h:=nw m c (d.drop k) (by simp;omega);simp only[cO]at h;show k+(cE c (d.drop k)).2<=d.length;omega
structure dK where
 kind:Int
 nK:Int
 dst:Int
 bG:Int×Int
 cP:cF
 aV:List cF
def dK.zero:dK:=⟨0,0,0,(0,0),cF.zero,[]⟩
structure eW where
 bG:Int×Int
 prom:List (Int×List cF)
 begun:Bool
 dD:List (Int×bk)
 aV:List (Int×List Int)
structure Ds where
 tag:Nat
 p:Int×Int
 l:List cF
 dst:Int
 bG:Int×Int
 cP:cF
structure dZ where
 up:Bool
 D:List UInt8
 iZ:Int
 p:Int×Int
 l:List cF
 heard:Int×Int
 rg:Option eW
 known:List (Int×bk)
 log:List bk
 store:dA
 queue:List bk
 wait:List bk
 inbox:List dK
 cI:Option Ds
 fN:Int
structure vj where
 node:Int
 bD:Int
 seq:Int
 yI:Int×Int
 deriving DecidableEq
structure aT where
 nd:Nat->dZ
 cz:List dK
 bad:List Int
 told:List vj
def cd{α:Type}:List (Int×α)->Int->Option α
 |[],_=>dl
 |p::m,k=>if p.1=k then de p.2 else cd m k
def di{α:Type}:List (Int×α)->Int->α->List (Int×α)
 |[],k,v=>[(k,v)]
 |p::m,k,v=>if p.1=k then(k,v)::m else p::di m k v
def iA(m:List Int)(k:Int):List Int:=if k∈m then m else m++[k]
theorem fw{α:Type}(m:List (Int×α))(k j:Int)(v:α):cd (di m k v) j=if k=j then de v else cd m j:=by
 induction m with
 |nil=>rfl
 |cons p m a=>
  unfold di;by_cases h:p.1=k
  ·rw[ar h];unfold cd;by_cases hj:k=j
   ·rw[ar hj,ar hj]
   ·rw[ak hj,ak hj,ak (λe=>hj (h.symm.t e))]
  ·rw[ak h];unfold cd;rw[a];by_cases hj:p.1=j
   ·rw[ar hj,ar hj,ak (λe=>h (hj.t e.symm))]
   ·rw[ak hj,ak hj]
theorem kQ{α:Type}{m:List (Int×α)}{k:Int}{v:α}(h:cd m k=de v):(k,v)∈m:=by
 induction m with
 |nil=>cases h
 |cons p m a=>
  unfold cd at h;split at h
  ·rename_i e;injection h with h;rw[<-e,<-h];exact bO ..
  ·exact bw _ (a h)
theorem wu{α:Type}(m:List (Int×α))(k:Int)(v:α):(di m k v).map (·.1)=if k∈m.map (·.1)then m.map (·.1)else m.map (·.1)++[k]:=by
 induction m with
 |nil=>simp[di]
 |cons p m a=>
  unfold di;by_cases h:p.1=k
  ·rw[ar h];simp[h]
  ·rw[ak h,dm,a,dm];by_cases hm:k∈m.map (·.1)
   ·rw[ar hm,ar (bw _ hm)]
   ·rw[ak hm,ak (λhc=>(dF.1 hc).elim (λe=>h e.symm) hm)];rfl
theorem km{α:Type}{m:List (Int×α)}(h:(m.map (·.1)).Nodup)(k:Int)(v:α):((di m k v).map (·.1)).Nodup:=by
 rw[wu];split
 ·exact h
 ·rename_i hk;exact mw.2 ⟨h,by simp,λa c b hb e=>hk (by rw[cL.1 hb]at e;exact e▸c)⟩
theorem lX{α:Type}{m:List (Int×α)}{k:Int}{v:α}{x:Int×α}(h:x∈di m k v):x=(k,v)\/x∈m:=by
 induction m with
 |nil=>exact .inl (cL.1 h)
 |cons p m a=>
  unfold di at h;split at h
  ·rcases dF.1 h with h|h
   ·exact .inl h
   ·exact .inr (bw _ h)
  ·rcases dF.1 h with h|h
   ·exact .inr (h▸bO ..)
   ·exact(a h).imp id (bw _)
theorem tV{m:List Int}(h:m.Nodup)(k:Int):(iA m k).Nodup:=by
 unfold iA;split
 ·exact h
 ·rename_i hk;exact mw.2 ⟨h,by simp,λa c b hb e=>hk (by rw[cL.1 hb]at e;exact e▸c)⟩
theorem Gj{m:List Int}{k x:Int}:x∈iA m k<->x=k\/x∈m:=by
 unfold iA;split
 ·rename_i hk;exact⟨.inr,λh=>h.elim (λe=>e▸hk) id⟩
 ·rw[dR,cL];exact Or.comm
def later(a b:Int×Int):Bool:=decide (b.1<a.1\/(a.1=b.1/\b.2<a.2))
def lG(n:Nat):Bool:=decide (5<2*n)
def dZ.blank(up:Bool)(D:List UInt8)(iZ:Int)(a:eL):dZ:=⟨up,D,iZ,a.p,a.l,(0,0),dl,[],[],dA.zero,[],[],[],dl,0⟩
def aT.zero:aT:=⟨λ_=>dZ.blank dE [] 0 eL.zero,[],List.replicate 5 0,[]⟩
def aT.aX(M:aT)(i:Nat)(n:dZ):aT:={M with nd:=λj=>if j=i then n else M.nd j}
def aT.send(M:aT)(i:Nat)(dst:Int)(l:dK):aT:={M with cz:=M.cz++[{l with nK:=(i:Int),dst:=dst}]}
def dZ.full(n:dZ)(k:Nat):Bool:=decide (100000<n.D.length+k)
def Jz(b:Int×Int):List UInt8:=Tp.frame (Tp.iJ b.1 b.2)
def ME(y:cF):List UInt8:=Tp.frame (Tp.sV y.slot y.bG.1 y.bG.2 y.cW.kind y.cW.bD y.cW.seq y.cW.name y.cW.value)
def aT.gj(M:aT)(i:Nat)(l:dK):aT:=
 if dX l.bG (M.nd i).p<0 then M.send i l.nK {dK.zero with kind:=7,bG:=(M.nd i).p}
 else if(M.nd i).p=l.bG then M.send i l.nK {dK.zero with kind:=1,bG:=l.bG,aV:=(M.nd i).l}
 else if(M.nd i).full 14 then M
 else M.aX i {M.nd i with D:=(M.nd i).D++Jz l.bG,cI:=de ⟨1,l.bG,(M.nd i).l,l.nK,l.bG,cF.zero⟩}
def aT.asked(M:aT)(i:Nat)(l:dK):aT:=
 if dX l.cP.bG (M.nd i).p<0 then M.send i l.nK {dK.zero with kind:=7,bG:=(M.nd i).p}
 else if l.cP∈(M.nd i).l then M.send i l.nK {dK.zero with kind:=3,cP:=l.cP}
 else if(M.nd i).full 38 then M
 else M.aX i {M.nd i with D:=(M.nd i).D++ME l.cP,cI:=de ⟨2,l.cP.bG,mA l.cP (M.nd i).l,l.nK,(0,0),l.cP⟩}
def aT.fX(M:aT)(i:Nat)(c:bk):aT:=
 let n:=M.nd i;let a:=M.aX i {n with log:=n.log++[c],store:=n.store.next c,queue:=n.queue.filter (λx=>decide (x≠c)),wait:=n.wait.erase c}
 if c∈n.wait then{a with told:=a.told++[⟨(i:Int),c.bD,c.seq,n.store.answer c⟩]}else a
def aT.jR:Nat->aT->Nat->aT
 |0,M,_=>M
 |f+1,M,i=>match cd (M.nd i).known ((M.nd i).log.length:Int)with
  |none=>M
  |some c=>jR f (M.fX i c) i
def aT.mH(M:aT)(i:Nat)(s:Int)(c:bk):aT:=(M.aX i {M.nd i with known:=di (M.nd i).known s c}).jR 41 i
def aT.fC(M:aT)(i:Nat)(l:dK):aT:=
 match(M.nd i).rg with
 |none=>M
 |some r=>
  if l.kind=1 then(if l.bG=r.bG then M.aX i {M.nd i with rg:=de {r with prom:=di r.prom l.nK l.aV}}else M)
  else if l.cP.bG=r.bG then
   let ks:=iA ((cd r.aV l.cP.slot).getD []) l.nK;let a:=M.aX i {M.nd i with rg:=de {r with aV:=di r.aV l.cP.slot ks}}
   if lG ks.length then a.mH i l.cP.slot l.cP.cW else a
  else M
def dZ.add(n:dZ)(c:bk):dZ:=if c∈n.queue\/c∈n.log then n else{n with queue:=n.queue++[c]}
def dZ.notes(n:dZ)(b:Int×Int):dZ:=if later b n.heard then{n with heard:=b}else n
def aT.oh(M:aT)(i:Nat)(l:dK):aT:=
 let a:=M.aX i ((M.nd i).notes l.bG)
 match cd (a.nd i).known l.cP.slot with
 |none=>a
 |some c=>a.send i l.nK {dK.zero with kind:=6,cP:=⟨l.cP.slot,(0,0),c⟩}
def aT.handle(M:aT)(i:Nat)(l:dK):aT:=
 if l.kind=0 then M.gj i l
 else if l.kind=1 then M.fC i l
 else if l.kind=2 then M.asked i l
 else if l.kind=3 then M.fC i l
 else if l.kind=4 then M.aX i ((M.nd i).add l.cP.cW)
 else if l.kind=5 then M.oh i l
 else if l.kind=6 then M.mH i l.cP.slot l.cP.cW
 else M.aX i ((M.nd i).notes l.bG)
def eW.lists(r:eW):List (List cF):=(List.range 5).map λ(m:Nat)=>(cd r.prom (m:Int)).getD []
def eW.top(r:eW):Int:=r.lists.flatten.foldl (λt v=>max t v.slot) (-1)
def eW.pick(r:eW)(s:Int):bk:=(r.lists.foldl (dJ s) cF.zero).cW
def eM(n:dZ)(r0:eW)(s0:Nat):Nat->List (Int×bk)
 |0=>r0.dD
 |k+1=>if(cd n.known ((s0+k:Nat):Int)).isSome then eM n r0 s0 k else di (eM n r0 s0 k) ((s0+k:Nat):Int) (r0.pick ((s0+k:Nat):Int))
def eW.begin(r:eW)(n:dZ):eW:={r with dD:=eM n r n.log.length (r.top+1-(n.log.length:Int)).toNat,begun:=dE}
def jr(n:dZ)(r:eW)(c:bk):Nat->Option Int
 |0=>dl
 |k+1=>
  let s:Int:=39-(k:Int)
  if cd r.dD s=de c\/cd n.known s=de c then dl
  else if cd r.dD s=dl/\cd n.known s=dl then de s
  else jr n r c k
def eW.ask(r:eW)(n:dZ)(c:bk):eW:=
 match jr n r c (40-n.log.length)with
 |none=>r
 |some s=>{r with dD:=di r.dD s c}
def aT.each(M:aT)(i:Nat)(ks:List Int)(l:dK):aT:=(List.range 5).foldl (λM (m:Nat)=>if(m:Int)∈ks then M else M.send i (m:Int) l) M
def aT.qi(M:aT)(i:Nat)(n:dZ)(r:eW)(s:Nat):aT:=
 match cd r.dD (s:Int),cd n.known (s:Int)with
 |some c,dl=>M.each i ((cd r.aV (s:Int)).getD []) {dK.zero with kind:=2,cP:=⟨(s:Int),r.bG,c⟩}
 |_,_=>M
def aT.ke(M:aT)(i:Nat)(r:eW):aT:=
 let n:=M.nd i
 if later r.bG n.p then
  (if n.full 14 then M else M.aX i {n with D:=n.D++Jz r.bG,cI:=de ⟨3,r.bG,n.l,0,r.bG,cF.zero⟩})
 else if lG r.prom.length then
  let r1:=if r.begun then r else r.begin n
  let a:=n.queue.foldl (λr c=>r.ask n c) r1
  (List.range 40).foldl (λM s=>M.qi i n a s) (M.aX i {n with rg:=de a})
 else M.each i (r.prom.map (·.1)) {dK.zero with kind:=0,bG:=r.bG}
def aT.asks(M:aT)(i:Nat):aT:=
 let n:={M.nd i with fN:=((M.nd i).fN+1)%5}
 let a:=M.aX i n
 if n.fN≠(i:Int)/\n.log.length<40 then a.send i n.fN {dK.zero with kind:=5,bG:=(if later n.heard n.p then n.heard else n.p),cP:=⟨(n.log.length:Int),(0,0),bk.zero⟩}else a
def aT.drop(M:aT)(i:Nat):aT:=
 match(M.nd i).rg with
 |some r=>if later (M.nd i).p r.bG then M.aX i {M.nd i with rg:=dl}else M
 |none=>M
def aT.mB(M:aT)(i:Nat):aT:=
 let a:=M.drop i;let n:=a.nd i
 match n.rg with
 |some r=>
  let b:=a.ke i r
  if(b.nd i).cI.isSome then b else b.asks i
 |none=>
  if 0<n.p.1/\n.p.2≠(i:Int)then(n.queue.foldl (λM c=>M.send i n.p.2 {dK.zero with kind:=4,cP:=⟨0,(0,0),c⟩}) a).asks i
  else a.asks i
def aT.iz(M:aT)(i:Nat)(q:Ds):aT:=
 let n:={M.nd i with iZ:=((M.nd i).D.length:Int),cI:=dl,p:=q.p,l:=q.l}
 if q.tag=3 then
  M.aX i {n with rg:=n.rg.map λr=>if r.bG=q.bG then{r with prom:=di r.prom (i:Int) q.l}else r}
 else if q.tag=1 then(M.aX i n).send i q.dst {dK.zero with kind:=1,bG:=q.bG,aV:=q.l}
 else(M.aX i n).send i q.dst {dK.zero with kind:=3,cP:=q.cP}
def aT.serve:Nat->aT->Nat->aT
 |0,M,_=>M
 |f+1,M,i=>if(M.nd i).cI.isSome then M else match(M.nd i).inbox with
  |[]=>M
  |l::ls=>serve f ((M.aX i {M.nd i with inbox:=ls}).handle i l) i
def aT.step(M:aT)(i:Nat):aT:=
 if(M.nd i).up then
  match(M.nd i).cI with
  |some q=>M.iz i q
  |none=>
   let a:=M.serve (M.nd i).inbox.length i
   if(a.nd i).cI.isSome then a else a.mB i
 else M
def aT.jG(M:aT)(l:dK):aT:=if(M.nd l.dst.toNat).up then M.aX l.dst.toNat {M.nd l.dst.toNat with inbox:=(M.nd l.dst.toNat).inbox++[l]}else M
def aT.iC(M:aT)(k:Nat)(comes stays:Bool):aT:=
 if M.cz=[]then M else
 let l:=M.cz.getD (k%M.cz.length) dK.zero;let a:=if stays then M else{M with cz:=M.cz.eraseIdx (k%M.cz.length)}
 if comes then a.jG l else a
def aT.sO(M:aT):aT:=M.cz.foldl (λM l=>M.jG l) {M with cz:=[]}
def aT.fQ(M:aT)(i:Nat)(o:bk×Int):aT:=
 let n:=M.nd i
 if n.up then
  if o.2≠0 then{M with bad:=M.bad.set i (M.bad.getD i 0+1)}
  else if o.1∈n.log then{M with told:=M.told++[⟨(i:Int),o.1.bD,o.1.seq,n.store.answer o.1⟩]}
  else
   let a:=n.add o.1
   M.aX i {a with wait:=if o.1∈a.wait then a.wait else a.wait++[o.1]}
 else M
def aT.lead(M:aT)(i:Nat):aT:=
 let n:=M.nd i;let r0:=max n.p.1 n.heard.1+1;let r1:=match n.rg with|some r=>max r0 (r.bG.1+1)|none=>r0
 if n.up/\r1<=65536 then M.aX i {n with rg:=de ⟨(r1,(i:Int)),[],dT,[],[]⟩}else M
def aT.jT(M:aT)(i:Nat)(keep:Nat):aT:=
 let n:=M.nd i
 if n.up then
  let k:=n.iZ.toNat+min keep (n.D.length-n.iZ.toNat)
  M.aX i (dZ.blank dT (n.D.take k) (k:Int) eL.zero)
 else M
def aT.start(M:aT)(i:Nat):aT:=
 let n:=M.nd i
 if n.up then M else
  let k:=(cE eL.zero n.D).2
  M.aX i (dZ.blank dE (n.D.take k) (min n.iZ (k:Int)) (cE eL.zero (n.D.take k)).1)
structure AF where
 kind:Int
 node:Int
 at_:Int
 keep:Int
 MA:Int->bk×Int
def aT.act(M:aT)(a:AF):aT:=
 if a.kind=1 then M.fQ a.node.toNat (a.MA ((M.nd a.node.toNat).log.length:Int))
 else if a.kind=2 then M.lead a.node.toNat
 else if a.kind=3 then M.step a.node.toNat
 else if a.kind=4 then M.iC a.at_.toNat dE dT
 else if a.kind=5 then M.iC a.at_.toNat dT dT
 else if a.kind=6 then M.iC a.at_.toNat dE dE
 else if a.kind=7 then M.sO
 else if a.kind=8 then M.jT a.node.toNat a.keep.toNat
 else M.start a.node.toNat
def pS(l:List AF):aT:=l.foldl aT.act aT.zero
end Go.Proofs.YtcdmenphjilnnaaGreatDoor
namespace Go.Con
set_option maxHeartbeats 400000
def dO(W:ax)(b:Nat)(m:List (Int×bd)):Prop:=
 ∃es clock,W.heap[b]?=de (.map es clock)/\es.toList.map (λe=>(e.key,e.val))=m.map (λp=>(Value.int .i64 p.1,p.2))
def nz{α:Type}:List (Int×α)->Int->Option (Nat×α)
 |[],_=>dl
 |p::m,k=>if p.1=k then de (0,p.2)else(nz m k).map λx=>(x.1+1,x.2)
end Go.Con
namespace Go.Proofs.YtcdmenphjilnnaaGreatDoor
open Go.RowKit Go.Con
set_option maxHeartbeats 400000
theorem zt{α:Type}(m:List (Int×α))(k:Int):(nz m k).map (·.2)=cd m k:=by
 induction m with
 |nil=>rfl
 |cons p m a=>
  unfold nz cd;split
  ·rfl
  ·rw[<-a];cases nz m k<;>rfl
theorem Ee{α:Type}{m:List (Int×α)}{k:Int}(h:nz m k=dl)(v:α):cd m k=dl/\di m k v=m++[(k,v)]:=by
 induction m with
 |nil=>exact⟨rfl,rfl⟩
 |cons p m b=>
  unfold nz at h;split at h
  ·cases h
  ·rename_i hp;have a:nz m k=dl:=by cases hq:nz m k<;>simp[hq]at h|-
   obtain⟨h1,h2⟩:=b a;unfold cd di;rw[ak hp,ak hp,h1,h2];exact⟨rfl,rfl⟩
theorem Ed{α:Type}{m:List (Int×α)}{k:Int}{i:Nat}{x:α}(h:nz m k=de (i,x))(v:α):cd m k=de x/\i<m.length/\m[i]?=de (k,x)/\di m k v=m.set i (k,v):=by
 induction m generalizing i with
 |nil=>cases h
 |cons p m a=>
  unfold nz at h;split at h
  ·rename_i hp;injection h with h;injection h with h1 h2;subst h1 h2;unfold cd di;rw[ar hp,ar hp];exact⟨rfl,by simp,by rw[<-hp];rfl,rfl⟩
  ·rename_i hp;obtain⟨y,hy,e⟩:=ji.1 h;injection e with e1 e2;obtain⟨j,z⟩:=y;have e2:z=x:=e2;have e1:j+1=i:=e1;subst e1 e2;obtain⟨h1,h2,h3,h4⟩:=a hy;unfold cd di;rw[ak hp,ak hp,h1,h4];exact⟨rfl,by simpa using h2,h3,rfl⟩
theorem sm(k:Int):∀(es:List MapEntry) (m:List (Int×bd)) (i:Nat),es.map (λe=>(e.key,e.val))=m.map (λp=>(Value.int .i64 p.1,p.2))->
  Instr.findNow (.int .i64) k es i=de ((nz m k).map λx=>(i+x.1,x.2))
 |[],[],_,_=>rfl
 |[],_::_,_,h=>by cases h
 |_::_,[],_,h=>by cases h
 |e::es,p::m,i,h=>by
  injection h with h1 h2;have hk:e.key= .int .i64 p.1:=dz Prod.fst h1;have hv:e.val=p.2:=dz Prod.snd h1;have a:=sm k es m (i+1) h2;unfold Instr.findNow nz;rw[hk];by_cases hp:p.1=k
  ·rw[ar hp];simp[Instr.sameNow,hp,hv]
  ·have hb:(k==p.1)=dT:=by rw[aJ];exact λe=>hp e.symm
   rw[ak hp];simp only[Instr.sameNow,if_true,hb];rw[a];cases nz m k with
   |none=>rfl
   |some x=>simp;omega
section
variable{P:Program}{W:ax}{b:Nat}{m:List (Int×bd)}{t kt et:TypeId}
theorem oE(hk:P.underlying kt=de (.int .i64))(k:Int)(es:List MapEntry)(h:es.map (λe=>(e.key,e.val))=m.map (λp=>(Value.int .i64 p.1,p.2))):
  (Instr.findKey kt k es).run P W= .ok (nz m k) W:=by
 unfold Instr.findKey;rw[eu,dt hk];simp only[eX];rw[sm k es m 0 h];have e:(nz m k).map (λx=>(0+x.1,x.2))=nz m k:=by cases nz m k<;>simp
 rw[e];rfl
theorem lC(hk:P.underlying kt=de (.int .i64))(k:Int)(em:Bool):(Instr.checkKey em 10000 kt k).run P W= .ok () W:=by
 unfold Instr.checkKey;rw[eu,dt hk];rfl
theorem re(h:dO W b m)(c:P.underlying t=de (.map kt et))(hk:P.underlying kt=de (.int .i64))(z:bd)(d:(zeroValue et).run P W= .ok z W)(k:Int):
  (Instr.lookup t (.map (de b)) k dT).run P W= .ok ((cd m k).getD z) W:=by
 obtain⟨es,clock,hb,he⟩:=h;have hg:(getObj b).run P W= .ok (.map es clock) W:=by simp[getObj,Sem.run,hb]
 have a:=oE (P:=P) (W:=W) hk k es.toList he;have hp:=zt m k;unfold Instr.lookup;simp only[eu,dt c,eX,hg,gW,lC hk,a];cases hq:nz m k with
 |none=>
  rw[hq]at hp;simp only[Option.map_none]at hp;simp[d,<-hp,eu,gW]
 |some x=>
  rw[hq]at hp;simp only[eH]at hp;simp[<-hp,gW]
theorem pP(h:dO W b m)(c:P.underlying t=de (.map kt et))(hk:P.underlying kt=de (.int .i64))(z:bd)(d:(zeroValue et).run P W= .ok z W)(k:Int):
  (Instr.lookup t (.map (de b)) k dE).run P W= .ok (.tuple #[(cd m k).getD z,.bool (cd m k).isSome]) W:=by
 obtain⟨es,clock,hb,he⟩:=h;have hg:(getObj b).run P W= .ok (.map es clock) W:=by simp[getObj,Sem.run,hb]
 have a:=oE (P:=P) (W:=W) hk k es.toList he;have hp:=zt m k;unfold Instr.lookup;simp only[eu,dt c,eX,hg,gW,lC hk,a];cases hq:nz m k with
 |none=>
  rw[hq]at hp;simp only[Option.map_none]at hp;simp[d,<-hp,eu,gW]
 |some x=>
  rw[hq]at hp;simp only[eH]at hp;simp[<-hp,gW]
theorem lU(h:dO W b m)(f:P.underlying t=de (.map kt et))(hk:P.underlying kt=de (.int .i64))(k:Int)(v:bd):
  ∃o,(Instr.mapUpdate t (.map (de b)) (.int .i64 k) v).run P W= .ok () {W with heap:=W.heap.setIfInBounds b o}/\dO {W with heap:=W.heap.setIfInBounds b o} b (di m k v):=by
 obtain⟨es,clock,hb,he⟩:=h;have hlt:=hF hb;have hg:(getObj b).run P W= .ok (.map es clock) W:=by simp[getObj,Sem.run,hb]
 have a:=oE (P:=P) (W:=W) hk k es.toList he;have c:∀o,(setObj b o).run P W= .ok () {W with heap:=W.heap.setIfInBounds b o}:=λo=>by simp[setObj,Sem.run,hb]
 have d:∀o,({W with heap:=W.heap.setIfInBounds b o}:ax).heap[b]?=de o:=λo=>by simp[hlt]
 cases hq:nz m k with
 |none=>
  rw[hq]at a;refine⟨.map (es.push {key:= .int .i64 k,val:=v,born:=clock}) (clock+1),?_,es.push {key:= .int .i64 k,val:=v,born:=clock},clock+1,d _,?_⟩
  ·unfold Instr.mapUpdate;simp only[eu,dt f,eX,hg,lC hk,a,c]
  ·rw[(Ee hq v).2,Array.toList_push,du,he,du];rfl
 |some x=>
  obtain⟨i,u⟩:=x;rw[hq]at a;obtain⟨-,h2,h3,h4⟩:=Ed hq v;have hl:es.size=m.length:=by
   have:=dz List.length he;simpa using this
  have g:((es[i]?).map (·.key)).getD (.int .i64 k)= .int .i64 k:=by
   have h5:=dz (·[i]?) he;simp only[fL,h3,eH,fU]at h5;rw[bm (by omega)]at h5|-;simp only[eH,Option.some.injEq,Prod.mk.injEq]at h5;simp[h5.1]
  refine⟨.map (es.modify i λe=>{e with key:= .int .i64 k,val:=v}) clock,?_,es.modify i λe=>{e with key:= .int .i64 k,val:=v},clock,d _,?_⟩
  ·unfold Instr.mapUpdate;simp only[eu,dt f,eX,hg,lC hk,a,c,g];simp[Instr.keyThatStays,Instr.sameBits,gW,eX,c]
  ·rw[h4];apply List.ext_getElem?;intro j;have h6:=dz (·[j]?) he;simp only[fL,fU]at h6;simp only[fL,fU,Array.getElem?_modify,gB];by_cases hj:i=j
   ·subst hj;rw[ar rfl,ar rfl,ar h2,bm (by omega)];rfl
   ·rw[ak hj,ak hj];exact h6
end
theorem dO.other{W a:ax}{b:Nat}{m:List (Int×bd)}(h:dO W b m)(c:a.heap[b]?=W.heap[b]?):dO a b m:=by
 obtain⟨es,clock,hb,he⟩:=h;exact⟨es,clock,c.t hb,he⟩
theorem dO.len{W:ax}{b:Nat}{m:List (Int×bd)}(h:dO W b m):∃es clock,W.heap[b]?=de (.map es clock)/\es.size=m.length:=by
 obtain⟨es,clock,hb,he⟩:=h;exact⟨es,clock,hb,by simpa using dz List.length he⟩
theorem dO.new(W:ax):dO (W.alloc (.map #[] 0)) W.heap.size []:=⟨#[],0,aL _ _,rfl⟩
abbrev bI:=Nat->Nat×Nat
def ev(hH:bI)(tg:Nat×Nat)(t:TypeId)(sz:Nat)(W:ax)(v:bd)(n:Nat)(cs:List bd):Prop:=
 cs.length=n*sz/\((v= .slice dl 0 0/\n=0)\/∃b off cap c,v= .slice (b,off) n cap/\n<=cap/\cap<=maxLen/\hH b=tg/\W.heap[b]?=de (.cells c t (0,0))/\off+cap*sz<=c.size/\∀j,j<cs.length->c[off+j]?=cs[j]?)
structure cG(hH:bI)(W:ax)(hO:bI)(W':ax)(T:Nat×Nat->Prop):Prop where
 os:W'.os=W.os
 tape:W'.tape=W.tape
 output:W'.output=W.output
 size:W.heap.size<=W'.heap.size
 block:∀k,k<W.heap.size->¬T (hH k)->W'.heap[k]?=W.heap[k]?
 marks:∀k,k<W.heap.size->hO k=hH k
theorem cG.refl(hH:bI)(W:ax)(T:Nat×Nat->Prop):cG hH W hH W T:=⟨rfl,rfl,rfl,ag _,λ_ _ _=>rfl,λ_ _=>rfl⟩
theorem cG.t{hH d e:bI}{W a b:ax}{T:Nat×Nat->Prop}(h:cG hH W d a T)(k:cG d a e b T):cG hH W e b T:=
 ⟨k.os.t h.os,k.tape.t h.tape,k.output.t h.output,aE h.size k.size,
  λi hi c=>(k.block i (ai hi h.size) (by rw[h.marks i hi];exact c)).t (h.block i hi c),
  λi hi=>(k.marks i (ai hi h.size)).t (h.marks i hi)⟩
theorem cG.m{hH b:bI}{W a:ax}{T T':Nat×Nat->Prop}(h:cG hH W b a T)(c:∀x,T x->T' x):cG hH W b a T':=
 ⟨h.os,h.tape,h.output,h.size,λk hk d=>h.block k hk (λe=>d (c _ e)),h.marks⟩
theorem cG.below{hH:bI}{W a:ax}{T:Nat×Nat->Prop}(h:dd W.heap.size W a):cG hH W hH a T:=
 ⟨h.os,h.tape,h.output,h.size,λk hk _=>h.block k hk,λ_ _=>rfl⟩
theorem ev.stay{hH d:bI}{tg:Nat×Nat}{t:TypeId}{sz:Nat}{W a:ax}{v:bd}{n:Nat}{cs:List bd}(h:ev hH tg t sz W v n cs)(hb:∀k,k<W.heap.size->hH k=tg->a.heap[k]?=W.heap[k]?)(hm:∀k,k<W.heap.size->d k=hH k):ev d tg t sz a v n cs:=by
 obtain⟨h1,h2⟩:=h;refine⟨h1,?_⟩;rcases h2 with h2|⟨b,off,cap,c,h2,h3,h4,h5,h6,e,f⟩
 ·exact .inl h2
 ·have hlt:=hF h6;exact .inr ⟨b,off,cap,c,h2,h3,h4,(hm b hlt).t h5,(hb b hlt h5).t h6,e,f⟩
theorem ev.cB{hH c:bI}{tg:Nat×Nat}{t:TypeId}{sz:Nat}{W a:ax}{T:Nat×Nat->Prop}{v:bd}{n:Nat}{cs:List bd}(h:ev hH tg t sz W v n cs)(b:cG hH W c a T)(d:¬T tg):ev c tg t sz a v n cs:=
 h.stay (λk hk e=>b.block k hk (by rw[e];exact d)) b.marks
theorem ev.nil(hH:bI)(tg:Nat×Nat)(t:TypeId)(sz:Nat)(W:ax):ev hH tg t sz W (.slice dl 0 0) 0 []:=⟨by simp,.inl ⟨rfl,rfl⟩⟩
theorem ev.shape{hH:bI}{tg:Nat×Nat}{t:TypeId}{sz:Nat}{W:ax}{v:bd}{n:Nat}{cs:List bd}(h:ev hH tg t sz W v n cs):∃a cap,v= .slice a n cap/\n<=cap/\cap<=maxLen:=by
 rcases h.2 with⟨h1,h2⟩|⟨b,off,cap,c,h2,h3,h4,-⟩
 ·exact⟨dl,0,by rw[h1,h2],by omega,bX _⟩
 ·exact⟨_,_,h2,h3,h4⟩
theorem ev.cell{hH:bI}{tg:Nat×Nat}{t:TypeId}{sz:Nat}{W:ax}{a:Option Addr}{n cap:Nat}{cs:List bd}(h:ev hH tg t sz W (.slice a n cap) n cs)(g:0<n):
  ∃b off,a=(b,off)/\b<W.heap.size/\hH b=tg/\∀j,j<n*sz->W.cell? (b,off+j)=cs[j]?:=by
 rcases h.2 with⟨-,h2⟩|⟨b,off,e,c,h2,h3,h4,h5,h6,f,d⟩
 ·omega
 ·injection h2 with e1 e2 e3;refine⟨b,off,e1,hF h6,h5,λj hj=>?_⟩;rw[<-d j (by rw[h.1];exact hj)];simp[World.cell?,h6]
section
variable{P:Program}{hH:bI}{tg:Nat×Nat}{t ts:TypeId}{sz bytes:Nat}{W:ax}{v:bd}{n:Nat}{cs:List bd}
theorem cY(b:Nat):∀(vs:List bd) (o:Nat) (W:ax),(W.setCells b o vs).heap.size=W.heap.size/\(W.setCells b o vs).tape=W.tape/\(W.setCells b o vs).os=W.os/\(W.setCells b o vs).output=W.output
 |[],_,_=>⟨rfl,rfl,rfl,rfl⟩
 |u::vs,o,W=>by
  obtain⟨h1,h2,h3,h4⟩:=cY b vs (o+1) (W.setCell (b,o) u);exact⟨h1.t (by simp[World.setCell]),h2.t rfl,h3.t rfl,h4.t rfl⟩
theorem ep(b k:Nat)(hk:k≠b):∀(vs:List bd) (o:Nat) (W:ax),(W.setCells b o vs).heap[k]?=W.heap[k]?
 |[],_,_=>rfl
 |u::vs,o,W=>(ep b k hk vs (o+1) _).t (aA _ _ hk)
theorem eC(b:Nat)(t:TypeId)(f:Nat×Nat):∀(vs:List bd) (o:Nat) (c:Array bd) (W:ax),W.heap[b]?=de (.cells c t f)->o+vs.length<=c.size->
  ∃a,(W.setCells b o vs).heap[b]?=de (.cells a t f)/\a.size=c.size/\∀j,a[j]?=if o<=j/\j<o+vs.length then vs[j-o]? else c[j]?
 |[],o,c,W,h,_=>⟨c,h,rfl,λj=>by rw[ak (by simp)]⟩
 |u::vs,o,c,W,h,hl=>by
  have h1:(W.setCell (b,o) u).heap[b]?=de (.cells (c.setIfInBounds o u) t f):=aB h u;obtain⟨a,h2,h3,h4⟩:=eC b t f vs (o+1) (c.setIfInBounds o u) _ h1 (by simp at hl|-;omega);refine⟨a,h2,by rw[h3];simp,λj=>?_⟩;rw[h4 j];simp only[aZ]at hl|-;by_cases e1:o+1<=j/\j<o+1+vs.length
  ·rw[ar e1,ar ⟨by omega,by omega⟩,show j-o=(j-(o+1))+1 by omega];rfl
  ·rw[ak e1];by_cases e2:j=o
   ·subst e2;rw[ar ⟨ag _,by omega⟩,vC (by omega),Nat.sub_self];rfl
   ·rw[ak (by omega),cV (λe=>e2 e.symm)]
theorem nt(h:ev hH tg t sz W v n cs)(r:P.underlying ts=de (.slice t)){i:TypeInfo}(hi:P.info? t=de i){z:bd}(M:i.zero=de z)(q:i.size=sz)(B:i.bytes=bytes)(N:z.cells.size=sz)(O:0<sz)
  (g:Nat)(news:List bd)(K:news.length=sz)(hg:W.heap[g]?=de (.cells news.toArray t (0,0)))(L:∀u∈news,u.oneCell'=dE)(s:n+1<=maxLen)(C:(n+1)*bytes<=140737488355328)(ty:TypeId):
  ∃l a d,(Builtin.append_ #[ts,ts] ty #[v,.slice (g,0) 1 1]).run P W= .ok l a/\ev d tg t sz a l (n+1) (cs++news)/\cG hH W d a (·=tg)/\(∀k,a.heap.size<=k->d k=hH k):=by
 have hs:Src P sz ts (.slice (g,0) 1 1) 1 news W:=Src.ofSlice W r _ 1 1 news (by omega) (λj u hu=>by
  rw[gY,ca];exact ej hg j (by simpa using hu)) L
 subst q;subst B;have m:=h.1;have hlen:(cs++news).length=(n+1)*i.size:=by rw[aD,m,K,Nat.add_mul,Nat.one_mul]
 have grow:∀(bs:Option Addr) (f:Nat),v= .slice bs n f->f<n+1->(Builtin.firstCells i.size n (.slice bs n f)).run P W.drew= .ok cs.toArray W.drew->
   ∃l a d,(Builtin.append_ #[ts,ts] ty #[v,.slice (g,0) 1 1]).run P W= .ok l a/\ev d tg t i.size a l (n+1) (cs++news)/\cG hH W d a (·=tg)/\(∀k,a.heap.size<=k->d k=hH k):=by
  rintro bs f rfl hlt hold;have p:=run_append_grow_src (P:=P) W ts ts ty t i z r hi M bs n f cs hold _ 1 news hs hlt (by unfold maxLen at s;omega) (growslice_fits hlt C);have I:=grownCap_ge W (n+1) f t;have G:=grownCap_le_maxLen W (n+1) f t s;refine⟨_,_,λk=>if k=W.heap.size then tg else hH k,p,⟨hlen,.inr ⟨W.heap.size,0,_,_,rfl,I,G,ar rfl,aL W.drew _,?_,λj hj=>?_⟩⟩,⟨rfl,rfl,rfl,?_,λk hk _=>eF W.drew _ k hk,λk hk=>ak (by omega)⟩,λk hk=>ak ?_⟩
  ·rw[Array.size_append,dL,hlen,size_zeroCells,N,ca,<-Nat.add_mul];exact gq _ (by omega)
  ·rw[ca,Array.getElem?_append_left (by simpa using hj),nh]
  ·show W.heap.size<=(W.drew.alloc _).heap.size;rw[cp];exact Nat.le_succ _
  ·intro e;rw[cp]at hk;have:W.drew.heap.size=W.heap.size:=rfl;omega
 rcases h.2 with⟨rfl,h0⟩|⟨b,off,cap,c,rfl,h3,h4,h5,h6,A,x⟩
 ·subst h0;obtain rfl:cs=[]:=bq (by simpa using m);exact grow dl 0 rfl (by omega) (run_firstCells_none W.drew i.size 0 0 0)
 ·by_cases o:n+1<=cap
  ·have H:off+n*i.size+news.length<=c.size:=by
    have h9:(n+1)*i.size<=cap*i.size:=gq _ o;rw[Nat.add_mul,Nat.one_mul]at h9;omega
   have p:=run_append_room_src (P:=P) W ts ts ty t i r hi b off n cap _ 1 news hs o
    (λj hj=>by
     have:(c[off+n*i.size+j]?).isSome=dE:=by rw[bm (by omega)];rfl
     simpa[World.cell?,h6]using this)
    (λj _=>aO h6 _)
   obtain⟨y,D,E,F⟩:=eC b t (0,0) news (off+n*i.size) c W h6 H;have q:(W.setCells b (off+n*i.size) news).heap.size=W.heap.size:=(cY b news _ W).1;refine⟨_,_,hH,p,⟨hlen,.inr ⟨b,off,cap,y,rfl,o,h4,h5,D,by rw[E];exact A,λj hj=>?_⟩⟩,
    ⟨(cY b news _ W).2.2.1,(cY b news _ W).2.1,(cY b news _ W).2.2.2,by rw[q];exact ag _,λk hk J=>ep b k (λe=>J (by rw[e];exact h5)) news _ W,λ_ _=>rfl⟩,λ_ _=>rfl⟩
   rw[aD]at hj;rw[F];by_cases e:off+n*i.size<=off+j/\off+j<off+n*i.size+news.length
   ·rw[ar e,bF (by omega),show off+j-(off+n*i.size)=j-cs.length by omega]
   ·rw[ak e,bU (by omega)];exact x j (by omega)
  ·refine grow _ cap rfl (by omega) ?_;refine run_firstCells_some W.drew i.size n (b,off) n cap cs m (λj u hu=>?_);have hj:j<cs.length:=by
    rcases dy j cs.length with h9|h9
    ·exact h9
    ·rw[jF h9]at hu;cases hu
   have h9:=x j hj;rw[hu]at h9;rw[gY];exact ej (w:=W.drew) h6 _ h9
end
def bP(l:dK)(v:bd):List bd:=[.int .i64 l.kind,.int .i64 l.nK,.int .i64 l.dst,.int .i64 l.bG.1,.int .i64 l.bG.2]++aS l.cP++[v]
def ee(t:vj):List bd:=[t.node,t.bD,t.seq,t.yI.1,t.yI.2]
def NC(hH:bI)(v:bd):Prop:=∀q,v.ownBlock=de q->(hH q).1=6
def dG(hH:bI)(W:ax)(v:bd)(l:List cF):Prop:=fz W v l/\(l≠[]->NC hH v)
def AL(hH:bI)(W:ax)(v:bd)(l:List UInt8):Prop:=Rd W v l/\(l≠[]->NC hH v)
def jA(hH:bI)(tg:Nat×Nat)(W:ax)(v:bd)(L:List dK):Prop:=
 ∃vs:List bd,vs.length=L.length/\ev hH tg 111 14 W v L.length (List.zipWith bP L vs).flatten/\∀j,j<L.length->dG hH W (vs.getD j (.slice dl 0 0)) (L.getD j dK.zero).aV
def jf(hH:bI)(tg:Nat×Nat)(W:ax)(v:bd)(l:List bk):Prop:=ev hH tg 54 5 W v l.length (l.flatMap aQ)
structure GR where
 b:Nat
 prom:Nat
 dD:Nat
 ps:Nat
 kG:Int->Nat
 pv:Int->bd
structure GN where
 b:Nat
 kn:Nat
 mg:bd
 gO:bd
 log:bd
 ja:bd
 mO:bd
 jq:bd
 lO:bd
 rg:Option GR
structure Gh where
 nodes:bd
 cz:bd
 told:bd
 n:Nat->GN
def ptr(b:Nat):bd:= (b,0)
def lF(i:Nat)(g:GN)(n:dZ):List bd:=
 [i,.bool n.up,g.mg,n.iZ,n.p.1,n.p.2,g.gO,n.heard.1,n.heard.2,.pointer (g.rg.map λr=>(r.b,0)),.map (de g.kn),g.log]
def nC(g:GN)(n:dZ):List bd:=[g.ja,g.mO,g.jq,g.lO,n.fN]
def aN(i:Nat)(g:GN)(n:dZ):List bd:=lF i g n++n.store.cells++nC g n
def gP(g:GR)(r:eW):List bd:=[r.bG.1,r.bG.2,.map (de g.prom),.bool r.begun,.map (de g.dD),.map (de g.ps)]
structure jt(hH:bI)(W:ax)(i:Nat)(g:GR)(r:eW):Prop where
 dM:W.heap[g.b]?=de (.cells (gP g r).toArray 143 (0,0))
 tb:hH g.b=(i,6)
 prom:dO W g.prom (r.prom.map λp=>(p.1,g.pv p.1))
 tm:hH g.prom=(i,7)
 dD:dO W g.dD (r.dD.map λp=>(p.1,eG p.2))
 tp:hH g.dD=(i,8)
 ps:dO W g.ps (r.aV.map λp=>(p.1,.map (de (g.kG p.1))))
 tv:hH g.ps=(i,9)
 kG:∀p∈r.aV,dO W (g.kG p.1) (p.2.map λk=>(k,.agg #[]))/\hH (g.kG p.1)=(i,100+p.1.toNat)
 pv:∀p∈r.prom,dG hH W (g.pv p.1) p.2
def ki(hH:bI)(W:ax)(b:Nat)(t:TypeId)(cs:List bd):Prop:=W.heap[b]?=de (.cells cs.toArray t (0,0))/\(hH b).1=6
def qT(hH:bI)(W:ax)(i:Nat)(g:Option GR)(b:Nat):Prop:=
 ∃c0 c1 pm c d c5 m,W.heap[b]?=de (.cells #[c0,c1,.map (de pm),c,d,c5] 143 (0,0))/\hH b=(i,6)/\dO W pm m/\hH pm=(i,7)/\∀a,g=de a->b≠a.b/\pm≠a.prom
def eO(hH:bI)(W:ax)(o i:Nat)(g:GN)(n:dZ):Prop:=
 match n.cI with
 |none=>g.lO= .nilFunc
 |some q=>∃d nb h,ki hH W d 76 [q.p.1,q.p.2,h]/\dG hH W h q.l/\ki hH W nb 69 [ptr g.b]/\
  (if q.tag=3 then∃b k r c,g.lO= .func (.func 108) #[] #[ptr d,ptr nb,ptr b,ptr k]/\ki hH W b 74 [c]/\dG hH W c q.l/\ki hH W k 77 [ptr r]/\
    ((∃j a,g.rg=de j/\n.rg=de a/\a.bG=q.bG/\r=j.b)\/((∀a,n.rg=de a->a.bG≠q.bG)/\qT hH W i g.rg r))
   else∃yI f e l m,ki hH W f 62 [ptr o]/\ki hH W e 111 (bP l m)/\l.nK=q.dst/\
    (if q.tag=1 then∃b c,l.bG=q.bG/\ki hH W b 74 [c]/\dG hH W c q.l/\ki hH W yI 1 [.func (.func 99) #[] #[ptr f,ptr nb,ptr e,ptr b]]/\g.lO= .func (.func 101) #[] #[ptr d,ptr nb,ptr yI]
     else l.cP=q.cP/\ki hH W yI 1 [.func (.func 104) #[] #[ptr f,ptr nb,ptr e]]/\g.lO= .func (.func 107) #[] #[ptr d,ptr nb,ptr yI]))
structure xu(hH:bI)(W:ax)(wb i:Nat)(g:GN)(n:dZ):Prop where
 kl:n.store.Ok
 kn:dO W g.kn (n.known.map λp=>(p.1,eG p.2))
 tk:hH g.kn=(i,1)
 mg:AL hH W g.mg n.D
 gO:dG hH W g.gO n.l
 log:jf hH (i,2) W g.log n.log
 ja:jf hH (i,3) W g.ja n.queue
 mO:jf hH (i,4) W g.mO n.wait
 jq:jA hH (i,5) W g.jq n.inbox
 rg:match g.rg,n.rg with
  |none,dl=>True
  |some gr,de r=>jt hH W i gr r
  |_,_=>False
 lO:eO hH W wb i g n
structure yD(hH:bI)(W:ax)(wb i:Nat)(g:GN)(n:dZ):Prop where
 dM:W.heap[g.b]?=de (.cells (aN i g n).toArray 87 (0,0))
 tb:hH g.b=(i,0)
 pt:xu hH W wb i g n
def jw(G:Gh)(M:aT):List bd:=
 [G.nodes,G.cz,(0:Int),.bool dT,.bool dT,.bool dT,.bool dT,.bool dT,.slice dl 0 0]++(List.range 5).map (λj=>.int .i64 (M.bad.getD j 0))++[G.told]
structure dB(hH:bI)(W:ax)(wb:Nat)(G:Gh)(M:aT):Prop where
 dM:W.heap[wb]?=de (.cells (jw G M).toArray 68 (0,0))
 tw:hH wb=(5,0)
 nodes:ev hH (5,1) 69 1 W G.nodes 5 ((List.range 5).map λj=>ptr (G.n j).b)
 cz:jA hH (5,2) W G.cz M.cz
 told:ev hH (5,3) 137 5 W G.told M.told.length (M.told.flatMap ee)
 nd:∀i,i<5->yD hH W wb i (G.n i) (M.nd i)
 hi:∀k,W.heap.size<=k->(hH k).1=6
 kn:Kn W/\(hH 1).1=6
 ne:Nd W/\(hH 0).1=6
section
variable{hH hO:bI}{W W':ax}
structure yE(hH:bI)(W:ax)(hO:bI)(W':ax)(T:Nat×Nat->Prop):Prop where
 block:∀k,k<W.heap.size->T (hH k)->W'.heap[k]?=W.heap[k]?
 marks:∀k,k<W.heap.size->hO k=hH k
theorem yE.m{T T':Nat×Nat->Prop}(h:yE hH W hO W' T)(a:∀x,T' x->T x):yE hH W hO W' T':=⟨λk hk b=>h.block k hk (a _ b),h.marks⟩
theorem cG.keep{T T':Nat×Nat->Prop}(h:cG hH W hO W' T)(a:∀x,T' x->¬T x):yE hH W hO W' T':=⟨λk hk b=>h.block k hk (a _ b),h.marks⟩
theorem yE.at{T:Nat×Nat->Prop}(h:yE hH W hO W' T){b:Nat}{o:Obj}(hb:W.heap[b]?=de o)(a:T (hH b)):W'.heap[b]?=de o:=(h.block b (hF hb) a).t hb
theorem yE.mark{T:Nat×Nat->Prop}(h:yE hH W hO W' T){b:Nat}{o:Obj}(hb:W.heap[b]?=de o):hO b=hH b:=h.marks b (hF hb)
theorem NC.keep{T:Nat×Nat->Prop}(h:yE hH W hO W' T){v:bd}(hi:NC hH v)(hlt:∀q,v.ownBlock=de q->q<W.heap.size):NC hO v:=λq hq=>by rw[h.marks q (hlt q hq)];exact hi q hq
end
section
variable{hH hO:bI}{W W':ax}{T:Nat×Nat->Prop}
theorem cG.at(h:cG hH W hO W' T){b:Nat}{o:Obj}(hb:W.heap[b]?=de o)(a:¬T (hH b)):W'.heap[b]?=de o:=(h.block b (hF hb) a).t hb
theorem cG.mark(h:cG hH W hO W' T){b:Nat}{o:Obj}(hb:W.heap[b]?=de o):hO b=hH b:=h.marks b (hF hb)
def Fair(T:Nat×Nat->Prop):Prop:=∀t,T t->t.1≠6
theorem Lz{v:bd}{l:List UInt8}(h:Rd W v l)(hl:l≠[]):∀k,v.ownBlock=de k->k<W.heap.size:=λk hk=>h.lt k hk hl
theorem dG.cB{v:bd}{l:List cF}(h:dG hH W v l)(k:cG hH W hO W' T)(a:Fair T):dG hO W' v l:=
 ⟨jB h.1 (λhl q hq hlt=>k.block q hlt (λb=>a _ b (h.2 hl q hq))),λhl q hq=>by rw[k.marks q (CE h.1 hl q hq)];exact h.2 hl q hq⟩
theorem AL.cB{v:bd}{l:List UInt8}(h:AL hH W v l)(k:cG hH W hO W' T)(a:Fair T):AL hO W' v l:=
 ⟨Rd.nT h.1 (λq hq hl=>k.block q (Lz h.1 hl q hq) (λb=>a _ b (h.2 hl q hq))),λhl q hq=>by rw[k.marks q (Lz h.1 hl q hq)];exact h.2 hl q hq⟩
theorem jA.cB{tg:Nat×Nat}{v:bd}{L:List dK}(h:jA hH tg W v L)(k:cG hH W hO W' T)(a:Fair T)(b:¬T tg):jA hO tg W' v L:=by
 obtain⟨vs,h1,h2,h3⟩:=h;exact⟨vs,h1,h2.cB k b,λj hj=>(h3 j hj).cB k a⟩
theorem jf.cB{tg:Nat×Nat}{v:bd}{L:List bk}(h:jf hH tg W v L)(k:cG hH W hO W' T)(a:¬T tg):jf hO tg W' v L:=ev.cB h k a
theorem _root_.Go.Con.dO.cB{b:Nat}{m:List (Int×bd)}(h:dO W b m)(k:cG hH W hO W' T)(a:¬T (hH b)):dO W' b m:=by
 obtain⟨es,clock,hb,he⟩:=h;exact⟨es,clock,k.at hb a,he⟩
theorem _root_.Go.Con.dO.mark{b:Nat}{m:List (Int×bd)}(h:dO W b m)(k:cG hH W hO W' T):hO b=hH b:=by
 obtain⟨es,clock,hb,he⟩:=h;exact k.mark hb
theorem jt.cB{i:Nat}{g:GR}{r:eW}(h:jt hH W i g r)(k:cG hH W hO W' T)(b:Fair T)(a:∀m,6<=m->¬T (i,m)):jt hO W' i g r:=
 ⟨k.at h.dM (by rw[h.tb];exact a 6 (by omega)),(k.mark h.dM).t h.tb,h.prom.cB k (by rw[h.tm];exact a 7 (by omega)),(h.prom.mark k).t h.tm,
  h.dD.cB k (by rw[h.tp];exact a 8 (by omega)),(h.dD.mark k).t h.tp,h.ps.cB k (by rw[h.tv];exact a 9 (by omega)),(h.ps.mark k).t h.tv,
  λp hp=>⟨(h.kG p hp).1.cB k (by rw[(h.kG p hp).2];exact a _ (by omega)),((h.kG p hp).1.mark k).t (h.kG p hp).2⟩,λp hp=>(h.pv p hp).cB k b⟩
theorem ki.cB{b:Nat}{t:TypeId}{cs:List bd}(h:ki hH W b t cs)(k:cG hH W hO W' T)(a:Fair T):ki hO W' b t cs:=
 ⟨k.at h.1 (λe=>a _ e h.2),by rw[k.mark h.1];exact h.2⟩
theorem qT.cB{i b:Nat}{g:Option GR}(h:qT hH W i g b)(k:cG hH W hO W' T)(a:∀m,6<=m->¬T (i,m)):qT hO W' i g b:=by
 obtain⟨c0,c1,pm,c,d,c5,m,h1,h2,h3,h4,h5⟩:=h;exact⟨c0,c1,pm,c,d,c5,m,k.at h1 (by rw[h2];exact a 6 (by omega)),(k.mark h1).t h2,h3.cB k (by rw[h4];exact a 7 (by omega)),(h3.mark k).t h4,h5⟩
theorem eO.cB{d i:Nat}{g:GN}{n:dZ}(h:eO hH W d i g n)(k:cG hH W hO W' T)(a:Fair T)(o:∀m,6<=m->¬T (i,m)):eO hO W' d i g n:=by
 unfold eO at h|-;split
 ·rename_i e;rw[e]at h;exact h
 ·rename_i q e;rw[e]at h;obtain⟨f,nb,j,h1,h2,h3,h4⟩:=h;refine⟨f,nb,j,h1.cB k a,h2.cB k a,h3.cB k a,?_⟩;split
  ·rename_i e3;rw[ar e3]at h4;obtain⟨b,A,r,c,k1,k2,k3,k4,p⟩:=h4;exact⟨b,A,r,c,k1,k2.cB k a,k3.cB k a,k4.cB k a,p.imp id (λx=>⟨x.1,x.2.cB k o⟩)⟩
  ·rename_i e3;rw[ak e3]at h4;obtain⟨yI,B,s,l,t,k1,k2,k3,k4⟩:=h4;refine⟨yI,B,s,l,t,k1.cB k a,k2.cB k a,k3,?_⟩;split
   ·rename_i e1;rw[ar e1]at k4;obtain⟨b,c,u,v,w,y,z⟩:=k4;exact⟨b,c,u,v.cB k a,w.cB k a,y.cB k a,z⟩
   ·rename_i e1;rw[ak e1]at k4;exact⟨k4.1,k4.2.1.cB k a,k4.2.2⟩
theorem xu.cB{c i:Nat}{g:GN}{n:dZ}(h:xu hH W c i g n)(k:cG hH W hO W' T)(b:Fair T)(a:∀m,1<=m->¬T (i,m)):xu hO W' c i g n:=
 ⟨h.kl,h.kn.cB k (by rw[h.tk];exact a 1 (by omega)),(h.kn.mark k).t h.tk,h.mg.cB k b,h.gO.cB k b,h.log.cB k (a 2 (by omega)),h.ja.cB k (a 3 (by omega)),h.mO.cB k (a 4 (by omega)),h.jq.cB k b (a 5 (by omega)),
  by
   have h1:=h.rg;split
   ·trivial
   ·rename_i e1 e2;rw[e1,e2]at h1;exact h1.cB k b (λm hm=>a m (by omega))
   ·rename_i e1 e2;revert h1;split<;>simp_all,
  h.lO.cB k b (λm hm=>a m (by omega))⟩
theorem yD.cB{b i:Nat}{g:GN}{n:dZ}(h:yD hH W b i g n)(k:cG hH W hO W' T)(c:Fair T)(a:∀m,¬T (i,m)):yD hO W' b i g n:=
 ⟨k.at h.dM (by rw[h.tb];exact a 0),(k.mark h.dM).t h.tb,h.pt.cB k c (λm _=>a m)⟩
theorem Kn.cB(h:Kn W/\(hH 1).1=6)(k:cG hH W hO W' T)(a:Fair T):Kn W'/\(hO 1).1=6:=
 ⟨λi hi=>by
   rw[aw (w:=W) (k.block _ h.1.lt (λe=>a _ e h.2))];exact h.1 i hi,by rw[k.marks _ h.1.lt];exact h.2⟩
theorem Nd.cB(h:Nd W/\(hH 0).1=6)(k:cG hH W hO W' T)(a:Fair T):Nd W'/\(hO 0).1=6:=
 ⟨λi hi=>by
   rw[aw (w:=W) (k.block _ h.1.lt (λe=>a _ e h.2))];exact h.1 i hi,by rw[k.marks _ h.1.lt];exact h.2⟩
theorem dB.node{b:Nat}{G:Gh}{M:aT}(h:dB hH W b G M){i:Nat}(hi:i<5)(k:cG hH W hO W' T)(c:∀t,T t->t.1=i)(f:∀k,W'.heap.size<=k->(hO k).1=6){g:GN}{n:dZ}(hg:g.b=(G.n i).b)(l:yD hO W' b i g n):
  dB hO W' b {G with n:=λj=>if j=i then g else G.n j} (M.aX i n):=by
 have a:Fair T:=λt d e=>by have:=c t d;omega
 have h5:∀m,¬T (5,m):=λm e=>by have:=c _ e;simp at this;omega
 refine⟨?_,(k.mark h.dM).t h.tw,?_,h.cz.cB k a (h5 2),h.told.cB k (h5 3),λj hj=>?_,f,Kn.cB h.kn k a,Nd.cB h.ne k a⟩
 ·have:=k.at h.dM (by rw[h.tw];exact h5 0);exact this
 ·have e:((List.range 5).map λj=>ptr (if j=i then g else G.n j).b)=(List.range 5).map λj=>ptr (G.n j).b:=by
   apply kJ;intro j _;by_cases e:j=i
   ·rw[ar e,hg,e]
   ·rw[ak e]
  show ev hO (5,1) 69 1 W' G.nodes 5 ((List.range 5).map λj=>ptr (if j=i then g else G.n j).b);rw[e];exact h.nodes.cB k (h5 1)
 ·show yD hO W' b j (if j=i then g else G.n j) (if j=i then n else M.nd j);by_cases e:j=i
  ·rw[ar e,ar e,e];exact l
  ·rw[ak e,ak e];exact(h.nd j hj).cB k a (λm d=>e (c _ d))
theorem dB.world{c:Nat}{G:Gh}{M:aT}(h:dB hH W c G M)(k:cG hH W hO W' T)(d:∀t,T t->t.1=5)(f:¬T (5,1))(i:∀k,W'.heap.size<=k->(hO k).1=6){cz told:bd}{M':aT}(l:M'.nd=M.nd)
  (hb:W'.heap[c]?=de (.cells (jw {G with cz:=cz,told:=told} M').toArray 68 (0,0)))
  (g:jA hO (5,2) W' cz M'.cz)(b:ev hO (5,3) 137 5 W' told M'.told.length (M'.told.flatMap ee)):dB hO W' c {G with cz:=cz,told:=told} M':=by
 have a:Fair T:=λt b e=>by have:=d t b;omega
 exact⟨hb,(k.mark h.dM).t h.tw,h.nodes.cB k f,g,b,λj hj=>by rw[l];exact(h.nd j hj).cB k a (λm e=>by have:=d _ e;simp at this;omega),i,Kn.cB h.kn k a,Nd.cB h.ne k a⟩
theorem dB.stay{b:Nat}{G:Gh}{M:aT}(h:dB hH W b G M)(k:cG hH W hO W' (λ_=>False))(c:∀k,W'.heap.size<=k->(hO k).1=6):dB hO W' b G M:=by
 have a:Fair (λ_=>False):=λt d=>d.elim;exact⟨k.at h.dM id,(k.mark h.dM).t h.tw,h.nodes.cB k id,h.cz.cB k a id,h.told.cB k id,λj hj=>(h.nd j hj).cB k a (λ_=>id),c,Kn.cB h.kn k a,Nd.cB h.ne k a⟩
theorem dB.below{a:Nat}{G:Gh}{M:aT}(h:dB hH W a G M)(hb:dd W.heap.size W W'):dB hH W' a G M:=h.stay (cG.below hb) (λk hk=>h.hi k (aE hb.size hk))
end
def vE:List bd->Nat->List bd->List bd
 |L,_,[]=>L
 |L,o,v::vs=>vE (L.set o v) (o+1) vs
theorem ze(A C:List bd):∀(B' B:List bd) (o:Nat) (P:List bd),P.length=o->B'.length=B.length->vE (P++B++C) o B'=P++B'++C
 |[],[],_,_,_,_=>rfl
 |[],_::_,_,_,_,h=>by simp at h
 |_::_,[],_,_,_,h=>by simp at h
 |v::B',u::B,o,P,ho,h=>by
  unfold vE;have e:(P++u::B++C).set o v=(P++[v])++B++C:=by
   subst ho;rw[bJ,List.set_append_right _ _ (ag _),Nat.sub_self];simp
  rw[e,ze A C B' B (o+1) (P++[v]) (by simp[ho]) (by simpa using h)];simp
theorem mR{b:Nat}{t:TypeId}{f:Nat×Nat}:∀(vs L:List bd) (o:Nat) (W:ax),W.heap[b]?=de (.cells L.toArray t f)->(W.setCells b o vs).heap[b]?=de (.cells (vE L o vs).toArray t f)
 |[],_,_,_,h=>h
 |v::vs,L,o,W,h=>by
  refine mR vs (L.set o v) (o+1) (W.setCell (b,o) v) ?_;rw[aB h v];simp
theorem aR{W:ax}{b:Nat}{L:List bd}{t:TypeId}{f:Nat×Nat}(h:W.heap[b]?=de (.cells L.toArray t f))(k:Nat):W.cell? (b,k)=L[k]?:=by
 unfold World.cell?;rw[h];simp
section
variable{hH ix:bI}{W W1:ax}{wb i:Nat}{g:GN}{n:dZ}
theorem tD(h:n.store.Ok):(lF i g n++n.store.cells).length=52:=by rw[aD,jd h];rfl
theorem dj(h:n.store.Ok)(j:Nat):(aN i g n)[52+j]?=(nC g n)[j]?:=by
 unfold aN;rw[bF (by rw[tD h];omega),tD h,gA]
theorem eY(h:n.store.Ok)(g':GN)(a:dZ)(hp:lF i g' a=lF i g n)(hs:a.store=n.store)(o:Nat)(vs:List bd)(hq:vE (nC g n) o vs=nC g' a):vE (aN i g n) (52+o) vs=aN i g' a:=by
 unfold aN;rw[hp,hs,<-hq];have hl:=tD (i:=i) (g:=g) h;generalize lF i g n++n.store.cells=A at hl|-;clear hq;generalize nC g n=B;induction vs generalizing o B with
 |nil=>rfl
 |cons v vs b=>
  unfold vE;rw[List.set_append_right _ _ (by omega),hl,gA,eI];exact b (o+1) _
theorem sK(h:n.store.Ok)(s:dA)(hs:s.Ok):vE (aN i g n) 12 s.cells=aN i g {n with store:=s}:=by
 unfold aN;exact ze [] _ _ _ 12 (lF i g n) rfl (by rw[jd h,jd hs])
theorem dB.fN{T:Nat×Nat->Prop}{G:Gh}{M:aT}(h:dB hH W wb G M)(hi:i<5)(k:cG hH W ix W1 T)(f:∀t,T t->t.1=i/\t.2≠0)(g:∀k,W1.heap.size<=k->(ix k).1=6)(g':GN)(d:dZ)(hg:g'.b=(G.n i).b)(hp:xu ix W1 wb i g' d)
  (o:Nat)(vs:List bd)(hc:vE (aN i (G.n i) (M.nd i)) o vs=aN i g' d):
  dB ix (W1.setCells (G.n i).b o vs) wb {G with n:=λj=>if j=i then g' else G.n j} (M.aX i d)/\cG hH W ix (W1.setCells (G.n i).b o vs) (λt=>t.1=i):=by
 have c:=h.nd i hi;have hb:W1.heap[(G.n i).b]?=de (.cells (aN i (G.n i) (M.nd i)).toArray 87 (0,0)):=k.at c.dM (λe=>(f _ e).2 (by rw[c.tb]));have hm:ix (G.n i).b=(i,0):=(k.mark c.dM).t c.tb;have b:=cY (G.n i).b vs o W1;have k2:cG ix W1 ix (W1.setCells (G.n i).b o vs) (·=(i,0)):=
  ⟨b.2.2.1,b.2.1,b.2.2.2,by rw[b.1];exact ag _,λq hq l=>ep _ q (λe=>l (by rw[e];exact hm)) vs o W1,λ_ _=>rfl⟩
 have hk:cG hH W ix (W1.setCells (G.n i).b o vs) (λt=>t.1=i):=(k.m (λt a=>(f t a).1)).t (k2.m (λt a=>by rw[a]));refine⟨h.node hi hk (λt a=>a) (λq hq=>g q (by rw[<-b.1];exact hq)) hg ⟨?_,?_,hp.cB k2 (λt a e=>by rw[a]at e;simp at e;omega) (λm hm e=>by injection e with _ e;omega)⟩,hk⟩
 ·rw[hg,mR vs _ o W1 hb,hc]
 ·rw[hg];exact hm
section
variable{T:Nat×Nat->Prop}(h:xu hH W wb i g n)(k:cG hH W ix W1 T)
include h k
theorem xu.MW(b:∀t,T t->t.1=i/\t.2<6)(h5:i<5):match g.rg,n.rg with
  |none,dl=>True
  |some c,de r=>jt ix W1 i c r
  |_,_=>False:=by
 have h1:=h.rg;have d:Fair T:=λt a e=>by have:=(b t a).1;omega
 split
 ·trivial
 ·rename_i e1 e2;rw[e1,e2]at h1;exact h1.cB k d (λm hm a=>by have:=(b _ a).2;simp at this;omega)
 ·rename_i e1 e2;revert h1;split<;>simp_all
theorem xu.NY(h5:i<5)(c:∀t,T t->t=(i,5)){v:bd}{L:List dK}(d:jA ix (i,5) W1 v L):xu ix W1 wb i {g with jq:=v} {n with inbox:=L}:=by
 have b:Fair T:=λt a e=>by rw[c t a]at e;simp at e;omega
 have hm:∀m,m≠5->¬T (i,m):=λm hm a=>by have:=c _ a;injection this with _ e;exact hm e
 exact⟨h.kl,h.kn.cB k (by rw[h.tk];exact hm 1 (by omega)),(h.kn.mark k).t h.tk,h.mg.cB k b,h.gO.cB k b,h.log.cB k (hm 2 (by omega)),h.ja.cB k (hm 3 (by omega)),h.mO.cB k (hm 4 (by omega)),d,h.MW k (λt a=>by rw[c t a];simp) h5,h.lO.cB k b (λm h6=>hm m (by omega))⟩
theorem xu.NI(h5:i<5)(c:∀t,T t->t=(i,4)){v:bd}{L:List bk}(d:jf ix (i,4) W1 v L):xu ix W1 wb i {g with mO:=v} {n with wait:=L}:=by
 have b:Fair T:=λt a e=>by rw[c t a]at e;simp at e;omega
 have hm:∀m,m≠4->¬T (i,m):=λm hm a=>by have:=c _ a;injection this with _ e;exact hm e
 exact⟨h.kl,h.kn.cB k (by rw[h.tk];exact hm 1 (by omega)),(h.kn.mark k).t h.tk,h.mg.cB k b,h.gO.cB k b,h.log.cB k (hm 2 (by omega)),h.ja.cB k (hm 3 (by omega)),d,h.jq.cB k b (hm 5 (by omega)),h.MW k (λt a=>by rw[c t a];simp) h5,h.lO.cB k b (λm h6=>hm m (by omega))⟩
theorem xu.Nb(h5:i<5)(c:∀t,T t->t=(i,3)){v:bd}{L:List bk}(d:jf ix (i,3) W1 v L):xu ix W1 wb i {g with ja:=v} {n with queue:=L}:=by
 have b:Fair T:=λt a e=>by rw[c t a]at e;simp at e;omega
 have hm:∀m,m≠3->¬T (i,m):=λm hm a=>by have:=c _ a;injection this with _ e;exact hm e
 exact⟨h.kl,h.kn.cB k (by rw[h.tk];exact hm 1 (by omega)),(h.kn.mark k).t h.tk,h.mg.cB k b,h.gO.cB k b,h.log.cB k (hm 2 (by omega)),d,h.mO.cB k (hm 4 (by omega)),h.jq.cB k b (hm 5 (by omega)),h.MW k (λt a=>by rw[c t a];simp) h5,h.lO.cB k b (λm h6=>hm m (by omega))⟩
theorem xu.NR(h5:i<5)(c:∀t,T t->t=(i,2)){v:bd}{L:List bk}(d:jf ix (i,2) W1 v L):xu ix W1 wb i {g with log:=v} {n with log:=L}:=by
 have b:Fair T:=λt a e=>by rw[c t a]at e;simp at e;omega
 have hm:∀m,m≠2->¬T (i,m):=λm hm a=>by have:=c _ a;injection this with _ e;exact hm e
 exact⟨h.kl,h.kn.cB k (by rw[h.tk];exact hm 1 (by omega)),(h.kn.mark k).t h.tk,h.mg.cB k b,h.gO.cB k b,d,h.ja.cB k (hm 3 (by omega)),h.mO.cB k (hm 4 (by omega)),h.jq.cB k b (hm 5 (by omega)),h.MW k (λt a=>by rw[c t a];simp) h5,h.lO.cB k b (λm h6=>hm m (by omega))⟩
end
theorem xu.Ox(h:xu hH W wb i g n)(h5:i<5){s:Int}{c:bk}{o:Obj}(d:dO {W with heap:=W.heap.setIfInBounds g.kn o} g.kn ((di n.known s c).map λp=>(p.1,eG p.2))):
  xu hH {W with heap:=W.heap.setIfInBounds g.kn o} wb i g {n with known:=di n.known s c}/\cG hH W hH {W with heap:=W.heap.setIfInBounds g.kn o} (·=(i,1)):=by
 have k:cG hH W hH {W with heap:=W.heap.setIfInBounds g.kn o} (·=(i,1)):=⟨rfl,rfl,rfl,by simp,λq hq f=>by
  rw[cV (λe=>f (by rw[<-e];exact h.tk))],λ_ _=>rfl⟩
 have a:Fair (·=(i,1)):=λt b e=>by rw[b]at e;simp at e;omega
 have hm:∀m,m≠1->¬(i,m)=(i,1):=λm hm e=>by injection e with _ e;exact hm e
 exact⟨⟨h.kl,d,h.tk,h.mg.cB k a,h.gO.cB k a,h.log.cB k (hm 2 (by omega)),h.ja.cB k (hm 3 (by omega)),h.mO.cB k (hm 4 (by omega)),h.jq.cB k a (hm 5 (by omega)),h.MW k (λt b=>by rw[b];simp) h5,h.lO.cB k a (λm h6=>hm m (by omega))⟩,k⟩
end
set_option maxHeartbeats 1000000
theorem Dc:(prog.info? 111).map (λi=>(i.zero,i.size,i.bytes))=de (de (.agg #[(0:Int),(0:Int),(0:Int),(0:Int),(0:Int),(0:Int),(0:Int),(0:Int),(0:Int),(0:Int),(0:Int),(0:Int),(0:Int),.slice dl 0 0]),14,128):=by kernel_rfl
theorem Lk(L:List dK)(vs:List bd)(l:dK)(v:bd)(h:vs.length=L.length):(List.zipWith bP (L++[l]) (vs++[v])).flatten=(List.zipWith bP L vs).flatten++bP l v:=by
 rw[List.zipWith_append h.symm];simp
theorem GD(l:dK)(a:Option Addr)(n c:Nat):∀u∈bP l (.slice a n c),u.oneCell'=dE:=by
 intro u hu;simp[bP,aS]at hu;rcases hu with h|h|h|h|h|h|h|h|h|h|h|h|h|h<;>subst h<;>rfl
theorem wQ{α:Type}{l m:List α}{j:Nat}(d:α)(h:j<l.length):(l++m).getD j d=l.getD j d:=by
 simp[au,bU h]
theorem wT{α:Type}(l:List α)(x d:α):(l++[x]).getD l.length d=x:=by
 simp[au]
theorem gV{W:ax}{b:Nat}{L:List bd}{t:TypeId}{f:Nat×Nat}(h:W.heap[b]?=de (.cells L.toArray t f))(k:Nat){v:bd}(hk:L[k]?=de v):∀o,(W.alloc o).cell? (b,k)=de v:=λo=>
 (aR (W:=W.alloc o) (by rw[eF W o b (hF h)];exact h) k).t hk
theorem fz.shape{W:ax}{v:bd}{l:List cF}(h:fz W v l):∃a n c,v= .slice a n c:=by
 rcases h.2 with h|⟨a,n,c,h⟩
 ·exact⟨_,_,_,h⟩
 ·exact⟨_,_,_,h⟩
section
variable{hH:bI}{tg:Nat×Nat}{W:ax}
theorem jA.shape{v:bd}{L:List dK}(h:jA hH tg W v L):∃a n c,v= .slice a n c:=by
 obtain⟨vs,-,h2,-⟩:=h;obtain⟨a,c,h3,-⟩:=h2.shape;exact⟨a,_,c,h3⟩
theorem FU{v:bd}{L:List dK}(h:jA hH tg W v L)(r:tg.1≠6)(g:Nat)(l:dK)(o:bd)(hg:W.heap[g]?=de (.cells (bP l o).toArray 111 (0,0)))(hl:dG hH W o l.aV)(x:L.length<1000000000000)(ty:TypeId):
  ∃f b d,(Builtin.append_ #[66,66] ty #[v,.slice (g,0) 1 1]).run ed W= .ok f b/\jA d tg b f (L++[l])/\cG hH W d b (·=tg)/\(∀k,b.heap.size<=k->d k=hH k):=by
 obtain⟨vs,h1,h2,h3⟩:=h;obtain⟨i,hi,w,s,hb⟩:=gD Dc;obtain⟨a,n,c,rfl⟩:=hl.1.shape;obtain⟨f,b,d,e1,e2,e3,p⟩:=nt h2 Tryz.underlying66 hi w s hb rfl (by decide) g (bP l (.slice a n c)) rfl hg (GD l a n c) (by unfold maxLen;omega) (by omega) ty;have m:Fair (·=tg):=λt u=>by rw[u];exact r
 refine⟨f,b,d,e1,⟨vs++[.slice a n c],by simp[h1],?_,λj hj=>?_⟩,e3,p⟩
 ·rw[Lk L vs l _ h1,aD];exact e2
 ·rw[aD]at hj;by_cases e:j<L.length
  ·have h4:=(h3 j e).cB e3 m;rw[wQ _ (by omega),wQ _ e];exact h4
  ·have q:j=L.length:=by simp at hj;omega
   subst q;rw[<-h1,wT,h1,wT];exact hl.cB e3 m
theorem vY{ops:Array Oper}{o:Oper}{a:Act}{K:Act->ax->Prop}{Q:Exit->Act->ax->Prop}{E:Prop}(hg:o.guard=dl)(s x:Operand)(ho:o.op= .call {callee:= .builtin .append,args:=#[s,x],argTypes:=#[66,66]})
  (v:bd)(L:List dK)(g:Nat)(l:dK)(i:bd)(hs:a.eval s=v)(hx:a.eval x= .slice (g,0) 1 1)(h:jA hH tg W v L)(j:tg.1≠6)(m:W.heap[g]?=de (.cells (bP l i).toArray 111 (0,0)))(hl:dG hH W i l.aV)(n:L.length<1000000000000)
  (hK:∀d f e b c,jA c tg b (.slice d f e) (L++[l])->cG hH W c b (·=tg)->(∀k,b.heap.size<=k->c k=hH k)->K (a.put o.dst (.slice d f e)) b):if Region.wanted o (yielded ops a.tmps)=dE then Oper.wp ed o a W K Q else E:=by
 have hw:Region.wanted o (yielded ops a.tmps)=dE:=by simp[Region.wanted,hg]
 rw[ar hw];obtain⟨p,b,c,hr,h2,h3,h4⟩:=FU h j g l i m hl n o.type;obtain⟨d,f,e,rfl⟩:=h2.shape;exact gJ W s x _ _ ho _ _ hs hx _ b hr (hK d f e b c h2 h3 h4)
end
theorem FQ{hH a:bI}{W w':ax}{b i:Nat}{G:Gh}{M:aT}(h:dB hH W b G M)(f:Option Addr)(j g:Nat){n l:dK}{dst:Int}(hl:n={l with nK:=(i:Int),dst:=dst})(u:jA a (5,2) w' (.slice f j g) (M.cz++[n]))(c:cG hH W a w' (·=(5,2)))(r:∀k,w'.heap.size<=k->a k=hH k):
  ∃a o,(Ending.returned (.tuple #[]):Ending)= .returned (.tuple #[])/\dB a (w'.setCell (b,1) (.slice f j g)) b {G with cz:=o} (M.send i dst l)/\cG hH W a (w'.setCell (b,1) (.slice f j g)) (λt=>t=(5,0)\/t=(5,2)):=by
 have hb:=c.at h.dM (by rw[h.tw];decide);have hm:a b=(5,0):=(c.mark h.dM).t h.tw;have k2:cG a w' a (w'.setCell (b,1) (.slice f j g)) (·=(5,0)):=⟨rfl,rfl,rfl,by simp[World.setCell],λq hq s=>aA _ _ (λe=>s (by rw[e];exact hm)),λ_ _=>rfl⟩
 have k:=(c.m (T':=λt=>t=(5,0)\/t=(5,2)) (λ_ h=>.inr h)).t (k2.m (λ_ h=>.inl h));have p:Fair (·=((5,0):Nat×Nat)):=λt d e=>by rw[d]at e;cases e
 have v:Fair (·=((5,2):Nat×Nat)):=λt d e=>by rw[d]at e;cases e
 refine⟨a,.slice f j g,rfl,h.world k (λt d=>by rcases d with rfl|rfl<;>rfl) (by decide) (λq hq=>?_) (M':=M.send i dst l) (told:=G.told) rfl ?_ ?_ ?_,k⟩
 ·have m:w'.heap.size<=q:=by simpa[World.setCell]using hq
  rw[r q m];exact h.hi q (aE c.size m)
 ·rw[aB hb];rfl
 ·have:=u.cB k2 p (by decide);rw[hl]at this;exact this
 ·exact(h.told.cB c (by decide)).cB k2 (by decide)
theorem jN{hH:bI}{W:ax}{c i:Nat}{G:Gh}{M:aT}(h:dB hH W c G M)(hi:i<5)(dst:Int)(l:dK)(J:bd)(hl:dG hH W J l.aV)(H:M.cz.length<1000000000000):
  bl ed 84 #[ptr c,ptr (G.n i).b,.int .i64 dst,.agg (bP l J).toArray] W λe D=>∃z V,e= .returned (.tuple #[])/\dB z D c {G with cz:=V} (M.send i dst l)/\cG hH W z D (λt=>t=(5,0)\/t=(5,2)):=by
 obtain⟨f,ln,g,rfl⟩:=hl.1.shape;obtain⟨k,X,U,⟨b1,b2⟩,⟨s,⟨a,u⟩,⟨c1,j,m,n,c5⟩⟩,K⟩:=l;obtain⟨Y,p⟩:=aK ((G.n i).b);have Z:∀o,(W.alloc o).cell? ⟨Y,0,dl⟩=de (.int .i64 i):=by rw[p];exact gV (h.nd i hi).dM 0 rfl
 have d:=ae h;have Q:=ae H;have P:=ae hl;show bl ed 84 #[.pointer (de ⟨c,0,dl⟩),.pointer (de ⟨(G.n i).b,0,dl⟩),.int .i64 dst,.agg #[.int .i64 k,.int .i64 X,.int .i64 U,.int .i64 b1,.int .i64 b2,.int .i64 s,.int .i64 a,.int .i64 u,.int .i64 c1,.int .i64 j,.int .i64 m,.int .i64 n,.int .i64 c5,.slice f ln g]] W _;rw[<-p];have a0:=ae p;clear h hl p H;go_enter func84,ntmps84
 go_wp2_with fail
 obtain⟨b,q⟩:=aK (W.alloc (.cells #[.int .i64 k,.int .i64 i,.int .i64 dst,.int .i64 b1,.int .i64 b2,.int .i64 s,.int .i64 a,.int .i64 u,.int .i64 c1,.int .i64 j,.int .i64 m,.int .i64 n,.int .i64 c5,.slice f ln g] 111));rw[<-q];have w:dd W.heap.size W b:=by rw[q];exact(aj _ _).alloc (ag _) _
 have a:b.heap[W.heap.size]?=de (.cells #[.int .i64 k,.int .i64 i,.int .i64 dst,.int .i64 b1,.int .i64 b2,.int .i64 s,.int .i64 a,.int .i64 u,.int .i64 c1,.int .i64 j,.int .i64 m,.int .i64 n,.int .i64 c5,.slice f ln g] 111 (0,0)):=by rw[q];exact aL _ _
 obtain⟨lb,x⟩:=aK W.heap.size;rw[<-x]at a|-;have C:=ae (d.o.below w);have a2:lb<b.heap.size:=hF a;have q1:b.cell? ⟨c,1,dl⟩=de G.cz:=(aR C.o.dM 1).t rfl;have q2:∀o,(b.alloc o).cell? ⟨c,1,dl⟩=de G.cz:=gV C.o.dM 1 rfl;have y0:=ej a 0 rfl;have y1:=ej a 1 rfl;have y2:=ej a 2 rfl;have y3:=ej a 3 rfl;have y4:=ej a 4 rfl;have y5:=ej a 5 rfl;have y6:=ej a 6 rfl;have y7:=ej a 7 rfl;have y8:=ej a 8 rfl;have y9:=ej a 9 rfl;have a3:=ej a 10 rfl;have a4:=ej a 11 rfl;have a5:=ej a 12 rfl;have a6:=ej a 13 rfl;have X1:=ae a;have A:=ae w;have a1:=ae x;clear q Z a w x;have r:∀o,cG hH W hH (b.drew.alloc o) (λ_=>False):=λo=>cG.below (A.o.t (((aj b.heap.size b).drew.alloc (ag _) o).m A.o.size));have E:∀o,jA hH (5,2) (b.drew.alloc o) G.cz M.cz:=λo=>d.o.cz.cB (r o) (λ_ h=>h.elim) id;have L:∀o,dG hH (b.drew.alloc o) (.slice f ln g) K:=λo=>P.o.cB (r o) (λ_ h=>h.elim);have N:=ae E;have T:=ae L;have B:=ae r;clear r E L;go_region_law (first
  |(refine vY rfl (.tmp 19) (.tmp 21) rfl G.cz M.cz b.heap.size ⟨k,i,dst,(b1,b2),⟨s,(a,u),⟨c1,j,m,n,c5⟩⟩,K⟩ (.slice f ln g) rfl rfl (N.o _) (by decide) (aL b.drew _) (T.o _) Q.o ?_;intro va vn vc w' z I y F;have v:=y.at (B.o _|>.at d.o.dM id) (by rw[d.o.tw];decide);have d1:=(aR v 1).t (show _=de G.cz from rfl);have df:=aO v;have XW:=ae v;have S:=ae I;have R:=ae (((B.o _).m (λ_ h=>h.elim)).t y);have O:=ae F;clear v I y F))
 all_goals (
  refine gw (dY rfl _ _ _) rfl ?_;exact FQ d.o va vn vc rfl S.o R.o O.o)
theorem ev.rd{α:Type}{hH:bI}{tg:Nat×Nat}{t:TypeId}{k:Nat}{f:α->List bd}{d:α}{W:ax}{v:bd}{l:List α}(e:∀x,(f x).length=k)(h:ev hH tg t k W v l.length (l.flatMap f)):gN k f d W v l:=by
 obtain⟨h1,h2⟩:=h;rcases h2 with⟨rfl,g⟩|⟨b,off,cap,c,rfl,h3,h4,h5,h6,m,a⟩
 ·have:l=[]:=bq g;subst this;exact⟨dl,0,rfl,ag _,bX _,λh=>absurd rfl h⟩
 ·refine⟨de (b,off),cap,rfl,h3,h4,λ_=>⟨b,off,rfl,hF h6,λi hi j hj=>?_⟩⟩;rw[<-iN f d k e l i hi j hj];have hlt:k*i+j<(l.flatMap f).length:=by
   rw[h1];have:k*i+k<=l.length*k:=by rw[<-Nat.mul_succ,eJ];exact gq _ hi
   omega
  rw[<-a _ hlt];simp[World.cell?,h6]
abbrev oQ:=gN 5 aQ bk.zero
theorem jf.rd{hH:bI}{tg:Nat×Nat}{W:ax}{v:bd}{l:List bk}(h:jf hH tg W v l):oQ W v l:=ev.rd (λ_=>rfl) h
theorem qd{w:ax}{b o:Nat}{c:bk}(h:∀j,j<5->w.cell? (b,o+j)=(aQ c)[j]?):w.cell? (b,o)=c.kind/\w.cell? (b,o+1)=c.bD/\w.cell? (b,o+2)=c.seq/\w.cell? (b,o+3)=c.name/\w.cell? (b,o+4)=c.value:=
 ⟨h 0 (by decide),h 1 (by decide),h 2 (by decide),h 3 (by decide),h 4 (by decide)⟩
theorem Kf{w:ax}{b o:Nat}{c:cF}(h:∀j,j<8->w.cell? (b,o+j)=(aS c)[j]?):w.cell? (b,o)=c.slot/\w.cell? (b,o+1)=c.bG.1/\w.cell? (b,o+2)=c.bG.2/\w.cell? (b,o+3)=c.cW.kind/\w.cell? (b,o+4)=c.cW.bD/\w.cell? (b,o+5)=c.cW.seq/\w.cell? (b,o+6)=c.cW.name/\w.cell? (b,o+7)=c.cW.value:=
 ⟨h 0 (by decide),h 1 (by decide),h 2 (by decide),h 3 (by decide),h 4 (by decide),h 5 (by decide),h 6 (by decide),h 7 (by decide)⟩
def lY{α:Type}[DecidableEq α](l:List α)(x:α):Int:=if x∈l then(l.idxOf x:Int)else-1
theorem xJ{α:Type}[DecidableEq α]{l:List α}{x d:α}{k:Nat}(hk:k<l.length)(hx:l.getD k d=x)(hb:∀q,q<k->l.getD q d≠x):lY l x=k:=by
 have a:∀q,q<l.length->l[q]?=de (l.getD q d):=λq hq=>by simp[au,hq]
 have hm:x∈l:=List.mem_of_getElem? ((a k hk).t (by rw[hx]));unfold lY;rw[ar hm];have h1:l.idxOf x<l.length:=eB hm;have h2:l.getD (l.idxOf x) d=x:=by
  have h3:=a _ h1;rw[aC h1,List.getElem_idxOf]at h3;injection h3 with h3;exact h3.symm
 rcases Nat.lt_trichotomy (l.idxOf x) k with h|h|h
 ·exact absurd h2 (hb _ h)
 ·rw[h]
 ·exfalso;have h4:x∉l.take (l.idxOf x):=by
   intro hc;have:=eB hc;have h5:(l.take (l.idxOf x)).idxOf x=l.idxOf x:=by
    have h6:l=l.take (l.idxOf x)++l.drop (l.idxOf x):=(dg _ _).symm
    conv=>rhs;rw[h6]
    rw[List.idxOf_append,ar hc]
   rw[h5,aM]at this;omega
  apply h4;refine List.mem_of_getElem? (i:=k) ?_;rw[cR,ar h,a k hk,hx]
theorem rl{α:Type}[DecidableEq α]{l:List α}{x d:α}(hb:∀q,q<l.length->l.getD q d≠x):lY l x=-1:=by
 unfold lY;rw[ak (λhm=>?_)];obtain⟨q,hq,e⟩:=List.mem_iff_getElem.1 hm;exact hb q hq (by simp[au,hq,e])
theorem tq{α:Type}[DecidableEq α](l:List α)(x:α):decide (0<=lY l x)=decide (x∈l):=by
 unfold lY;by_cases h:x∈l
 ·rw[ar h];simp[h]
 ·rw[ak h];simp[h]
theorem uC(v:bd)(l:List bk)(y:bk)(w:ax)(hv:oQ w v l):
  bl ed 50 #[v,.agg (aQ y).toArray] w λe w'=>e= .returned (lY l y)/\dd w.heap.size w w':=by
 obtain⟨ck,b,cs,c,f⟩:=y;obtain⟨ea,J,rfl,hle,S,-⟩:=id hv;obtain⟨n,B⟩:=aK l.length;rw[<-B]at hv hle|-;have a0:J<=9223372036854775807:=S;show bl ed 50 #[.slice ea n J,.agg #[.int .i64 ck,.int .i64 b,.int .i64 cs,.int .i64 c,.int .i64 f]] w _;obtain⟨R,u⟩:=aK (lY l ⟨ck,b,cs,c,f⟩);rw[<-u];have G:=ae u;have N:=ae hv;have F:=ae B;clear u hv B;go_enter func50,ntmps50
 go_wp2_with fail
 generalize x:World.alloc _ _=j;have L:Hid (j.heap[w.heap.size]?=de (.cells #[ck,b,cs,c,f] 54 (0,0))):=ae (by rw[<-x];exact aL _ _);have E:=ae (gv x);have P:w.heap.size<j.heap.size:=hF L.o;clear x;go_loopw [8] (λa wr=>∃k:Nat,a= .int .i64 k/\k<=n/\Hid ((∀q,q<k->l.getD q bk.zero≠⟨ck,b,cs,c,f⟩)/\dd j.heap.size j wr)) (λa _=>n-(intOf a).toNat)
 case atStart=>exact⟨0,rfl,bX _,ae ⟨λq hq=>absurd hq (by omega),aj _ _⟩⟩
 case round=>
  obtain⟨k,rfl,hkn,i⟩:=hrel;have o:=ae ((i.o.2.block _ P).t L.o);have s:=ae (E.o.t (i.o.2.m E.o.size));by_cases hlt:k<n
  ·obtain⟨I,Q,rfl,T,A⟩:=N.o.cells.2.2 k (by omega);obtain⟨z,C⟩:=aK (l.getD k bk.zero);rw[<-C]at A;have H:=ae C;have K:∀q,q<5->wr.cell? (I,Q+k*5+q)=(aQ z)[q]?:=λq hq=>by
    rw[<-A q hq,eJ,eI];exact aw (w:=w) (s.o.block I T)
   clear A C;obtain⟨g,m,p,r,D⟩:=z;obtain⟨W,X,Y,Z,x4⟩:=qd K;dsimp only at W X Y Z x4;have y0:=ej o.o 0 rfl;have y1:=ej o.o 1 rfl;have y2:=ej o.o 2 rfl;have y3:=ej o.o 3 rfl;have y4:=ej o.o 4 rfl;have U:k<n:=by omega
   have a1:(0:Int)<=(k:Int):=by omega
   have a2:(k:Int)<(n:Int):=by omega
   clear K;by_cases he:(⟨g,m,p,r,D⟩:bk)=⟨ck,b,cs,c,f⟩
   ·injection he with i0 i1 i2 i3 i4;subst i0 i1 i2 i3 i4;have hr:R=(k:Int):=by
     rw[G.o];exact xJ (d:=bk.zero) (by rw[<-F.o];exact U) H.o.symm i.o.1
    have t:=ae hr;clear hr;go_wp2_with fail
    go_region
    all_goals (
     go_wp2_with fail
     go_ret
     exact⟨by rw[t.o];rfl,s.o.drew⟩)
   ·have M:=ae he;have V:(ck≠g)\/(ck=g/\b≠m)\/(ck=g/\b=m/\cs≠p)\/(ck=g/\b=m/\cs=p/\c≠r)\/(ck=g/\b=m/\cs=p/\c=r/\f≠D):=by
     rcases Classical.em (ck=g/\b=m/\cs=p/\c=r/\f=D)with h|h
     ·exact absurd (by obtain⟨rfl,rfl,rfl,rfl,rfl⟩:=h;rfl) he
     ·omega
    clear he;rcases V with h|⟨rfl,h⟩|⟨rfl,rfl,h⟩|⟨rfl,rfl,rfl,h⟩|⟨rfl,rfl,rfl,rfl,h⟩
    all_goals (
     go_wp2_with fail
     go_region
     all_goals (
      go_wp2_with fail
      have O:Hid ((∀q,q<k+1->l.getD q bk.zero≠⟨ck,b,cs,c,f⟩)/\dd j.heap.size j wr.drew):=ae ⟨λq hq=>by
       rcases dy q k with h|h
       ·exact i.o.1 q h
       ·rw[show q=k by omega,<-H.o];exact M.o,i.o.2.drew⟩
      go_roundw
      case rel=>exact⟨k+1,by go_num,by omega,O⟩
      case measure=>simp[intOf];omega))
  ·have e:k=n:=by omega
   subst e;clear hlt;have hr:R=-1:=by
    rw[G.o];exact rl (d:=bk.zero) (λq hq=>i.o.1 q (by rw[F.o];exact hq))
   have t:=ae hr;clear hr;go_wp2
   go_ret
   exact⟨by rw[t.o];rfl,s.o⟩
theorem uE(v:bd)(l:List bk)(y:bk)(w:ax)(hv:oQ w v l):
  bl ed 53 #[v,.agg (aQ y).toArray] w λe w'=>e= .returned (.bool (decide (y∈l)))/\dd w.heap.size w w':=by
 have j:=tq l y;obtain⟨r,hr⟩:=aK (lY l y);obtain⟨d,hd⟩:=aK (decide (y∈l));rw[<-hr,<-hd]at j;rw[<-hd];have t:=ae hr;have p:=ae j;obtain⟨ck,c,cs,f,g⟩:=y;obtain⟨ea,i,rfl,hle,u,-⟩:=id hv;obtain⟨n,k⟩:=aK l.length;rw[<-k]at hv hle|-;show bl ed 53 #[.slice ea n i,.agg #[.int .i64 ck,.int .i64 c,.int .i64 cs,.int .i64 f,.int .i64 g]] w _;have q:Hid (∀a,oQ a (.slice ea n i) l->bl ed 50 #[.slice ea n i,.agg #[ck,c,cs,f,g]] a λe w'=>e= .returned r/\dd a.heap.size a w'):=ae (λa h=>by rw[hr];exact uC _ l ⟨ck,c,cs,f,g⟩ a h);have s:=ae hv;clear hr hd j hv k;go_enter func53,ntmps53
 have b:Hid (∀o,dd w.heap.size w (w.alloc o)):=ae (λo=>(aj _ _).alloc (ag _) o);go_wp2_with (first
  |(go_at_call 50;refine(q.o _ (s.o.stay (b.o _))).m ?_;rintro e x ⟨rfl,hb⟩;have m:=ae ((b.o _).t (hb.m (b.o _).size));clear hb))
 go_ret
 exact⟨by rw[<-p.o];rfl,m.o⟩
theorem GQ:(prog.info? 54).map (λi=>(i.zero,i.size,i.bytes))=de (de (.agg #[(0:Int),(0:Int),(0:Int),(0:Int),(0:Int)]),5,40):=by kernel_rfl
theorem nZ{W:ax}{b:Nat}{c:Array bd}{t:TypeId}{f:Nat×Nat}(h:W.heap[b]?=de (.cells c t f)){k:Nat}:W.cell? (b,k)=c[k]?:=by
 unfold World.cell?;rw[h];rfl
theorem pR{P:Program}(W:ax){t e ty:TypeId}{z:bd}(d:P.underlying t=de (.slice e))(hv:∀w,(zeroValue e).run P w= .ok z w){sz:Nat}(i:z.cells.size=sz)(p:0<sz)(h1:∀u∈z.cells.toList,u.oneCell'=dE)(b o n c:Nat){cs:Array bd}{k:TypeId}(hb:W.heap[b]?=de (.cells cs k (0,0)))(l:o+n*sz<=cs.size):
  ∃g:List bd,g.length=n*sz/\(Builtin.clear_ #[t] ty #[.slice (b,o) n c]).run P W= .ok (.tuple #[]) (W.setCells b o g):=by
 cases n with
 |zero=>
  refine⟨[],by simp,?_⟩;simp[Builtin.clear_,dt d];rfl
 |succ m=>
  have f:(Builtin.zeroCells z.cells (m+1)).toList.length=(m+1)*sz:=by rw[iR,size_zeroCells,i]
  refine⟨(Builtin.zeroCells z.cells (m+1)).toList,f,?_⟩;have h:∀u∈(Builtin.zeroCells z.cells (m+1)).toList,u.oneCell'=dE:=by
   intro u hu;refine h1 u ?_;simp[Builtin.zeroCells]at hu;obtain⟨j,hj,rfl⟩:=hu;have hlt:j%z.cells.size<z.cells.size:=fm _ (by omega);simp[hlt]
  have a:=run_storeCells_cells (P:=P) b o (Builtin.zeroCells z.cells (m+1)).toList 0 W (λj hj=>by
   rw[f]at hj;have:(cs[o+(0+j)]?).isSome=dE:=by rw[bm (by omega)];rfl
   simpa[World.cell?,hb]using this) (λj _=>aO hb _) h
  simp only[fI]at a;simp[Builtin.clear_,dt d,hv,a]
theorem Hr{hH:bI}{tg:Nat×Nat}{W:ax}{v:bd}{n:Nat}{cs:List bd}(h:ev hH tg 54 5 W v n cs)(G:∀u∈cs,u.oneCell'=dE)(k:Nat)(hk:k<n):
  bl ed 129 #[v,k,(k+1:Int)] W λe x=>∃a c,e= .returned (.slice a (n-1) c)/\ev hH tg 54 5 x (.slice a (n-1) c) (n-1) (cs.take (k*5)++cs.drop ((k+1)*5))/\cG hH W hH x (·=tg)/\x.heap.size=W.heap.size:=by
 obtain⟨hl,h0|⟨b,off,cap,c,rfl,h3,h4,h5,h6,D,y⟩⟩:=h
 ·omega
 obtain⟨i,hi,hz,X,a3⟩:=gD GQ;have a0:cap<=9223372036854775807:=h4;have a4:n*5<=cap*5:=gq _ h3;obtain⟨news,l⟩:=aK (cs.drop ((k+1)*5));have hlen:news.length=(n-(k+1))*5:=by rw[l,cO,hl];omega
 obtain⟨A,S,V⟩:∃A:Addr,(if cap=k+1 then de ((b,off):Addr)else de (b,off+(k+1)*5))=de A/\Hid (∀t u,news[t]?=de u->W.drew.cell? (A.add t)=de u):=by
  by_cases h:cap=k+1
  ·refine⟨(b,off),by simp[h],λt u hu=>?_⟩;have h0:news.length=0:=by rw[hlen];omega
   rw[qV.1 h0]at hu;simp at hu
  ·refine⟨(b,off+(k+1)*5),by simp[h],λt u hu=>?_⟩;have B:t<news.length:=(cX.1 hu).1;rw[hlen]at B;rw[l,gZ]at hu;rw[gY];have:=y ((k+1)*5+t) (by rw[hl];omega);rw[hu]at this;exact ej (w:=W.drew) h6 _ (by rw[eI];exact this)
 have s1:=ae hlen;have s2:Hid (∀u∈news,u.oneCell'=dE):=ae (λu hu=>G u (by rw[l]at hu;exact List.mem_of_mem_drop hu));have Y:Hid (∀t,t<news.length->(W.drew.cell? (b,off+k*5+t)).isSome=dE/\W.drew.frozen? (b,off+k*5+t)=dT):=ae (λt B=>by
  rw[hlen]at B;have:(c[off+k*5+t]?).isSome=dE:=by rw[bm (by omega)];rfl
  exact⟨by show(W.cell? _).isSome=dE;rw[nZ h6];exact this,aO (w:=W.drew) h6 _⟩)
 obtain⟨d,f⟩:=aK (W.drew.setCells b (off+k*5) news);obtain⟨c1,p,r,J⟩:=eC b 54 (0,0) news (off+k*5) c W.drew h6 (by rw[hlen];omega);rw[<-f]at p;obtain⟨s,Z,C⟩:=pR (P:=ed) (ty:=0) d Tryz.underlying39 (λw=>Tryz.zeroValue54 w) (sz:=5) rfl (by decide) (by intro u hu;simp[Value.cells]at hu;first|(subst hu;rfl)|(rcases hu with h|h<;>subst h<;>rfl)) b (off+(n-1)*5) 1 (cap-(n-1)) p (by rw[r];omega);obtain⟨o,g⟩:=aK (d.setCells b (off+(n-1)*5) s);obtain⟨R,r1,K,L⟩:=eC b 54 (0,0) s (off+(n-1)*5) c1 d p (by rw[Z,r];omega);rw[<-g]at r1 C;have z:ev hH tg 54 5 o (.slice (b,off) (n-1) cap) (n-1) (cs.take (k*5)++cs.drop ((k+1)*5)):=by
  have E:(cs.take (k*5)++cs.drop ((k+1)*5)).length=(n-1)*5:=by rw[aD,aM,cO,hl];omega
  refine⟨E,.inr ⟨b,off,cap,R,rfl,by omega,h4,h5,r1,by rw[K,r];exact D,λj hj=>?_⟩⟩;rw[E]at hj;rw[L,ak (by omega),J];by_cases e:j<k*5
  ·rw[ak (by omega),bU (by rw[aM,hl];omega),cR,ar e];exact y j (by rw[hl];omega)
  ·rw[ar (by rw[hlen];omega),bF (by rw[aM,hl];omega),aM,hl,show min (k*5) (n*5)=k*5 by omega,l,show off+j-(off+k*5)=j-k*5 by omega]
 have F:cG hH W hH o (·=tg):=by
  have e1:=cY b news (off+k*5) W.drew;have e2:=cY b s (off+(n-1)*5) d;rw[<-f]at e1;rw[<-g]at e2;exact⟨e2.2.2.1.t e1.2.2.1,e2.2.1.t e1.2.1,e2.2.2.2.t e1.2.2.2,by rw[e2.1,e1.1];exact ag _,λq hq U=>by
   have H:q≠b:=λe=>U (by rw[e];exact h5);rw[g,ep b q H,f,ep b q H];rfl,λ_ _=>rfl⟩
 have I:o.heap.size=W.heap.size:=by
  rw[g,(cY b s _ d).1,f,(cY b news _ W.drew).1];rfl
 have T:∀ty,(Builtin.clear_ #[39] ty #[.slice (b,off+(n-1)*5) 1 (cap-(n-1))]).run ed d= .ok (.tuple #[]) o:=λty=>C;have a6:k<=cap:=by omega
 have a7:k+1<=cap:=by omega
 have a8:k+1<=n:=by omega
 obtain⟨m,hm⟩:=aK (n-1);have a5:¬cap=m:=by omega
 have b2:m<=n:=by omega
 have b0:(m:Int)<=(n:Int):=by omega
 have a9:(0:Int)<=(m:Int):=by omega
 have b1:m<=cap:=by omega
 have b3:n-m=1:=by omega
 rw[<-hm]at T z|-;have a1:(0:Int)<=(k:Int)+1:=by omega
 have a2:(k:Int)+1<=(n:Int):=by omega
 have Q:=ae f;have M:=ae z;have N:=ae F;have O:=ae I;clear hm f g z F I C r1 K L p r J l hlen y hl G h6 D;go_enter func129,ntmps129
 go_wp2_with fail
 go_region_law (refine step_append_room rfl (.tmp 22) (.tmp 25) 39 rfl 54 i 5 Tryz.underlying39 hi X b off k cap (by simp[Act.eval,Act.put]) A (n-(k+1)) (cap-(k+1)) news (by simp[Act.eval,Act.put,S];done) s1.o V.o s2.o (by omega) Y.o ?_;rw[<-Q.o])
 all_goals (
  rw[show k+(n-(k+1))=m by omega];go_wp2_with fail
  go_ret
  refine⟨_,_,?_,M.o,N.o,O.o⟩;rfl)
theorem Ho{hH:bI}{tg:Nat×Nat}{W:ax}{v:bd}{n:Nat}{cs:List bd}(h:ev hH tg 111 14 W v n cs)(G:∀u∈cs,u.oneCell'=dE)(k:Nat)(hk:k<n):
  bl ed 57 #[v,k,(k+1:Int)] W λe x=>∃a c,e= .returned (.slice a (n-1) c)/\ev hH tg 111 14 x (.slice a (n-1) c) (n-1) (cs.take (k*14)++cs.drop ((k+1)*14))/\cG hH W hH x (·=tg)/\x.heap.size=W.heap.size:=by
 obtain⟨hl,h0|⟨b,off,cap,c,rfl,h3,h4,h5,h6,D,y⟩⟩:=h
 ·omega
 obtain⟨i,hi,hz,X,a3⟩:=gD Dc;have a0:cap<=9223372036854775807:=h4;have a4:n*14<=cap*14:=gq _ h3;obtain⟨news,l⟩:=aK (cs.drop ((k+1)*14));have hlen:news.length=(n-(k+1))*14:=by rw[l,cO,hl];omega
 obtain⟨A,S,V⟩:∃A:Addr,(if cap=k+1 then de ((b,off):Addr)else de (b,off+(k+1)*14))=de A/\Hid (∀t u,news[t]?=de u->W.drew.cell? (A.add t)=de u):=by
  by_cases h:cap=k+1
  ·refine⟨(b,off),by simp[h],λt u hu=>?_⟩;have h0:news.length=0:=by rw[hlen];omega
   rw[qV.1 h0]at hu;simp at hu
  ·refine⟨(b,off+(k+1)*14),by simp[h],λt u hu=>?_⟩;have B:t<news.length:=(cX.1 hu).1;rw[hlen]at B;rw[l,gZ]at hu;rw[gY];have:=y ((k+1)*14+t) (by rw[hl];omega);rw[hu]at this;exact ej (w:=W.drew) h6 _ (by rw[eI];exact this)
 have s1:=ae hlen;have s2:Hid (∀u∈news,u.oneCell'=dE):=ae (λu hu=>G u (by rw[l]at hu;exact List.mem_of_mem_drop hu));have Y:Hid (∀t,t<news.length->(W.drew.cell? (b,off+k*14+t)).isSome=dE/\W.drew.frozen? (b,off+k*14+t)=dT):=ae (λt B=>by
  rw[hlen]at B;have:(c[off+k*14+t]?).isSome=dE:=by rw[bm (by omega)];rfl
  exact⟨by show(W.cell? _).isSome=dE;rw[nZ h6];exact this,aO (w:=W.drew) h6 _⟩)
 obtain⟨d,f⟩:=aK (W.drew.setCells b (off+k*14) news);obtain⟨c1,p,r,J⟩:=eC b 111 (0,0) news (off+k*14) c W.drew h6 (by rw[hlen];omega);rw[<-f]at p;obtain⟨s,Z,C⟩:=pR (P:=ed) (ty:=0) d Tryz.underlying66 (λw=>Tryz.zeroValue111 w) (sz:=14) rfl (by decide) (by intro u hu;simp[Value.cells]at hu;first|(subst hu;rfl)|(rcases hu with h|h<;>subst h<;>rfl)) b (off+(n-1)*14) 1 (cap-(n-1)) p (by rw[r];omega);obtain⟨o,g⟩:=aK (d.setCells b (off+(n-1)*14) s);obtain⟨R,r1,K,L⟩:=eC b 111 (0,0) s (off+(n-1)*14) c1 d p (by rw[Z,r];omega);rw[<-g]at r1 C;have z:ev hH tg 111 14 o (.slice (b,off) (n-1) cap) (n-1) (cs.take (k*14)++cs.drop ((k+1)*14)):=by
  have E:(cs.take (k*14)++cs.drop ((k+1)*14)).length=(n-1)*14:=by rw[aD,aM,cO,hl];omega
  refine⟨E,.inr ⟨b,off,cap,R,rfl,by omega,h4,h5,r1,by rw[K,r];exact D,λj hj=>?_⟩⟩;rw[E]at hj;rw[L,ak (by omega),J];by_cases e:j<k*14
  ·rw[ak (by omega),bU (by rw[aM,hl];omega),cR,ar e];exact y j (by rw[hl];omega)
  ·rw[ar (by rw[hlen];omega),bF (by rw[aM,hl];omega),aM,hl,show min (k*14) (n*14)=k*14 by omega,l,show off+j-(off+k*14)=j-k*14 by omega]
 have F:cG hH W hH o (·=tg):=by
  have e1:=cY b news (off+k*14) W.drew;have e2:=cY b s (off+(n-1)*14) d;rw[<-f]at e1;rw[<-g]at e2;exact⟨e2.2.2.1.t e1.2.2.1,e2.2.1.t e1.2.1,e2.2.2.2.t e1.2.2.2,by rw[e2.1,e1.1];exact ag _,λq hq U=>by
   have H:q≠b:=λe=>U (by rw[e];exact h5);rw[g,ep b q H,f,ep b q H];rfl,λ_ _=>rfl⟩
 have I:o.heap.size=W.heap.size:=by
  rw[g,(cY b s _ d).1,f,(cY b news _ W.drew).1];rfl
 have T:∀ty,(Builtin.clear_ #[66] ty #[.slice (b,off+(n-1)*14) 1 (cap-(n-1))]).run ed d= .ok (.tuple #[]) o:=λty=>C;have a6:k<=cap:=by omega
 have a7:k+1<=cap:=by omega
 have a8:k+1<=n:=by omega
 obtain⟨m,hm⟩:=aK (n-1);have a5:¬cap=m:=by omega
 have b2:m<=n:=by omega
 have b0:(m:Int)<=(n:Int):=by omega
 have a9:(0:Int)<=(m:Int):=by omega
 have b1:m<=cap:=by omega
 have b3:n-m=1:=by omega
 rw[<-hm]at T z|-;have a1:(0:Int)<=(k:Int)+1:=by omega
 have a2:(k:Int)+1<=(n:Int):=by omega
 have Q:=ae f;have M:=ae z;have N:=ae F;have O:=ae I;clear hm f g z F I C r1 K L p r J l hlen y hl G h6 D;go_enter func57,ntmps57
 go_wp2_with fail
 go_region_law (refine step_append_room rfl (.tmp 22) (.tmp 25) 66 rfl 111 i 14 Tryz.underlying66 hi X b off k cap (by simp[Act.eval,Act.put]) A (n-(k+1)) (cap-(k+1)) news (by simp[Act.eval,Act.put,S];done) s1.o V.o s2.o (by omega) Y.o ?_;rw[<-Q.o])
 all_goals (
  rw[show k+(n-(k+1))=m by omega];go_wp2_with fail
  go_ret
  refine⟨_,_,?_,M.o,N.o,O.o⟩;rfl)
theorem Kb(a0 a1 a2 a3 a4 a b1 b2 b c:Int):(a0=a/\a1=b1/\a2=b2/\a3=b/\a4=c)\/a0≠a\/(a0=a/\a1≠b1)\/(a0=a/\a1=b1/\a2≠b2)\/(a0=a/\a1=b1/\a2=b2/\a3≠b)\/(a0=a/\a1=b1/\a2=b2/\a3=b/\a4≠c):=by omega
theorem wj(x y:bk)(nb:Nat)(w:ax)(a:w.heap[nb]?=de (.cells (aQ y).toArray 54 (0,0))):
  bl ed 126 #[.agg (aQ x).toArray,ptr nb] w λe w'=>e= .returned (.bool (decide (x=y)))/\dd w.heap.size w w':=by
 obtain⟨a0,a1,a2,a3,a4⟩:=x;obtain⟨b,b1,b2,c,f⟩:=y;have hlt:=hF a;have c0:∀o,(w.alloc o).cell? (nb,0)=b:=gV a 0 rfl;have c1:∀o,(w.alloc o).cell? (nb,1)=b1:=gV a 1 rfl;have k:∀o,(w.alloc o).cell? (nb,2)=b2:=gV a 2 rfl;have l:∀o,(w.alloc o).cell? (nb,3)=c:=gV a 3 rfl;have m:∀o,(w.alloc o).cell? (nb,4)=f:=gV a 4 rfl;have i:=ae (λo=>(aj w.heap.size w).alloc (ag _) o);show bl ed 126 #[.agg #[.int .i64 a0,.int .i64 a1,.int .i64 a2,.int .i64 a3,.int .i64 a4],.pointer (de ⟨nb,0,dl⟩)] w _;have hd:∀p:Bool,p=decide ((⟨a0,a1,a2,a3,a4⟩:bk)=⟨b,b1,b2,c,f⟩)->p=decide (a0=b/\a1=b1/\a2=b2/\a3=c/\a4=f):=λp h=>by rw[h];simp
 obtain⟨d,g⟩:∃d,d=decide ((⟨a0,a1,a2,a3,a4⟩:bk)=⟨b,b1,b2,c,f⟩):=⟨_,rfl⟩
 have j:=ae (hd d g);rw[<-g];clear a hd g;rcases Kb a0 a1 a2 a3 a4 b b1 b2 c f with⟨rfl,rfl,rfl,rfl,rfl⟩|h|⟨rfl,h⟩|⟨rfl,rfl,h⟩|⟨rfl,rfl,rfl,h⟩|⟨rfl,rfl,rfl,rfl,h⟩
 all_goals (
  go_enter func126,ntmps126
  go_wp2
  go_ret
  refine⟨?_,i.o _⟩;have h2:=j.o;simp_all)
theorem uD(v:bd)(l:List bk)(y:bk)(nb:Nat)(w:ax)(hv:oQ w v l)(hb:w.heap[nb]?=de (.cells (aQ y).toArray 54 (0,0))):
  bl ed 128 #[v,.func (.func 126) #[] #[ptr nb]] w λe w'=>e= .returned (lY l y)/\dd w.heap.size w w':=by
 obtain⟨ea,K,rfl,hle,M,-⟩:=id hv;obtain⟨n,j⟩:=aK l.length;rw[<-j]at hv hle|-;have W:K<=9223372036854775807:=M;obtain⟨R,g⟩:=aK (lY l y);rw[<-g];have u:=ae g;have I:=ae hv;have s:=ae j;have r:=ae hb;have A:=ae (λx P h=>wj x y nb P h);clear g hv j hb;unfold ptr at A|-;go_enter func128,ntmps128
 go_wp2_with fail
 go_loopw [8] (λa wr=>∃k:Nat,a= .int .i64 k/\k<=n/\Hid ((∀q,q<k->l.getD q bk.zero≠y)/\dd w.heap.size w wr)) (λa _=>n-(intOf a).toNat)
 case atStart=>exact⟨0,rfl,bX _,ae ⟨λq hq=>absurd hq (by omega),aj _ _⟩⟩
 case round=>
  obtain⟨k,rfl,hkn,b⟩:=hrel;by_cases hlt:k<n
  ·obtain⟨D,L,rfl,N,i⟩:=I.o.cells.2.2 k (by omega);obtain⟨z,o⟩:=aK (l.getD k bk.zero);rw[<-o]at i;have C:=ae o;have E:∀q,q<5->wr.cell? (D,L+k*5+q)=(aQ z)[q]?:=λq hq=>by
    rw[<-i q hq,eJ,eI];exact aw (w:=w) (b.o.2.block D N)
   clear i o;have G:=ae ((b.o.2.block nb (hF r.o)).t r.o);obtain⟨p,hp⟩:=aK (decide (z=y));have m:=A.o z wr G.o;rw[<-hp]at m;obtain⟨zk,Z,zs,zn,zv⟩:=z;obtain⟨Q,S,T,U,V⟩:=qd E;dsimp only at Q S T U V;have O:k<n:=by omega
   have X:(0:Int)<=(k:Int):=by omega
   have Y:(k:Int)<(n:Int):=by omega
   have t:=ae hp;have B:=ae m;clear E hp m;cases p with
   |true=>
    have he:=fF t.o.symm;have hr:R=(k:Int):=by
     rw[u.o];exact xJ (d:=bk.zero) (by rw[<-s.o];exact O) (C.o.symm.t he) b.o.1
    have f:=ae hr;clear hr he;go_wp2_with (first
     |((first|go_at_call 126|go_at_fn 126);refine B.o.m ?_;rintro e F ⟨rfl,hb⟩;have c:=ae hb;clear hb))
    go_ret
    exact⟨by rw[f.o];rfl,b.o.2.t (c.o.m b.o.2.size)⟩
   |false=>
    have he:=fY t.o.symm;have H:=ae he;clear he;go_wp2_with (first
     |((first|go_at_call 126|go_at_fn 126);refine B.o.m ?_;rintro e F ⟨rfl,hb⟩;have c:=ae hb;clear hb))
    have J:Hid ((∀q,q<k+1->l.getD q bk.zero≠y)/\dd w.heap.size w F):=ae ⟨λq hq=>by
     rcases dy q k with h|h
     ·exact b.o.1 q h
     ·rw[show q=k by omega,<-C.o];exact H.o,b.o.2.t (c.o.m b.o.2.size)⟩
    go_roundw
    case rel=>exact⟨k+1,by go_num,by omega,J⟩
    case measure=>simp[intOf];omega
  ·have e:k=n:=by omega
   subst e;clear hlt;have hr:R=-1:=by
    rw[u.o];exact rl (d:=bk.zero) (λq hq=>b.o.1 q (by rw[s.o];exact hq))
   have f:=ae hr;clear hr;go_wp2
   go_ret
   exact⟨by rw[f.o];rfl,b.o.2⟩
set_option maxHeartbeats 400000
def jQ(l:List bk)(y:bk)(j:Nat):List bk:=(l.take j).filter (λx=>decide (x≠y))
theorem oK{l:List bk}{y:bk}{j:Nat}(hj:j<l.length):jQ l y (j+1)=if l.getD j bk.zero=y then jQ l y j else jQ l y j++[l.getD j bk.zero]:=by
 unfold jQ;have e:l.getD j bk.zero=l[j]:=by simp[au,hj]
 rw[fJ hj,List.filter_append,e];by_cases h:l[j]=y
 ·rw[ar h];simp[h]
 ·rw[ak h];simp[h]
theorem BH(l:List bk)(y:bk):jQ l y l.length=l.filter (λx=>decide (x≠y)):=by unfold jQ;rw[List.take_length]
theorem zP{l:List bk}{y:bk}(h:y∉l):l.filter (λx=>decide (x≠y))=l:=by
 apply dQ.2;intro x hx;simp only[ne_eq,ap];exact λe=>h (e▸hx)
theorem xX{l:List bk}{y:bk}(h:y∈l):jQ l y (l.idxOf y+1)=l.take (l.idxOf y):=by
 have hi:l.idxOf y<l.length:=eB h;rw[oK hi,ar (by simp[au,hi])];unfold jQ;apply dQ.2;intro x hx;simp only[ne_eq,ap];intro e;subst e;obtain⟨j,hj,e⟩:=List.mem_iff_getElem.1 hx;rw[aM]at hj;rw[List.getElem_take]at e;have h6:(l.take (l.idxOf x)).idxOf x<(l.take (l.idxOf x)).length:=eB hx;have a:l.idxOf x=(l.take (l.idxOf x)).idxOf x:=by
  conv=>lhs;rw[<-dg (l.idxOf x) l]
  rw[List.idxOf_append,ar hx]
 rw[aM]at h6;omega
structure kV(W:ax)(b off n sz:Nat)(l:List bk)(y:bk)(i j:Nat)(w:ax):Prop where
 len:i=(jQ l y j).length
 lt:i<j
 le:j<=n
 os:w.os=W.os
 tape:w.tape=W.tape
 output:w.output=W.output
 size:W.heap.size<=w.heap.size
 AH:∀k,k<W.heap.size->k≠b->w.heap[k]?=W.heap[k]?
 row:∃c,w.heap[b]?=de (.cells c 54 (0,0))/\c.size=sz/\(∀q,q<i->∀r,r<5->c[off+(5*q+r)]?=(aQ ((jQ l y j).getD q bk.zero))[r]?)/\(∀q,j<=q->q<n->∀r,r<5->c[off+(5*q+r)]?=(aQ (l.getD q bk.zero))[r]?)
theorem kV.below{W:ax}{b off n sz i j:Nat}{l:List bk}{y:bk}{w w':ax}(h:kV W b off n sz l y i j w)(hb:dd w.heap.size w w'):kV W b off n sz l y i j w':=by
 obtain⟨c,h1,h2⟩:=h.row;exact⟨h.len,h.lt,h.le,hb.os.t h.os,hb.tape.t h.tape,hb.output.t h.output,aE h.size hb.size,λk hk a=>(hb.block k (ai hk h.size)).t (h.AH k hk a),c,(hb.block b (hF h1)).t h1,h2⟩
theorem kV.skip{W:ax}{b off n sz i j:Nat}{l:List bk}{y:bk}{w:ax}(h:kV W b off n sz l y i j w)(a:n=l.length)(hj:j<n)(he:l.getD j bk.zero=y):kV W b off n sz l y i (j+1) w:=by
 obtain⟨c,h1,h2,h3,h4⟩:=h.row;have e:jQ l y (j+1)=jQ l y j:=by rw[oK (by omega),ar he]
 exact⟨by rw[e];exact h.len,by have:=h.lt;omega,hj,h.os,h.tape,h.output,h.size,h.AH,c,h1,h2,by rw[e];exact h3,λq hq=>h4 q (by omega)⟩
theorem kV.put{W:ax}{b off n sz i j:Nat}{l:List bk}{y z:bk}{w:ax}(h:kV W b off n sz l y i j w)(s:n=l.length)(hj:j<n)(f:z=l.getD j bk.zero)(he:z≠y)(t:off+n*5<=sz)(p:b<W.heap.size):kV W b off n sz l y (i+1) (j+1) (w.setCells b (off+i*5) (aQ z)):=by
 obtain⟨c,h1,h2,h3,h4⟩:=h.row;have e:jQ l y (j+1)=jQ l y j++[z]:=by rw[oK (by omega),ak (by rw[<-f];exact he),f]
 have hi:=h.len;have hl:=h.lt;have hw:=cY b (aQ z) (off+i*5) w;obtain⟨g,k1,k2,k3⟩:=eC b 54 (0,0) (aQ z) (off+i*5) c w h1 (by show off+i*5+5<=c.size;omega);have d:(aQ z).length=5:=rfl;refine⟨by rw[e];simp;exact hi,by omega,hj,hw.2.2.1.t h.os,hw.2.1.t h.tape,hw.2.2.2.t h.output,by rw[hw.1];exact h.size,λk hk a=>(ep b k a _ _ _).t (h.AH k hk a),g,k1,k2.t h2,λq hq r hr=>?_,λq h5 h6 r hr=>?_⟩
 ·rw[k3,d];by_cases o:q<i
  ·rw[ak (by omega),h3 q o r hr,e];rw[au,au,bU (by omega)]
  ·have m:q=i:=by omega
   subst m;rw[ar (by omega),show off+(5*q+r)-(off+q*5)=r by omega,e,au,bF (by omega),<-hi,Nat.sub_self];rfl
 ·rw[k3,d,ak (by omega)];exact h4 q (by omega) h6 r hr
theorem kV.start{hH:bI}{tg:Nat×Nat}{W w:ax}{b off n cap:Nat}{l:List bk}{y:bk}{c:Array bd}(d:n=l.length)(h6:W.heap[b]?=de (.cells c 54 (0,0)))(a:∀q,q<l.length->∀r,r<5->c[off+(5*q+r)]?=(aQ (l.getD q bk.zero))[r]?)(hm:y∈l)(hb:dd W.heap.size W w):kV W b off n c.size l y (l.idxOf y) (l.idxOf y+1) w:=by
 have hi:l.idxOf y<l.length:=eB hm;have e:=xX hm;refine⟨by rw[e,aM];omega,by omega,by omega,hb.os,hb.tape,hb.output,hb.size,λk hk _=>hb.block k hk,c,(hb.block b (hF h6)).t h6,rfl,λq hq r hr=>?_,λq h1 h2 r hr=>a q (by omega) r hr⟩;rw[a q (by omega) r hr,e,au,au,cR,ar hq]
theorem Jt{hH:bI}{tg:Nat×Nat}{t:TypeId}{b off:Nat}{c:Array bd}{l:List bk}(h:∀j,j<(l.flatMap aQ).length->c[off+j]?=(l.flatMap aQ)[j]?):∀q,q<l.length->∀r,r<5->c[off+(5*q+r)]?=(aQ (l.getD q bk.zero))[r]?:=λq hq r hr=>by
 rw[<-iN aQ bk.zero 5 (λ_=>rfl) l q hq r hr];refine h _ ?_;rw[fg aQ 5 (λ_=>rfl)];omega
theorem Js{off:Nat}{c:Array bd}{l:List bk}(h:∀q,q<l.length->∀r,r<5->c[off+(5*q+r)]?=(aQ (l.getD q bk.zero))[r]?):∀j,j<(l.flatMap aQ).length->c[off+j]?=(l.flatMap aQ)[j]?:=λj hj=>by
 rw[fg aQ 5 (λ_=>rfl)]at hj;have e:j=5*(j/5)+j%5:=(Nat.div_add_mod j 5).symm;rw[e,iN aQ bk.zero 5 (λ_=>rfl) l (j/5) (by omega) (j%5) (fm _ (by decide))];exact h _ (by omega) _ (fm _ (by decide))
theorem kV.finish{hH:bI}{tg:Nat×Nat}{W w:ax}{b off n cap i:Nat}{l:List bk}{y:bk}{sz:Nat}(h:kV W b off n sz l y i n w)(j:n=l.length)(hm:hH b=tg)(z:b<W.heap.size)(h3:n<=cap)(h4:cap<=maxLen)(o:off+cap*5<=sz):
  ∃a,(∀ty,(Builtin.clear_ #[39] ty #[.slice (b,off+i*5) (n-i) (cap-i)]).run ed w= .ok (.tuple #[]) a)/\jf hH tg a (.slice (b,off) i cap) (l.filter (λx=>decide (x≠y)))/\cG hH W hH a (·=tg):=by
 obtain⟨c,k1,k2,k3,k4⟩:=h.row;have hi:=h.len;have hl:=h.lt;rw[j,BH]at hi k3;obtain⟨d,t,v⟩:=pR (P:=ed) (ty:=0) w Tryz.underlying39 (λw=>Tryz.zeroValue54 w) (sz:=5) rfl (by decide) (by intro u hu;simp[Value.cells]at hu;subst hu;rfl) b (off+i*5) (n-i) (cap-i) k1 (by omega);obtain⟨g,r1,p,s⟩:=eC b 54 (0,0) d (off+i*5) c w k1 (by rw[t];omega);have hw:=cY b d (off+i*5) w;refine⟨w.setCells b (off+i*5) d,λty=>v,?_,⟨hw.2.2.1.t h.os,hw.2.1.t h.tape,hw.2.2.2.t h.output,by rw[hw.1];exact h.size,λk hk m=>?_,λ_ _=>rfl⟩⟩
 ·unfold jf;rw[<-hi];refine⟨by rw[fg aQ 5 (λ_=>rfl),<-hi],.inr ⟨b,off,cap,g,rfl,by omega,h4,hm,r1,by rw[p,k2];exact o,?_⟩⟩;refine Js (λq hq r hr=>?_);rw[<-hi]at hq;rw[s,ak (by omega)];exact k3 q hq r hr
 ·have f:k≠b:=λe=>m (by rw[e];exact hm);rw[ep b k f];exact h.AH k hk f
end Go.Proofs.YtcdmenphjilnnaaGreatDoor
namespace Go.Con
open Go.RowKit
set_option maxHeartbeats 400000
def ik(ops:Array Oper)(i k:Nat):Bool:=match ops[i]? with
 |some o=>o.after.any λe=>Region.binds .any e&&e.on==k
 |none=>dT
def pK(ops:Array Oper):Bool:=(List.range ops.size).all λi=>match ops[i]? with
 |some o=>o.after.all λe=>!Region.binds .any e||decide (e.on<i)
 |none=>dE
theorem lS{P:Program}{ops:Array Oper}{Q:Exit->Act->ax->Prop}{a0:Act}{u:ax}(z:pK ops=dE)(Inv:(Nat->Bool)->Act->ax->Prop)
  (F:∀i,i<ops.size->∀p a w,p i=dT->(∀k,ik ops i k=dE->p k=dE)->Inv p a w->wpOp P ops Q i (λa' w'=>Inv (λk=>p k||k==i) a' w') a w)
  (B:∀p a w,(∀k,k<ops.size->p k=dE)->Inv p a w->Q .normal a w)(h0:Inv (λ_=>dT) a0 u):
  wpAny P .any ops Q ops.size (Array.replicate ops.size dT) a0 u:=by
 obtain⟨n,t⟩:=aK ops.size;obtain⟨b,s⟩:=aK (List.range n);have C:b.Nodup:=by rw[s];exact List.nodup_range
 have f:∀k,k∈b<->k<n:=λk=>by rw[s,bj]
 have hlen:b.length=n:=by rw[s,List.length_range]
 obtain⟨c,l⟩:=aK (Array.replicate n dT);have I:c.size=n:=by rw[l];simp
 have d:∀(p:Nat->Bool) k,k<n->(mark c (b.filter p)).getD k dE=p k/\(mark c (b.filter p)).getD k dT=p k:=by
  intro p k hk;rw[bB,bB,uu];by_cases hp:p k=dE
  ·rw[ar ⟨bZ.2 ⟨(f k).2 hk,hp⟩,by omega⟩,hp];exact⟨rfl,rfl⟩
  ·have D:p k=dT:=by simpa using hp
   rw[ak (λh=>hp (bZ.1 h.1).2),D,l,Array.getElem?_replicate,ar hk];exact⟨rfl,rfl⟩
 have J:∀i o,ops[i]?=de o->∀e∈o.after,Region.binds .any e=dE->ik ops i e.on=dE:=λi o ho e he hb=>by
  unfold ik;rw[ho];simp only;rw[Array.any_eq_true'];exact⟨e,he,by rw[hb];simp⟩
 have v:∀i o,ops[i]?=de o->∀e∈o.after,Region.binds .any e=dE->e.on<i:=λi o ho e he hb=>by
  have hi:i<ops.size:=(hJ.1 ho).1;have h1:=gR.1 z i (bj.2 hi);simp only[ho]at h1;rw[Array.all_eq_true_iff_forall_mem]at h1;have h2:=h1 e he;rw[hb]at h2;simpa using h2
 have main:∀(m:Nat) (p:Nat->Bool) (a:Act) (w:ax),(b.filter p).length+m=n->Inv p a w->wpAny P .any ops Q m (mark c (b.filter p)) a w:=by
  intro m;induction m with
  |zero=>
   intro p a w hm g;have q:b.filter p=b:=by
    have h1:(b.filter p).Sublist b:=List.filter_sublist;exact h1.eq_of_length (by omega)
   have hp:∀k,k<n->p k=dE:=λk hk=>by
    have:=(f k).2 hk;rw[<-q]at this;exact(bZ.1 this).2
   refine⟨?_,B p a w (λk hk=>hp k (by omega)) g⟩;rw[List.eq_nil_iff_forall_not_mem];intro j hj;obtain⟨h1,o,ho,-⟩:=mem_ready.1 hj;have x:j<n:=by rw[t];exact(hJ.1 ho).1
   rw[(d p j x).1,hp j x]at h1;cases h1
  |succ m G=>
   intro p a w hm g;refine⟨λhr=>?_,λi hi=>?_⟩
   ·exfalso;have q:∀k,k<n->p k=dE:=by
     intro k;induction k using Nat.strongRecOn with
     |ind k H=>
      intro hk;by_cases hp:p k=dE
      ·exact hp
      ·exfalso;have ho:ops[k]?=de ops[k]:=bm (by omega);have:k∈Region.ready .any ops (mark c (b.filter p)):=mem_ready.2 ⟨by rw[(d p k hk).1];simpa using hp,_,ho,λe he hb=>by
        have h5:=v k _ ho e he hb;rw[(d p e.on (by omega)).2];exact H e.on h5 (by omega)⟩
       rw[hr]at this;cases this
    have A:b.filter p=b:=dQ.2 λk hk=>q k ((f k).1 hk);rw[A]at hm;omega
   ·obtain⟨h1,o,ho,h2⟩:=mem_ready.1 hi;have r:i<n:=by rw[t];exact(hJ.1 ho).1
    rw[(d p i r).1]at h1;have E:=F i (by omega) p a w h1 (λk hk=>by
     unfold ik at hk;rw[ho]at hk;simp only at hk;rw[Array.any_eq_true']at hk;obtain⟨e,he,h3⟩:=hk;rw[aP,eE]at h3;have h4:=h2 e he h3.1;have h5:=v i o ho e he h3.1;rw[(d p e.on (by omega)).2]at h4;rw[<-h3.2];exact h4) g
    refine fh (λa' w' h=>?_) E;rw[Gy c b p i ((f i).2 r)];refine G _ a' w' ?_ h;have:=so p i h1 b C ((f i).2 r);omega
 have h1:=main n (λ_=>dT) a0 u (by simp) h0;have y:b.filter (λ_=>dT)=[]:=by simp
 rw[y]at h1;rw[<-t,<-l];exact h1
theorem bh{P:Program}{ops:Array Oper}{Q:Exit->Act->ax->Prop}{a:Act}{w:ax}{id:Nat}(hm:P.follows .mixedOrders=dE)
  (h:∀W,dd w.heap.size w W->wpAny P .any ops Q ops.size (Array.replicate ops.size dT) a W):(Code.region id ops dE).wp P Q a w:=
 wp_region_any hm (h _ (below_drewN (aj _ _) 1))
inductive RK where
 |val(v:bd)
 |new(T:TypeId)(Z:Array bd)
 |put(j:Nat)(T:TypeId)(src:Nat)(cs:Array bd)
def RK.has:RK->Bool
 | .put .. =>dT
 |_=>dE
def kR(K:Nat->RK)(n:Nat):List Nat:=(List.range n).filter λk=>(K k).has
def lA(K:Nat->RK)(bs:Nat->Nat)(k:Nat):bd:=match K k with
 | .val v=>v
 | .new _ _=>(bs k,0)
 | .put .. =>undef
structure Fs(K:Nat->RK)(n:Nat)(w0:ax)(p:Nat->Bool)(bs:Nat->Nat)(w:ax):Prop where
 below:dd w0.heap.size w0 w
 new:∀k T Z,k<n->K k= .new T Z->p k=dE->w0.heap.size<=bs k/\bs k<w.heap.size/\∃C:Array bd,w.heap[bs k]?=de (.cells C T (0,0))/\C.size=Z.size
 ne:∀i k Ti Zi Tk Zk,i<n->k<n->K i= .new Ti Zi->K k= .new Tk Zk->p i=dE->p k=dE->i≠k->bs i≠bs k
 put:∀s j T src cs,s<n->K s= .put j T src cs->p s=dE->p j=dE/\w.heap[bs j]?=de (.cells cs T (0,0))
theorem li{B b:Nat}(hb:B<=b):∀(vs:List bd) (o:Nat) {w w':ax},dd B w w'->dd B w (w'.setCells b o vs)
 |[],_,_,_,h=>h
 |v::r,o,_,_,h=>li hb r (o+1) (h.setCell (p:=(b,o)) hb v)
theorem eg{b k:Nat}(hk:k≠b):∀(vs:List bd) (o:Nat) (W:ax),(W.setCells b o vs).heap[k]?=W.heap[k]?
 |[],_,_=>rfl
 |u::vs,o,W=>(eg hk vs (o+1) _).t (aA _ _ hk)
theorem lB(b:Nat):∀(vs:List bd) (o:Nat) (W:ax),(W.setCells b o vs).heap.size=W.heap.size
 |[],_,_=>rfl
 |u::vs,o,W=>(lB b vs (o+1) _).t (by simp[World.setCell])
theorem pC{b:Nat}{t:TypeId}{f:Nat×Nat}:∀(vs pre post:List bd) (o:Nat) (W:ax),o=pre.length->vs.length=post.length->W.heap[b]?=de (.cells (pre++post).toArray t f)->(W.setCells b o vs).heap[b]?=de (.cells (pre++vs).toArray t f)
 |[],pre,[],_,_,_,_,h=>h
 |[],_,_::_,_,_,_,h,_=>by simp at h
 |_::_,_,[],_,_,_,h,_=>by simp at h
 |v::vs,pre,q::post,o,W,ho,hl,h=>by
  have h1:=aB (c:=(pre++q::post).toArray) (o:=o) h v;have e:((pre++q::post).toArray.setIfInBounds o v)=((pre++[v])++post).toArray:=by
   subst ho;rw[aq,List.set_append_right _ _ (ag _),Nat.sub_self];simp
  rw[e]at h1;have h2:=pC vs (pre++[v]) post (o+1) _ (by simp[ho]) (by simpa using hl) h1;rw[bJ]at h2;exact h2
theorem CK{b:Nat}{t:TypeId}{C cs:Array bd}{W:ax}(h:W.heap[b]?=de (.cells C t (0,0)))(hs:C.size=cs.size):(W.setCells b 0 cs.toList).heap[b]?=de (.cells cs t (0,0)):=by
 have h1:=pC cs.toList [] C.toList 0 W rfl (by simp[hs]) (by simpa using h);simpa using h1
theorem gm(a:Act)(t:Tmp):a.eval (.tmp t)=a.tmps[t]?.getD undef:=by simp[Act.eval,bB]
theorem jP{P:Program}{ops:Array Oper}{Q:Exit->Act->ax->Prop}{a:Act}{w:ax}{i:Nat}{o:Oper}{b:Tmp}{v:bd}(hi:ops[i]?=de o)(hg:o.guard=dl)(hd:o.dst=de b)(c:(execOp a.eval o).run P w= .ok (.value v) w):
  wpOp P ops Q i (λa' w'=>a'=a.put (de b) v/\dd w.heap.size w w') a w:=jK hi hg v c ⟨by rw[hd],aj _ _⟩
theorem ui{P:Program}{ops:Array Oper}{Q:Exit->Act->ax->Prop}{a:Act}{w:ax}{i:Nat}{o:Oper}{b:Tmp}{v:bd}(hi:ops[i]?=de o)(hg:o.guard=dl)(hd:o.dst=de b)(c:(execOp a.eval o).run P w= .ok (.value v) w):
  wpOp P ops Q i (λa' w'=>a'=a.put (de b) v/\w'=w) a w:=jK hi hg v c ⟨by rw[hd],rfl⟩
theorem Ej{w:ax}{b:Nat}{C:Array bd}{t:TypeId}{v:bd}(h:w.heap[b]?=de (.cells C t (0,0)))(hs:C.size=(#[v]:Array bd).size):∃u,w.cell? (b,0)=de u:=by
 have h0:0<C.size:=by rw[hs];exact Nat.one_pos
 refine⟨C[0],?_⟩;unfold World.cell?;rw[h];show C[0]?=_;exact bm h0
theorem tS{w:ax}{b:Nat}{t:TypeId}{f:Nat×Nat}{A B C:List bd}{o:Nat}(h:w.heap[b]?=de (.cells (A++B++C).toArray t f))(ho:A.length=o):w.rangeAt b o B:=λj v hv=>by
 have hj:j<B.length:=(cX.1 hv).1;unfold World.cell?;rw[h];subst ho;show((A++B++C).toArray)[A.length+j]?=_;rw[nh,bJ,bF (Nat.le_add_right _ _),gA,bU hj];exact hv
theorem kD{w w':ax}{b o:Nat}{cs:List bd}(h:w.rangeAt b o cs)(hb:dd w.heap.size w w')(hlt:b<w.heap.size):w'.rangeAt b o cs:=λj v hv=>(hb.cell (p:=(b,o+j)) hlt).t (h j v hv)
theorem Bg{P:Program}{ops:Array Oper}{Q:Exit->Act->ax->Prop}{a0:Act}{J:ax}(K:Nat->RK)(d:Nat->Tmp)(W:List Nat)(a7:kR K ops.size=W)(a5:pK ops=dE)
  (a3:∀i,i∈kR K ops.size->(ops[i]?).bind (·.dst)=de (d i)/\d i<a0.tmps.size)(S:((kR K ops.size).map d).Nodup)
  (c1:∀i v,i<ops.size->K i= .val v->∀(a:Act) (w:ax),dd J.heap.size J w->(∀t,(∀k∈kR K ops.size,d k≠t)->a.eval (.tmp t)=a0.eval (.tmp t))->
   (∀k u,k<ops.size->ik ops i k=dE->K k= .val u->a.eval (.tmp (d k))=u)->wpOp P ops Q i (λa' w'=>a'=a.put (de (d i)) v/\dd w.heap.size w w') a w)
  (b5:∀i T Z,i<ops.size->K i= .new T Z->∃o,ops[i]?=de o/\o.guard=dl/\∀ρ w,(execOp ρ o).run P w= .ok (.value (w.heap.size,0)) (w.alloc (.cells Z T)))
  (a2:∀s j T src cs,s<ops.size->K s= .put j T src cs->j<ops.size/\src<ops.size/\ik ops s j=dE/\ik ops s src=dE/\∃Z v,K j= .new T Z/\Z.size=cs.size/\K src= .val v/\
   ∀(a:Act) (w:ax) (b:Nat) (C:Array bd),a.eval (.tmp (d j))= (b,0)->a.eval (.tmp (d src))=v->w.heap[b]?=de (.cells C T (0,0))->C.size=cs.size->wpOp P ops Q s (λa' w'=>a'=a/\w'=w.setCells b 0 cs.toList) a w)
  (b0:∀s r j T src cs T' N L,s<ops.size->r<ops.size->K s= .put j T src cs->K r= .put j T' N L->s=r)
  (b4:∀w bs,Fs K ops.size J (λ_=>dE) bs w->Q .normal (fA a0 d (lA K bs) W) w):
  wpAny P .any ops Q ops.size (Array.replicate ops.size dT) a0 J:=by
 have n:∀i,i∈kR K ops.size<->i<ops.size/\(K i).has=dE:=λi=>by unfold kR;rw[List.mem_filter,List.mem_range]
 have c0:∀(p:Nat->Bool) k,k∈(kR K ops.size).filter p->k∈kR K ops.size:=λp k hk=>(bZ.1 hk).1;have b6:∀p:Nat->Bool,(((kR K ops.size).filter p).map d).Nodup:=λp=>(List.filter_sublist.map d).nodup S;refine lS a5 (λp a w=>∃bs,a=fA a0 d (lA K bs) ((kR K ops.size).filter p)/\Fs K ops.size J p bs w) ?_ ?_ ?_
 ·rintro i hi p a w U m ⟨bs,rfl,I⟩;have b7:∀t,(∀k∈kR K ops.size,d k≠t)->(fA a0 d (lA K bs) ((kR K ops.size).filter p)).eval (.tmp t)=a0.eval (.tmp t):=λt ht=>ij d _ t _ (λk hk=>ht k (c0 p k hk)) a0;have R:∀k,k∈kR K ops.size->p k=dE->(fA a0 d (lA K bs) ((kR K ops.size).filter p)).eval (.tmp (d k))=lA K bs k:=λk hk hp=>kM d _ k _ (b6 p) (bZ.2 ⟨hk,hp⟩) a0 (a3 k hk).2;cases hK:K i with
  |val v=>
   have M:i∈kR K ops.size:=(n i).2 ⟨hi,by rw[hK];rfl⟩;refine fh (λa' w' h=>?_) (c1 i v hi hK _ w I.below b7 (λk u hk a6 Y=>by
    rw[R k ((n k).2 ⟨hk,by rw[Y];rfl⟩) (m k a6)];unfold lA;rw[Y]))
   obtain⟨rfl,hb⟩:=h;refine⟨bs,?_,?_⟩
   ·rw[iI d (lA K bs) v p i _ a0 S M U];refine fR d _ _ _ (λk hk=>?_) a0;by_cases c:k=i
    ·subst c;unfold lA;simp[hK]
    ·simp[c]
   ·refine⟨I.below.t (hb.m I.below.size),λk T Z hk hKk hp=>?_,λj k z A g l h1 h2 h3 h4 h5 h6 x=>?_,λs j T src cs hs hKs hp=>?_⟩
    ·have c:k≠i:=λe=>by rw[e,hK]at hKk;cases hKk
     obtain⟨g1,g2,C,B,D⟩:=I.new k T Z hk hKk (by simpa[c]using hp);exact⟨g1,ai g2 hb.size,C,(hb.block _ g2).t B,D⟩
    ·have e1:j≠i:=λe=>by rw[e,hK]at h3;cases h3
     have e2:k≠i:=λe=>by rw[e,hK]at h4;cases h4
     exact I.ne j k z A g l h1 h2 h3 h4 (by simpa[e1]using h5) (by simpa[e2]using h6) x
    ·have y:s≠i:=λe=>by rw[e,hK]at hKs;cases hKs
     obtain⟨g1,g2⟩:=I.put s j T src cs hs hKs (by simpa[y]using hp);exact⟨by simp[g1],(hb.block _ (hF g2)).t g2⟩
  |new T Z=>
   have M:i∈kR K ops.size:=(n i).2 ⟨hi,by rw[hK];rfl⟩;obtain⟨o,ho,hg,V⟩:=b5 i T Z hi hK;have hd:o.dst=de (d i):=by
    have:=(a3 i M).1;rw[ho]at this;exact this
   have hb:dd w.heap.size w (w.alloc (.cells Z T)):=(aj _ _).alloc (ag _) _;refine jK ho hg _ (V (fA a0 d (lA K bs) ((kR K ops.size).filter p)).eval w) ⟨λk=>if k=i then w.heap.size else bs k,?_,?_⟩
   ·rw[hd,iI d (lA K bs) _ p i _ a0 S M U];refine fR d _ _ _ (λk hk=>?_) a0;unfold lA;by_cases c:k=i
    ·subst c;simp[hK]
    ·simp[c]
   ·have a1:∀k T' f,k<ops.size->K k= .new T' f->k≠i->(p k||k==i)=dE->bs k<w.heap.size:=λk T' f h1 h2 h3 h4=>(I.new k T' f h1 h2 (by simpa[h3]using h4)).2.1;refine⟨I.below.t (hb.m I.below.size),λk T' f hk hKk hp=>?_,λj k z A g l h1 h2 h3 h4 h5 h6 x=>?_,λs j T' src cs hs hKs hp=>?_⟩
    ·by_cases c:k=i
     ·subst c;rw[hK]at hKk;injection hKk with e1 e2;subst e1 e2;simp only[ar];exact⟨I.below.size,by rw[cp];exact gQ _,Z,aL w _,rfl⟩
     ·simp only[ak c];obtain⟨g1,g2,C,B,D⟩:=I.new k T' f hk hKk (by simpa[c]using hp);exact⟨g1,ai g2 hb.size,C,(hb.block _ g2).t B,D⟩
    ·by_cases E:j=i
     ·subst E;simp only[ar,ak (Ne.symm x)];have:=a1 k g l h2 h4 (Ne.symm x) h6;omega
     ·simp only[ak E];by_cases c:k=i
      ·subst c;simp only[ar];have:=a1 j z A h1 h3 E h5;omega
      ·simp only[ak c];exact I.ne j k z A g l h1 h2 h3 h4 (by simpa[E]using h5) (by simpa[c]using h6) x
    ·have y:s≠i:=λe=>by rw[e,hK]at hKs;cases hKs
     obtain⟨g1,g2⟩:=I.put s j T' src cs hs hKs (by simpa[y]using hp);have E:j≠i:=λe=>by rw[e,U]at g1;cases g1
     simp only[ak E];exact⟨by simp[g1],(hb.block _ (hF g2)).t g2⟩
  |put j T src cs=>
   obtain⟨hj,b9,G,a8,Z,v,hKj,O,hKs,V⟩:=a2 i j T src cs hi hK;have b3:j∈kR K ops.size:=(n j).2 ⟨hj,by rw[hKj];rfl⟩;have b8:src∈kR K ops.size:=(n src).2 ⟨b9,by rw[hKs];rfl⟩;have e1:=R j b3 (m j G);have e2:=R src b8 (m src a8);have v1:lA K bs j= (bs j,0):=by unfold lA;rw[hKj]
   have v2:lA K bs src=v:=by unfold lA;rw[hKs]
   rw[v1]at e1;rw[v2]at e2;obtain⟨g1,g2,C,B,D⟩:=I.new j T Z hj hKj (m j G);have a9:(kR K ops.size).filter (λk=>p k||k==i)=(kR K ops.size).filter p:=my λk hk=>by
    have c:k≠i:=λe=>by
     have:=((n k).1 hk).2;rw[e,hK]at this;cases this
    simp[c]
   refine fh (λa' w' h=>?_) (V _ w (bs j) C e1 e2 B (D.t O));obtain⟨rfl,rfl⟩:=h;refine⟨bs,by rw[a9],?_⟩;have a4:=CK (cs:=cs) B (D.t O);refine⟨li g1 _ _ I.below,λk T' f hk hKk hp=>?_,λq k z A g l h1 h2 h3 h4 h5 h6 x=>?_,λs H T' N L hs F hp=>?_⟩
   ·have c:k≠i:=λe=>by rw[e,hK]at hKk;cases hKk
    obtain⟨f1,f2,C',f3,f4⟩:=I.new k T' f hk hKk (by simpa[c]using hp);refine⟨f1,by rw[lB];exact f2,?_⟩;by_cases X:k=j
    ·subst X;rw[hKj]at hKk;injection hKk with e1 e2;subst e1 e2;exact⟨cs,a4,O.symm⟩
    ·exact⟨C',(eg (I.ne k j T' f T Z hk hj hKk hKj (by simpa[c]using hp) (m j G) X) _ _ _).t f3,f4⟩
   ·have e1:q≠i:=λe=>by rw[e,hK]at h3;cases h3
    have e2:k≠i:=λe=>by rw[e,hK]at h4;cases h4
    exact I.ne q k z A g l h1 h2 h3 h4 (by simpa[e1]using h5) (by simpa[e2]using h6) x
   ·by_cases y:s=i
    ·subst y;rw[hK]at F;injection F with e1 e2 e3 e4;subst e1 e2 e3 e4;exact⟨by simp[m j G],a4⟩
    ·obtain⟨f1,f2⟩:=I.put s H T' N L hs F (by simpa[y]using hp);obtain⟨b1,-,-,-,f,v',hKj',-,-,-⟩:=a2 s H T' N L hs F;have b2:H≠j:=λe=>by subst e;exact y (b0 s i H _ _ _ _ _ _ hs hi F hK)
     exact⟨by simp[f1],(eg (I.ne H j T' f T Z b1 hj hKj' hKj f1 (m j G) b2) _ _ _).t f2⟩
 ·rintro p a w hp ⟨bs,rfl,I⟩;have hf:(kR K ops.size).filter p=kR K ops.size:=dQ.2 λk hk=>hp k ((n k).1 hk).1;rw[hf,a7];exact b4 w bs ⟨I.below,λk T Z hk hKk _=>I.new k T Z hk hKk (hp k hk),λi k Ti Zi g l h1 h2 h3 h4 _ _=>I.ne i k Ti Zi g l h1 h2 h3 h4 (hp i h1) (hp k h2),λs j T src cs hs hKs _=>⟨rfl,(I.put s j T src cs hs hKs (hp s hs)).2⟩⟩
 ·exact⟨λ_=>0,by rw[fM.2 (by simp)];rfl,⟨aj _ _,(λk T Z _ _ h=>by cases h),(λi k _ _ _ _ _ _ _ _ h=>by cases h),(λs j T src cs _ _ h=>by cases h)⟩⟩
inductive RA where
 |val(v:bd)
 |pure(v:bd)
 |lit
 |Lh
 |kl
def RA.has:RA->Bool
 | .kl=>dT
 |_=>dE
def gM(ops:Array Oper):Nat->Nat->Nat->Bool
 |0,_,_=>dT
 |f+1,i,k=>ik ops i k||(List.range ops.size).any λj=>ik ops i j&&gM ops f j k
theorem iX{ops:Array Oper}{p:Nat->Bool}(hp:∀i k,p i=dE->ik ops i k=dE->p k=dE):∀(f i k:Nat),p i=dE->gM ops f i k=dE->p k=dE
 |0,_,_,_,h=>by cases h
 |f+1,i,k,hi,h=>by
  unfold gM at h;rw[dS]at h;rcases h with h|h
  ·exact hp i k hi h
  ·obtain⟨j,_,hj⟩:=gg.1 h;rw[aP]at hj;exact iX hp f j k (hp i j hi hj.1) hj.2
structure Mx(T:Prop):Prop where
 o:T
theorem Dg{f:Type}{H:Option Addr->Nat->Nat->ax->f->Prop}{F:Nat->Option Addr->Nat->Nat->ax->Prop}{G:Prop}(h:Mx (∀d a c b w' e,H a c b w' e->F d a c b w')->G)(t:∀d a c b w' e,H a c b w' e->F d a c b w'):G:=h ⟨t⟩
theorem iG{P:Program}{w:ax}{b o:Nat}{ty:TypeId}(sa:Option Addr)(n c:Nat){u:bd}(hc:w.cell? (b,o)=de u)(a:w.frozen? (b,o)=dT)(hi:(P.info? ty).map (·.size)=de 1):
  (storeVar ty (b,o) (.slice sa n c)).run P w= .ok () (w.setCell (b,o) (.slice sa n c)):=by
 have h1:=run_storeCells_cells (P:=P) b o [.slice sa n c] 0 w (λj hj=>by
  obtain rfl:j=0:=by simpa using hj
  show(w.cell? (b,o+(0+0))).isSome=dE;rw[fI,hc];rfl) (λj hj=>by
  obtain rfl:j=0:=by simpa using hj
  show w.frozen? (b,o+(0+0))=dT;rw[fI,a]) (λv hv=>by rw[cL.1 hv];rfl)
 cases hq:P.info? ty with
 |none=>simp[hq]at hi
 |some i=>
  have hs:i.size=1:=by simpa[hq]using hi
  have e:(Value.slice sa n c).cells=#[.slice sa n c]:=rfl;simp only[fI]at h1;simp[storeVar,sizeOf,typeInfo,hq,e,hs,h1];rfl
theorem kq{P:Program}{ops:Array Oper}{Q:Exit->Act->ax->Prop}{a:Act}{w:ax}{i:Nat}{o:Oper}(hi:ops[i]?=de o)(hg:o.guard=dl)(hd:o.dst=dl)(ty:TypeId)(x y:Operand)(ho:o.op= .store ty x y)
  {b:Addr}{v:bd}(hx:a.eval x= .pointer (de b))(hy:a.eval y=v)(c:(storeVar ty b v).run P w= .ok () (w.setCell b v)):
  wpOp P ops Q i (λa' w'=>a'=a/\w'=w.setCell b v) a w:=by
 refine nN hi hg ?_;unfold Oper.wp execOp;simp only[ho,hx,hy,Instr.storeAt,Instr.sureAddr,eu,gW,eX,c];exact⟨by rw[hd];rfl,rfl⟩
theorem tA{P:Program}{ops:Array Oper}{Q:Exit->Act->ax->Prop}{K:Act->ax->Prop}{a:Act}{w:ax}{i:Nat}{o:Oper}{c:Tmp}(hi:ops[i]?=de o)(hg:o.guard=dl)(hd:o.dst=de c){b:BinOp}{ty f:TypeId}{x y:Operand}(ho:o.op= .binOp b ty x y f)
  {u v r:bd}(hx:a.eval x=u)(hy:a.eval y=v)(e:(binOp b ty u v).run P w= .ok r w)(d:(eqGuard b ty x y u v).run P w= .ok () w)(h:K (a.put (de c) r) w):wpOp P ops Q i K a w:=by
 refine jK hi hg r ?_ (by rw[hd];exact h);unfold execOp;simp only[ho,hx,hy];simp[eu,d,e,go_sem]
def xC(K:Nat->bd)(k:Nat):bd:=K k
theorem zm{P:Program}{ops:Array Oper}{Q:Exit->Act->ax->Prop}{a0:Act}{b:ax}(K:Nat->bd)(d:Nat->Tmp)(n:Nat)(I:ops.size=n+1)(z:pK ops=dE)
  (v:∀i,i<n->(ops[i]?).bind (·.dst)=de (d i)/\d i<a0.tmps.size)(l:((List.range n).map d).Nodup)
  (q:∀k,k<n->gM ops (n+1) n k=dE)
  (H:∀i,i<n->∀(a:Act) (w:ax),dd b.heap.size b w->(∀t,(∀k∈List.range n,d k≠t)->a.eval (.tmp t)=a0.eval (.tmp t))->
   (∀k,k<n->ik ops i k=dE->a.eval (.tmp (d k))=K k)->wpOp P ops Q i (λa' w'=>a'=a.put (de (d i)) (K i)/\dd w.heap.size w w') a w)
  (D:∀(a:Act) (w:ax),dd b.heap.size b w->a=fA a0 d (xC K) (List.range n)->(∀k,k<n->a.eval (.tmp (d k))=K k)->(∀t,(∀k∈List.range n,d k≠t)->a.eval (.tmp t)=a0.eval (.tmp t))->wpOp P ops Q n (λa' w'=>Q .normal a' w') a w):
  wpAny P .any ops Q ops.size (Array.replicate ops.size dT) a0 b:=by
 have F:∀p:Nat->Bool,(((List.range n).filter p).map d).Nodup:=λp=>(List.filter_sublist.map d).nodup l;refine lS z (λp a w=>(∀i k,p i=dE->ik ops i k=dE->p k=dE)/\((p n=dT/\dd b.heap.size b w/\a=fA a0 d (xC K) ((List.range n).filter p))\/(p n=dE/\Q .normal a w))) ?_ ?_ ?_
 ·rintro i hi p a w m c ⟨f,x⟩;have r:∀j k,(p j||j==i)=dE->ik ops j k=dE->(p k||k==i)=dE:=λj k hj s=>by
   rw[dS]at hj;rcases hj with hj|hj
   ·rw[f j k hj s];rfl
   ·have e:j=i:=by simpa using hj
    rw[c k (e▸s)];rfl
  by_cases g:i<n
  ·have E:n≠i:=by omega
   rcases x with⟨h1,h2,rfl⟩|⟨h1,-⟩
   ·have G:∀t,(∀k∈List.range n,d k≠t)->(fA a0 d (xC K) ((List.range n).filter p)).eval (.tmp t)=a0.eval (.tmp t):=λt o=>ij d _ t _ (λk hk=>o k (bZ.1 hk).1) a0;have C:∀k,k<n->p k=dE->(fA a0 d (xC K) ((List.range n).filter p)).eval (.tmp (d k))=K k:=λk hk hp=>kM d _ k _ (F p) (bZ.2 ⟨bj.2 hk,hp⟩) a0 (v k hk).2;refine fh (λa' w' h=>?_) (H i g _ w h2 G (λk hk A=>C k hk (c k A)));obtain⟨rfl,hb⟩:=h;refine⟨r,.inl ⟨by simp[h1,E],h2.t (hb.m h2.size),?_⟩⟩;rw[iI d (xC K) (K i) p i _ a0 l (bj.2 g) m];refine fR d _ _ _ (λk hk=>?_) a0;by_cases u:k=i
    ·subst u;simp[xC]
    ·simp[u]
   ·have:=iX f _ _ _ h1 (q i g);rw[m]at this;cases this
  ·obtain rfl:i=n:=by omega
   rcases x with⟨h1,h2,rfl⟩|⟨h1,-⟩
   ·have y:∀k,k<i->p k=dE:=λk hk=>by
     have h3:=q k hk;rw[gM,dS]at h3;rcases h3 with h3|h3
     ·exact c k h3
     ·obtain⟨j,_,hj⟩:=gg.1 h3;rw[aP]at hj;exact iX f _ _ _ (c j hj.1) hj.2
    have B:(List.range i).filter p=List.range i:=dQ.2 λk hk=>y k (bj.1 hk);rw[B];refine fh (λa' w' h=>⟨r,.inr ⟨by simp,h⟩⟩) (D _ w h2 rfl (λk hk=>kM d _ k _ l (bj.2 hk) a0 (v k hk).2) (λt o=>ij d _ t _ o a0))
   ·rw[m]at h1;cases h1
 ·rintro p a w hp ⟨-,⟨h1,-⟩|⟨-,h⟩⟩
  ·rw[hp n (by omega)]at h1;cases h1
  ·exact h
 ·exact⟨λi k h=>(by cases h),.inl ⟨rfl,aj _ _,by rw[fM.2 (by simp)];rfl⟩⟩
theorem zo{P:Program}{ops:Array Oper}{Q:Exit->Act->ax->Prop}{a0:Act}{E:ax}{X:Type}(x0:X)(K:X->Nat->RK)(C:Nat)(O:X->ax->Prop)(W:X->Nat->Prop)(d:Nat->Tmp)(c:List Nat)(d0:∀x,kR (K x) ops.size=c)(c7:pK ops=dE)
  (c4:∀i,i∈c->(ops[i]?).bind (·.dst)=de (d i)/\d i<a0.tmps.size)(a5:(c.map d).Nodup)(hC:C<ops.size/\C∈c)
  (d3:∀x y i,i<ops.size->i≠C->gM ops ops.size i C=dT->K x i=K y i)
  (e9:∀x i v,i<ops.size->i≠C->K x i= .val v->∀(a:Act) (w:ax),dd E.heap.size E w->(∀t,(∀k∈c,d k≠t)->a.eval (.tmp t)=a0.eval (.tmp t))->
   (∀k u,k<ops.size->ik ops i k=dE->K x k= .val u->a.eval (.tmp (d k))=u)->wpOp P ops Q i (λa' w'=>a'=a.put (de (d i)) v/\dd w.heap.size w w') a w)
  (c8:∀x (a:Act) (w:ax),dd E.heap.size E w->(∀t,(∀k∈c,d k≠t)->a.eval (.tmp t)=a0.eval (.tmp t))->
   (∀k u,k<ops.size->ik ops C k=dE->K x k= .val u->a.eval (.tmp (d k))=u)->wpOp P ops Q C (λa' w'=>∃y v,K y C= .val v/\a'=a.put (de (d C)) v/\dd w.heap.size w w'/\O y w'/\∀q,W y q->w.heap.size<=q/\q<w'.heap.size) a w)
  (f0:gM ops ops.size C C=dT)
  (b3:∀x w w',O x w->dd w.heap.size w w'->O x w')(c6:∀x w b cs,O x w->¬W x b->O x (w.setCells b 0 cs))
  (d9:∀x i T Z,i<ops.size->K x i= .new T Z->∃o,ops[i]?=de o/\o.guard=dl/\∀ρ w,(execOp ρ o).run P w= .ok (.value (w.heap.size,0)) (w.alloc (.cells Z T)))
  (c3:∀x s j T src cs,s<ops.size->K x s= .put j T src cs->j<ops.size/\src<ops.size/\ik ops s j=dE/\ik ops s src=dE/\∃Z v,K x j= .new T Z/\Z.size=cs.size/\K x src= .val v/\
   ∀(a:Act) (w:ax) (b:Nat) (C:Array bd),a.eval (.tmp (d j))= (b,0)->a.eval (.tmp (d src))=v->w.heap[b]?=de (.cells C T (0,0))->C.size=cs.size->wpOp P ops Q s (λa' w'=>a'=a/\w'=w.setCells b 0 cs.toList) a w)
  (d4:∀x s r j T src cs T' a6 a2,s<ops.size->r<ops.size->K x s= .put j T src cs->K x r= .put j T' a6 a2->s=r)
  (d8:∀x w bs,Fs (K x) ops.size E (λ_=>dE) bs w->O x w->(∀q,W x q->E.heap.size<=q/\q<w.heap.size)->(∀j T Z,j<ops.size->K x j= .new T Z->¬W x (bs j))->Q .normal (fA a0 d (lA (K x) bs) c) w):
  wpAny P .any ops Q ops.size (Array.replicate ops.size dT) a0 E:=by
 have L:∀x i,i∈c<->i<ops.size/\(K x i).has=dE:=λx i=>by rw[<-d0 x];unfold kR;rw[List.mem_filter,List.mem_range]
 have e8:∀(p:Nat->Bool) k,k∈c.filter p->k∈c:=λp k hk=>(bZ.1 hk).1;have e5:∀p:Nat->Bool,((c.filter p).map d).Nodup:=λp=>(List.filter_sublist.map d).nodup a5;refine lS c7 (λp a w=>∃x bs,a=fA a0 d (lA (K x) bs) (c.filter p)/\(∀i k,p i=dE->ik ops i k=dE->p k=dE)/\Fs (K x) ops.size E p bs w/\(p C=dE->O x w/\(∀q,W x q->E.heap.size<=q/\q<w.heap.size)/\∀j T Z,j<ops.size->K x j= .new T Z->p j=dE->¬W x (bs j))) ?_ ?_ ?_
 ·rintro i hi p a w U A ⟨x,bs,rfl,b4,I,Y⟩;have c0:∀t,(∀k∈c,d k≠t)->(fA a0 d (lA (K x) bs) (c.filter p)).eval (.tmp t)=a0.eval (.tmp t):=λt ht=>ij d _ t _ (λk hk=>ht k (e8 p k hk)) a0;have a8:∀k,k∈c->p k=dE->(fA a0 d (lA (K x) bs) (c.filter p)).eval (.tmp (d k))=lA (K x) bs k:=λk hk hp=>kM d _ k _ (e5 p) (bZ.2 ⟨hk,hp⟩) a0 (c4 k hk).2;have b5:∀k u,k<ops.size->ik ops i k=dE->K x k= .val u->(fA a0 d (lA (K x) bs) (c.filter p)).eval (.tmp (d k))=u:=λk u hk c9 b8=>by
   rw[a8 k ((L x k).2 ⟨hk,by rw[b8];rfl⟩) (A k c9)];unfold lA;rw[b8]
  have a3:∀j k,(p j||j==i)=dE->ik ops j k=dE->(p k||k==i)=dE:=λj k hj b6=>by
   rw[dS]at hj;rcases hj with hj|hj
   ·rw[b4 j k hj b6];rfl
   ·have e:j=i:=by simpa using hj
    rw[A k (e▸b6)];rfl
  by_cases a9:i=C
  ·subst a9;refine fh (λa' w' h=>?_) (c8 x _ w I.below c0 b5);obtain⟨y,v,R,rfl,hb,hP,hu⟩:=h;have V:∀k,k<ops.size->p k=dE->K y k=K x k:=λk hk hpk=>by
    have d7:k≠i:=λe=>by rw[e,U]at hpk;cases hpk
    refine d3 y x k hk d7 ?_;cases e:gM ops ops.size k i with
    |false=>rfl
    |true=>have:=iX b4 _ _ _ hpk e;rw[U]at this;cases this
   refine⟨y,bs,?_,a3,⟨I.below.t (hb.m I.below.size),λk T Z hk hKk hp=>?_,λj k F G n z h1 h2 h3 h4 h5 h6 B=>?_,λs j T src cs hs hKs hp=>?_⟩,λ_=>⟨hP,λq hq=>⟨aE I.below.size (hu q hq).1,(hu q hq).2⟩,λj T Z hj hKj hp b2=>?_⟩⟩
   ·have e0:fA a0 d (lA (K x) bs) (c.filter p)=fA a0 d (lA (K y) bs) (c.filter p):=fR d _ _ _ (λk hk=>by
     have h1:=bZ.1 hk;unfold lA;rw[V k ((L x k).1 h1.1).1 h1.2]) a0
    rw[e0,iI d (lA (K y) bs) v p i _ a0 a5 hC.2 U];refine fR d _ _ _ (λk hk=>?_) a0;by_cases f:k=i
    ·subst f;unfold lA;simp[R]
    ·simp[f]
   ·have f:k≠i:=λe=>by rw[e,R]at hKk;cases hKk
    have hpk:p k=dE:=by simpa[f]using hp
    obtain⟨g1,g2,N,H,J⟩:=I.new k T Z hk ((V k hk hpk).symm.t hKk) hpk;exact⟨g1,ai g2 hb.size,N,(hb.block _ g2).t H,J⟩
   ·have e1:j≠i:=λe=>by rw[e,R]at h3;cases h3
    have e2:k≠i:=λe=>by rw[e,R]at h4;cases h4
    have p1:p j=dE:=by simpa[e1]using h5
    have p2:p k=dE:=by simpa[e2]using h6
    exact I.ne j k F G n z h1 h2 ((V j h1 p1).symm.t h3) ((V k h2 p2).symm.t h4) p1 p2 B
   ·have D:s≠i:=λe=>by rw[e,R]at hKs;cases hKs
    have c2:p s=dE:=by simpa[D]using hp
    obtain⟨g1,g2⟩:=I.put s j T src cs hs ((V s hs c2).symm.t hKs) c2;exact⟨by simp[g1],(hb.block _ (hF g2)).t g2⟩
   ·have g:j≠i:=λe=>by rw[e,R]at hKj;cases hKj
    have c1:p j=dE:=by simpa[g]using hp
    have:=(I.new j T Z hj ((V j hj c1).symm.t hKj) c1).2.1;have:=(hu _ b2).1;omega
  ·have a7:(p C||C==i)=p C:=by simp[Ne.symm a9]
   cases hK:K x i with
   |val v=>
    have a4:i∈c:=(L x i).2 ⟨hi,by rw[hK];rfl⟩;refine fh (λa' w' h=>?_) (e9 x i v hi a9 hK _ w I.below c0 b5);obtain⟨rfl,hb⟩:=h;refine⟨x,bs,?_,a3,⟨I.below.t (hb.m I.below.size),λk T Z hk hKk hp=>?_,λj k F G n z h1 h2 h3 h4 h5 h6 B=>?_,λs j T src cs hs hKs hp=>?_⟩,λm=>?_⟩
    ·rw[iI d (lA (K x) bs) v p i _ a0 a5 a4 U];refine fR d _ _ _ (λk hk=>?_) a0;by_cases f:k=i
     ·subst f;unfold lA;simp[hK]
     ·simp[f]
    ·have f:k≠i:=λe=>by rw[e,hK]at hKk;cases hKk
     obtain⟨g1,g2,N,H,J⟩:=I.new k T Z hk hKk (by simpa[f]using hp);exact⟨g1,ai g2 hb.size,N,(hb.block _ g2).t H,J⟩
    ·have e1:j≠i:=λe=>by rw[e,hK]at h3;cases h3
     have e2:k≠i:=λe=>by rw[e,hK]at h4;cases h4
     exact I.ne j k F G n z h1 h2 h3 h4 (by simpa[e1]using h5) (by simpa[e2]using h6) B
    ·have D:s≠i:=λe=>by rw[e,hK]at hKs;cases hKs
     obtain⟨g1,g2⟩:=I.put s j T src cs hs hKs (by simpa[D]using hp);exact⟨by simp[g1],(hb.block _ (hF g2)).t g2⟩
    ·replace m:=a7.symm.t m;obtain⟨h1,h2,h3⟩:=Y m;refine⟨b3 x _ _ h1 hb,λq hq=>⟨(h2 q hq).1,ai (h2 q hq).2 hb.size⟩,λj T Z hj hKj hp=>?_⟩;have g:j≠i:=λe=>by rw[e,hK]at hKj;cases hKj
     exact h3 j T Z hj hKj (by simpa[g]using hp)
   |new T Z=>
    have a4:i∈c:=(L x i).2 ⟨hi,by rw[hK];rfl⟩;obtain⟨o,ho,hg,b1⟩:=d9 x i T Z hi hK;have hd:o.dst=de (d i):=by
     have:=(c4 i a4).1;rw[ho]at this;exact this
    have hb:dd w.heap.size w (w.alloc (.cells Z T)):=(aj _ _).alloc (ag _) _;refine jK ho hg _ (b1 (fA a0 d (lA (K x) bs) (c.filter p)).eval w) ⟨x,λk=>if k=i then w.heap.size else bs k,?_,a3,?_,λm=>?_⟩
    ·rw[hd,iI d (lA (K x) bs) _ p i _ a0 a5 a4 U];refine fR d _ _ _ (λk hk=>?_) a0;unfold lA;by_cases f:k=i
     ·subst f;simp[hK]
     ·simp[f]
    ·have b9:∀k T' l,k<ops.size->K x k= .new T' l->k≠i->(p k||k==i)=dE->bs k<w.heap.size:=λk T' l h1 h2 h3 h4=>(I.new k T' l h1 h2 (by simpa[h3]using h4)).2.1;refine⟨I.below.t (hb.m I.below.size),λk T' l hk hKk hp=>?_,λj k F G n z h1 h2 h3 h4 h5 h6 B=>?_,λs j T' src cs hs hKs hp=>?_⟩
     ·by_cases f:k=i
      ·subst f;rw[hK]at hKk;injection hKk with e1 e2;subst e1 e2;simp only[ar];exact⟨I.below.size,by rw[cp];exact gQ _,Z,aL w _,rfl⟩
      ·simp only[ak f];obtain⟨g1,g2,N,H,J⟩:=I.new k T' l hk hKk (by simpa[f]using hp);exact⟨g1,ai g2 hb.size,N,(hb.block _ g2).t H,J⟩
     ·by_cases g:j=i
      ·subst g;simp only[ar,ak (Ne.symm B)];have:=b9 k n z h2 h4 (Ne.symm B) h6;omega
      ·simp only[ak g];by_cases f:k=i
       ·subst f;simp only[ar];have:=b9 j F G h1 h3 g h5;omega
       ·simp only[ak f];exact I.ne j k F G n z h1 h2 h3 h4 (by simpa[g]using h5) (by simpa[f]using h6) B
     ·have D:s≠i:=λe=>by rw[e,hK]at hKs;cases hKs
      obtain⟨g1,g2⟩:=I.put s j T' src cs hs hKs (by simpa[D]using hp);have g:j≠i:=λe=>by rw[e,U]at g1;cases g1
      simp only[ak g];exact⟨by simp[g1],(hb.block _ (hF g2)).t g2⟩
    ·replace m:=a7.symm.t m;obtain⟨h1,h2,h3⟩:=Y m;refine⟨b3 x _ _ h1 hb,λq hq=>⟨(h2 q hq).1,ai (h2 q hq).2 hb.size⟩,λj T' l hj hKj hp=>?_⟩;by_cases g:j=i
     ·subst g;simp only[ar];intro b2;have:=(h2 _ b2).2;omega
     ·simp only[ak g];exact h3 j T' l hj hKj (by simpa[g]using hp)
   |put j T src cs=>
    obtain⟨hj,e7,S,d1,Z,v,hKj,hZ,hKs,b1⟩:=c3 x i j T src cs hi hK;have d6:j∈c:=(L x j).2 ⟨hj,by rw[hKj];rfl⟩;have e6:src∈c:=(L x src).2 ⟨e7,by rw[hKs];rfl⟩;have e1:=a8 j d6 (A j S);have e2:=a8 src e6 (A src d1);have v1:lA (K x) bs j= (bs j,0):=by unfold lA;rw[hKj]
    have v2:lA (K x) bs src=v:=by unfold lA;rw[hKs]
    rw[v1]at e1;rw[v2]at e2;obtain⟨g1,g2,N,H,J⟩:=I.new j T Z hj hKj (A j S);have d2:c.filter (λk=>p k||k==i)=c.filter p:=my λk hk=>by
     have f:k≠i:=λe=>by
      have:=((L x k).1 hk).2;rw[e,hK]at this;cases this
     simp[f]
    refine fh (λa' w' h=>?_) (b1 _ w (bs j) N e1 e2 H (J.t hZ));obtain⟨rfl,rfl⟩:=h;have c5:=CK (cs:=cs) H (J.t hZ);refine⟨x,bs,by rw[d2],a3,⟨li g1 _ _ I.below,λk T' l hk hKk hp=>?_,λq k F G n z h1 h2 h3 h4 h5 h6 B=>?_,λs M T' a6 a2 hs a1 hp=>?_⟩,λm=>?_⟩
    ·have f:k≠i:=λe=>by rw[e,hK]at hKk;cases hKk
     obtain⟨f1,f2,C',f3,f4⟩:=I.new k T' l hk hKk (by simpa[f]using hp);refine⟨f1,by rw[lB];exact f2,?_⟩;by_cases b7:k=j
     ·subst b7;rw[hKj]at hKk;injection hKk with e1 e2;subst e1 e2;exact⟨cs,c5,hZ.symm⟩
     ·exact⟨C',(eg (I.ne k j T' l T Z hk hj hKk hKj (by simpa[f]using hp) (A j S) b7) _ _ _).t f3,f4⟩
    ·have e1:q≠i:=λe=>by rw[e,hK]at h3;cases h3
     have e2:k≠i:=λe=>by rw[e,hK]at h4;cases h4
     exact I.ne q k F G n z h1 h2 h3 h4 (by simpa[e1]using h5) (by simpa[e2]using h6) B
    ·by_cases D:s=i
     ·subst D;rw[hK]at a1;injection a1 with e1 e2 e3 e4;subst e1 e2 e3 e4;exact⟨by simp[A j S],c5⟩
     ·obtain⟨f1,f2⟩:=I.put s M T' a6 a2 hs a1 (by simpa[D]using hp);obtain⟨b0,-,-,-,l,v',hKj',-,-,-⟩:=c3 x s M T' a6 a2 hs a1;have d5:M≠j:=λe=>by subst e;exact D (d4 x s i M _ _ _ _ _ _ hs hi a1 hK)
      exact⟨by simp[f1],(eg (I.ne M j T' l T Z b0 hj hKj' hKj f1 (A j S) d5) _ _ _).t f2⟩
    ·replace m:=a7.symm.t m;obtain⟨h1,h2,h3⟩:=Y m;refine⟨c6 x _ _ _ h1 (h3 j T Z hj hKj (A j S)),λq hq=>by rw[lB];exact h2 q hq,λM T' l b0 hKj' hp=>?_⟩;have g:M≠i:=λe=>by rw[e,hK]at hKj';cases hKj'
     exact h3 M T' l b0 hKj' (by simpa[g]using hp)
 ·rintro p a w hp ⟨x,bs,rfl,-,I,Y⟩;have hf:c.filter p=c:=dQ.2 λk hk=>hp k ((L x k).1 hk).1;rw[hf];obtain⟨h1,h2,h3⟩:=Y (hp C hC.1);exact d8 x w bs ⟨I.below,λk T Z hk hKk _=>I.new k T Z hk hKk (hp k hk),λi k Ti Zi n z h1 h2 h3 h4 _ _=>I.ne i k Ti Zi n z h1 h2 h3 h4 (hp i h1) (hp k h2),λs j T src cs hs hKs _=>⟨rfl,(I.put s j T src cs hs hKs (hp s hs)).2⟩⟩ h1 h2 (λj T Z hj hKj=>h3 j T Z hj hKj (hp j hj))
 ·exact⟨x0,λ_=>0,by rw[fM.2 (by simp)];rfl,λi k h=>(by cases h),⟨aj _ _,(λk T Z _ _ h=>by cases h),(λi k _ _ _ _ _ _ _ _ h=>by cases h),(λs j T src cs _ _ h=>by cases h)⟩,λh=>(by cases h)⟩
end Go.Con
