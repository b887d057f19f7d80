/-
  Parts of the proofs of the laws of the whole (what the functions compute, and plain laws of it); no conditions.
-/
import Derived.Test.YtcdmenphjilnnaaGreatDoorM15
set_option linter.unusedVariables false
set_option linter.unusedSimpArgs false
set_option maxRecDepth 100000
set_option maxHeartbeats 1000000
open Go.Proofs.Tryz
open Go renaming World->ax,Value->bd,Calls->bl
open Go.RowKit renaming Below->dd
open Option renaming some->de,none->dl
open Bool renaming true->dE,false->dT
open Go.Proofs.Tryz renaming prog->ed
namespace Go.Proofs.YtcdmenphjilnnaaGreatDoor
open Go.RowKit Go.Con
theorem Dl(w:ax)(C:Obj):dO ((((w.alloc (.map #[] 0)).alloc (.map #[] 0)).alloc (.map #[] 0)).alloc C) w.heap.size []/\dO ((((w.alloc (.map #[] 0)).alloc (.map #[] 0)).alloc (.map #[] 0)).alloc C) (w.heap.size+1) []/\dO ((((w.alloc (.map #[] 0)).alloc (.map #[] 0)).alloc (.map #[] 0)).alloc C) (w.heap.size+1+1) []/\((((w.alloc (.map #[] 0)).alloc (.map #[] 0)).alloc (.map #[] 0)).alloc C).heap[w.heap.size+1+1+1]?=de C/\dd w.heap.size w ((((w.alloc (.map #[] 0)).alloc (.map #[] 0)).alloc (.map #[] 0)).alloc C)/\w.heap.size+1+1+1<((((w.alloc (.map #[] 0)).alloc (.map #[] 0)).alloc (.map #[] 0)).alloc C).heap.size:=by
 have s1:=cp w (.map #[] 0);have s2:=cp (w.alloc (.map #[] 0)) (.map #[] 0);have a:=cp ((w.alloc (.map #[] 0)).alloc (.map #[] 0)) (.map #[] 0);have b:=cp (((w.alloc (.map #[] 0)).alloc (.map #[] 0)).alloc (.map #[] 0)) C;have o:∀(u:ax) (X:Obj) (k:Nat) {m:List (Int×bd)},k<u.heap.size->dO u k m->dO (u.alloc X) k m:=λu X k m hk h=>dO.other h (eF u X k hk);have a0:=dO.new w;have a1:=dO.new (w.alloc (.map #[] 0));have a2:=dO.new ((w.alloc (.map #[] 0)).alloc (.map #[] 0));rw[s1]at a1;rw[s2,s1]at a2;have x:=aL (((w.alloc (.map #[] 0)).alloc (.map #[] 0)).alloc (.map #[] 0)) C;rw[a,s2,s1]at x;refine⟨o _ _ _ (by omega) (o _ _ _ (by omega) (o _ _ _ (by omega) a0)),o _ _ _ (by omega) (o _ _ _ (by omega) a1),o _ _ _ (by omega) a2,x,((((aj _ _).alloc (ag _) _).alloc (by omega) _).alloc (by omega) _).alloc (by omega) _,by omega⟩
structure IJ(n:dZ):Prop where
 p:0<=n.p.1/\n.p.1<=65536
 h:0<=n.heard.1/\n.heard.1<=65536
 r:∀r,n.rg=de r->0<=r.bG.1/\r.bG.1<=65536
 q:∀q,n.cI=de q->q.tag=3->∃r,n.rg=de r/\q.bG.1<=r.bG.1
theorem GJ{hH:bI}{W:ax}{w i:Nat}{G:Gh}{M:aT}(h:dB hH W w G M)(hi:i<5)(ho:IJ (M.nd i)):
  bl ed 31 #[ptr w,ptr (G.n i).b] W λe W'=>e= .returned (.tuple #[])/\aW hH W w G i (M.lead i) W':=by
 obtain⟨s,a0⟩:=aK (M.lead i);rw[<-a0];obtain⟨d,a1⟩:=aK ((G.n i).b);have v:=(h.nd i hi).dM;rw[<-a1]at v|-;obtain⟨p1,U⟩:=aK ((M.nd i).p.1);obtain⟨h1,R⟩:=aK ((M.nd i).heard.1);obtain⟨up,a2⟩:=aK ((M.nd i).up);have K:(aN i (G.n i) (M.nd i))[0]?=i:=rfl;have q1:(aN i (G.n i) (M.nd i))[1]?=de (.bool up):=by rw[a2];rfl
 have L:(aN i (G.n i) (M.nd i))[4]?=p1:=by rw[U];rfl
 have N:(aN i (G.n i) (M.nd i))[7]?=h1:=by rw[R];rfl
 have q9:(aN i (G.n i) (M.nd i))[9]?=de (.pointer ((G.n i).rg.map λr=>(r.b,0))):=rfl;obtain⟨n,S⟩:∃m,(if p1<h1 then h1 else p1)=m:=⟨_,rfl⟩
 have b0:0<=n/\n<=65536:=by
  have a:=ho.p;have b:=ho.h;rw[<-U]at a;rw[<-R]at b;rw[<-S];split<;>assumption
 have hw:wrap64 (n+1)=n+1:=by unfold wrap64;omega
 have a9:s=if up=dE/\(match(M.nd i).rg with|some r=>max (n+1) (r.bG.1+1)|none=>n+1)<=65536 then M.aX i {M.nd i with rg:=de ⟨((match(M.nd i).rg with|some r=>max (n+1) (r.bG.1+1)|none=>n+1),(i:Int)),[],dT,[],[]⟩}else M:=by
  have e:max (M.nd i).p.1 (M.nd i).heard.1=n:=by
   rw[<-S,U,R];split<;>omega
  rw[a0];unfold aT.lead;dsimp only;rw[e,a2];first|rfl|(cases(M.nd i).rg<;>rfl)
 have hrg:=(h.nd i hi).pt.rg;obtain⟨CL,a7⟩:=aK (aN i (G.n i) (M.nd i));rw[<-a7]at v K q1 L N q9;have z:=ae h;have Z:=ae ho;have a3:=ae a1;have c:=ae v;have O:=ae a9;have a5:=ae hrg;have b8:=ae S;have b9:=ae b0;have Q0:=ae K;have Q1:=ae q1;have Q4:=ae L;have Q7:=ae N;have t:=ae q9;show bl ed 31 #[.pointer (de ⟨w,0,dl⟩),.pointer (de ⟨d,0,dl⟩)] W _;have d0:=(aR v 0).t K;have d4:=(aR v 4).t L;have d7:=(aR v 7).t N;have b3:=gV v 0 K;have b4:=gV v 4 L;have b5:=gV v 7 N;clear h ho a0 a1 v U R a2 b0 a9 hrg K q1 L N q9 a7;go_enter func31,ntmps31
 go_upto_region 0 with fail
 refine' Hw (λkey=>_) _;rotate_left 1
 ·skip;go_region
  all_goals exact key.o
 obtain⟨nb,T⟩:=aK W.heap.size;rw[<-T];generalize y:World.drew _=j;have k:=ae (show dd W.heap.size W j by rw[<-y];exact((aj W.heap.size W).alloc (ag _) _).drew);have E:=ae (show j.heap[nb]?=de (.cells #[(n+1:Int),i] 73 (0,0)) by rw[<-y,T];exact aL W _);have a4:=ae T;clear y T d0 d4 d7 b3 b4 b5 hw S;cases hr:(M.nd i).rg with
 |none=>
  have hg:(G.n i).rg=dl:=by
   have h1:=a5.o;rw[hr]at h1;cases e:(G.n i).rg with
   |none=>rfl
   |some g=>rw[e]at h1;exact h1.elim
  have t:=ae t.o;rw[hg]at t;have h9:=cZ k.o (hF c.o) ((aR c.o 9).t t.o);obtain⟨r1,J⟩:=aK (n+1);have u:=ae O.o;rw[hr]at u;dsimp only at u;rw[<-J]at u E|-;have b1:=ae hr;clear hr hg J O;go_upto_region 4 with fail
  clear h9;have n0:=ej E.o 0 rfl;have n1:=ej E.o 1 rfl;have g1:=cZ k.o (hF c.o) ((aR c.o 1).t Q1.o);have g9:=(k.o.cell (p:=(d,9)) (hF c.o)).t ((aR c.o 9).t t.o);have gf:j.frozen? (d,9)=dT:=aO ((k.o.block d (hF c.o)).t c.o) 9;have F:=ae (hF ((k.o.block d (hF c.o)).t c.o));cases up with
  |false=>
   have f:s=M:=by rw[u.o];exact ak (by simp)
   have x:=ae (show aW hH W w G i s j by rw[f];exact⟨hH,G,z.o.below k.o,λ_=>rfl,cG.below k.o⟩);clear f;go_wp2_with fail
   first|refine mh rfl rfl ⟨rfl,?_⟩|refine jH rfl rfl ⟨rfl,?_⟩
   exact x.o
  |true=>
   by_cases hb:r1<=65536
   ·have f:s=M.aX i {M.nd i with rg:=de ⟨(r1,(i:Int)),[],dT,[],[]⟩}:=by rw[u.o];exact ar ⟨rfl,hb⟩
    have Y:=ae f;have b6:=@run_makeMap ed;clear f;go_upto_region 5 with fail
    have c9:∀A B C D:Obj,((((j.alloc A).alloc B).alloc C).alloc D).cell? (d,9)=j.cell? (d,9):=λA B C D=>(((((aj j.heap.size j).alloc (ag _) A).alloc (by simp[cp]) B).alloc (by simp[cp];omega) C).alloc (by simp[cp];omega) D).cell (p:=(d,9)) F.o;have f9:∀A B C D:Obj,((((j.alloc A).alloc B).alloc C).alloc D).frozen? (d,9)=dT:=λA B C D=>aO (((((((aj j.heap.size j).alloc (ag _) A).alloc (by simp[cp]) B).alloc (by simp[cp];omega) C).alloc (by simp[cp];omega) D).block d F.o).t ((k.o.block d (hF c.o)).t c.o)) 9;rw[g9]at c9;go_wp2_with fail
    first|refine mh rfl rfl ⟨rfl,?_⟩|refine jH rfl rfl ⟨rfl,?_⟩
    obtain⟨k0,k1,k2,k3,k4,k5⟩:=Dl j (.cells #[r1,i,.map (de j.heap.size),.bool dT,.map (de (j.heap.size+1)),.map (de (j.heap.size+1+1))] 143 (0,0));have hs:=z.o.Da hi r1 (λq e1 e2=>by obtain⟨r,h1,-⟩:=Z.o.q q e1 e2;rw[b1.o]at h1;cases h1) (k.o.t (k4.m k.o.size)) k.o.size (gQ _) (gQ _) (gQ _) k5 k0 k1 k2 k3;rw[Y.o];rw[<-a3.o]at hs;exact hs
   ·have f:s=M:=by rw[u.o];exact ak (λh=>hb h.2)
    have x:=ae (show aW hH W w G i s j by rw[f];exact⟨hH,G,z.o.below k.o,λ_=>rfl,cG.below k.o⟩);clear f;go_wp2_with fail
    first|refine mh rfl rfl ⟨rfl,?_⟩|refine jH rfl rfl ⟨rfl,?_⟩
    exact x.o
 |some X=>
  obtain⟨I,hg,P⟩:∃I,(G.n i).rg=de I/\jt hH W i I X:=by
   have h1:=a5.o;rw[hr]at h1;cases e:(G.n i).rg with
   |none=>rw[e]at h1;exact h1.elim
   |some g=>rw[e]at h1;exact⟨g,rfl,h1⟩
  obtain⟨rb,V⟩:=aK I.b;have t:=ae t.o;rw[hg]at t;rw[eH,<-V]at t;obtain⟨H,Q⟩:=aK X.bG.1;have a8:=Z.o.r X hr;rw[<-Q]at a8;have xr:=(k.o.block I.b (hF P.dM)).t P.dM;rw[<-V]at xr;have y0:j.cell? (rb,0)=H:=by rw[Q];exact ej xr 0 rfl
  have h9:=cZ k.o (hF c.o) ((aR c.o 9).t t.o);have n0:=ej E.o 0 rfl;have nf:=aO E.o 0;have b7:rb≠nb:=by
   have h1:=hF P.dM;rw[<-V]at h1;rw[a4.o];omega
  obtain⟨r1,J⟩:∃r,(if n<H then H+1 else n+1)=r:=⟨_,rfl⟩
  have hw:wrap64 (H+1)=H+1:=by unfold wrap64;omega
  have a6:=ae (show max (n+1) (X.bG.1+1)=r1 by rw[<-J,<-Q];split<;>omega);have u:=ae (show s=if up=dE/\r1<=65536 then M.aX i {M.nd i with rg:=de ⟨(r1,(i:Int)),[],dT,[],[]⟩}else M by
   have h1:=O.o;rw[hr]at h1;dsimp only at h1;rw[h1,<-a6.o])
  have b2:=ae (show∀q,(M.nd i).cI=de q->q.tag=3->q.bG.1<r1 from λq e1 e2=>by
   obtain⟨r,h1,h2⟩:=Z.o.q q e1 e2;rw[hr]at h1;injection h1 with h1;subst h1;have:=a6.o;omega)
  clear P hg V Q a8 xr O hr;go_upto_region 3 with fail
  refine' Hw (λkey=>_) _;rotate_left 1
  ·skip;go_region
   all_goals exact key.o
  generalize y:World.drew _=l;have o:=ae (show dd W.heap.size W l by rw[<-y];exact(k.o.setCell (by show W.heap.size<=nb;rw[a4.o];exact ag _) _).drew);have X5:=ae (show l.heap[nb]?=de (.cells #[r1,i] 73 (0,0)) by rw[<-y,<-J];exact aB E.o _);clear y y0 h9 n0 nf b7;go_upto_region 4 with fail
  have n0:=ej X5.o 0 rfl;have n1:=ej X5.o 1 rfl;have g1:=cZ o.o (hF c.o) ((aR c.o 1).t Q1.o);have g9:=(o.o.cell (p:=(d,9)) (hF c.o)).t ((aR c.o 9).t t.o);have gf:l.frozen? (d,9)=dT:=aO ((o.o.block d (hF c.o)).t c.o) 9;have F:=ae (hF ((o.o.block d (hF c.o)).t c.o));cases up with
  |false=>
   have f:s=M:=by rw[u.o];exact ak (by simp)
   have x:=ae (show aW hH W w G i s l by rw[f];exact⟨hH,G,z.o.below o.o,λ_=>rfl,cG.below o.o⟩);clear f;go_wp2_with fail
   first|refine mh rfl rfl ⟨rfl,?_⟩|refine jH rfl rfl ⟨rfl,?_⟩
   exact x.o
  |true=>
   by_cases hb:r1<=65536
   ·have f:s=M.aX i {M.nd i with rg:=de ⟨(r1,(i:Int)),[],dT,[],[]⟩}:=by rw[u.o];exact ar ⟨rfl,hb⟩
    have Y:=ae f;have b6:=@run_makeMap ed;clear f;go_upto_region 5 with fail
    have c9:∀A B C D:Obj,((((l.alloc A).alloc B).alloc C).alloc D).cell? (d,9)=l.cell? (d,9):=λA B C D=>(((((aj l.heap.size l).alloc (ag _) A).alloc (by simp[cp]) B).alloc (by simp[cp];omega) C).alloc (by simp[cp];omega) D).cell (p:=(d,9)) F.o;have f9:∀A B C D:Obj,((((l.alloc A).alloc B).alloc C).alloc D).frozen? (d,9)=dT:=λA B C D=>aO (((((((aj l.heap.size l).alloc (ag _) A).alloc (by simp[cp]) B).alloc (by simp[cp];omega) C).alloc (by simp[cp];omega) D).block d F.o).t ((o.o.block d (hF c.o)).t c.o)) 9;rw[g9]at c9;go_wp2_with fail
    first|refine mh rfl rfl ⟨rfl,?_⟩|refine jH rfl rfl ⟨rfl,?_⟩
    obtain⟨k0,k1,k2,k3,k4,k5⟩:=Dl l (.cells #[r1,i,.map (de l.heap.size),.bool dT,.map (de (l.heap.size+1)),.map (de (l.heap.size+1+1))] 143 (0,0));have hs:=z.o.Da hi r1 (b2.o) (o.o.t (k4.m o.o.size)) o.o.size (gQ _) (gQ _) (gQ _) k5 k0 k1 k2 k3;rw[Y.o];rw[<-a3.o]at hs;exact hs
   ·have f:s=M:=by rw[u.o];exact ak (λh=>hb h.2)
    have x:=ae (show aW hH W w G i s l by rw[f];exact⟨hH,G,z.o.below o.o,λ_=>rfl,cG.below o.o⟩);clear f;go_wp2_with fail
    first|refine mh rfl rfl ⟨rfl,?_⟩|refine jH rfl rfl ⟨rfl,?_⟩
    exact x.o
def mG(b k:Nat)(dv v:bd):GN:=⟨b,k,dv,v,.slice dl 0 0,.slice dl 0 0,.slice dl 0 0,.slice dl 0 0,.nilFunc,dl⟩
theorem rF(me:Nat)(f n:Option Addr)(h g p o:Nat)(m i j:Int)(D:List UInt8)(l:List cF)(W:ax):
  bl ed 29 #[me,.agg #[.slice f h g,m],.agg #[i,j,.slice n p o]] W λe d=>∃b k,e= .returned (b,0)/\dd W.heap.size W d/\W.heap.size<=b/\W.heap.size<=k/\b≠k/\
   d.heap[b]?=de (.cells (aN me (mG b k (.slice f h g) (.slice n p o)) (dZ.blank dE D m ⟨(i,j),l⟩)).toArray 87 (0,0))/\dO d k []:=by
 have r:=@run_makeMap ed;go_enter func29,ntmps29
 go_wp2_with fail
 obtain⟨c,h1⟩:=aK ((W.alloc (.cells #[.slice f h g,m] 71)).alloc (.cells #[i,j,.slice n p o] 76));have hs:c.heap.size=W.heap.size+1+1:=by rw[h1];simp
 have b1:dd W.heap.size W c:=by rw[h1];exact((aj _ _).alloc (ag _) _).alloc (by simp) _
 rw[<-h1];obtain⟨a,h2⟩:=aK (c.alloc (.map #[] 0));have q:a.heap.size=W.heap.size+1+1+1:=by rw[h2,cp,hs]
 have b2:dd W.heap.size W a:=by rw[h2];exact b1.alloc (by omega) _
 have i2:dO a (W.heap.size+1+1) []:=by rw[h2,<-hs];exact dO.new c
 rw[<-h2];refine aH (v:= (W.heap.size+1+1+1,0)) (by simp[results,Tryz.results29,go_sem]) rfl ⟨W.heap.size+1+1+1,W.heap.size+1+1,rfl,?_,by omega,by omega,by omega,?_,?_⟩
 ·exact b2.alloc (by omega) _
 ·rw[<-q];exact aL a _
 ·exact dO.other i2 (eF a _ _ (by omega))
end Go.Proofs.YtcdmenphjilnnaaGreatDoor
