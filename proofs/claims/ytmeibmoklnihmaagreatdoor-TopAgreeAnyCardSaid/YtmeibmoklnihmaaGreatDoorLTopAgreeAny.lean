/-
  TopAgreeAny holds: for every input the law returns true, and its input reads as it did.
-/
import Derived.Test.YtmeibmoklnihmaaGreatDoorM30
import Derived.Stop.LaidErr
import Derived.Test.YtmeibmoklnihmaaGreatDoorTie
import Derived.Test.YtmeibmoklnihmaaGreatDoorCards
set_option linter.unusedVariables false
set_option linter.unusedSimpArgs false
set_option maxRecDepth 100000
set_option maxHeartbeats 1000000
open Go.Proofs.Tryz
open Go renaming World->ax,Value->bd,Calls->bl
open Go.RowKit renaming Below->dd
open Option renaming some->de,none->dl
open Bool renaming true->dE,false->dT
open Go.Proofs.Tryz renaming prog->ed
namespace Go.Proofs.YtmeibmoklnihmaaGreatDoor
open Go.RowKit Go.Con
theorem qW(v:bd)(l:List mE)(W:ax)(hv:lm W v l)(hk:Kn W)(Y:Nd W):
  bl ed 3 #[v] W λe W'=>e= .returned (.bool dE)/\dd W.heap.size W W':=by
 obtain⟨ea,X,rfl,hle,a5,-⟩:=id hv.1;obtain⟨n,hn⟩:=aK l.length;rw[<-hn]at hv hle|-;have c0:X<=9223372036854775807:=a5;have S:=ae hv;have HK:=ae hk;have HD:=ae Y;have HN:=ae hn;have b1:=ae (EZ W hk Y);clear hv hk Y hn a5;go_enter func3,ntmps3
 go_upto_region 3 with(go_at_call 19;refine b1.o.m ?_;rintro e w1 ⟨rfl,a3⟩;have u:=ae a3;clear a3)
 by_cases hs:oP l
 ·have I:=ae hs;have U:=ae (Cq _ l w1 (S.o.stay u.o) hs (HK.o.stay u.o) (HD.o.stay u.o));clear hs;go_upto_region 4 with(go_at_call 20;refine U.o.m ?_;rintro e w2 ⟨ov,rfl,P,M⟩;have D:=ae M;obtain⟨f,x0,x1,x2,x3,x4,lb,lo,lc,y0,y1,y2,y3,y4,ta,tn,tc,rfl,-⟩:=P.lit;clear P M)
  generalize t:World.alloc _ _=w3;have E:=ae (show dd W.heap.size W w3 by rw[<-t];exact u.o.t ((D.o.t (((aj _ _).alloc (ag _) _).m D.o.size)).m u.o.size));clear t;go_upto_region 8 with fail
  have R0:Hid (∃(a:Option Addr) (m c:Nat) (L:List bk),(.slice dl 0 0:bd)= .slice a m c/\oQ w3 (.slice a m c) L/\(L=[]\/∃j b,j<=0/\b<5/\L=sL l j b)/\dd W.heap.size W w3):=ae ⟨dl,0,0,[],rfl,⟨dl,0,rfl,ag _,bX _,λh=>absurd rfl h⟩,.inl rfl,E.o⟩;go_loopg [5,6] (n+1) (λg o s wr=>∃k:Nat,k+g=n+1/\s= .int .i64 k/\Hid (∃(a:Option Addr) (m c:Nat) (L:List bk),o= .slice a m c/\oQ wr (.slice a m c) L/\(L=[]\/∃j b,j<=k/\b<5/\L=sL l j b)/\dd W.heap.size W wr))
  case atStart=>exact⟨0,by omega,rfl,R0⟩
  case round=>
   clear R0;obtain⟨k,c6,rfl,G⟩:=hrel;obtain⟨w0,rfl⟩:=aK wr;obtain⟨w,p,x,L,rfl,Q,K,a2⟩:=G.o;have C:=ae Q;have B:=ae K;have A:=ae a2;clear Q K a2 G;by_cases h1:k<=n
   ·have d1:decide ((k:Int)<=n)=dE:=by rw[ap];omega
    have b4:decide (k<=n)=dE:=by rw[ap];omega
    obtain⟨g,hg⟩:∃g,gk=g+1:=⟨gk-1,by omega⟩
    have c3:(0:Int)<=(k:Int):=by omega
    have c4:k<=X:=by omega
    have c5:(k:Int)<=(X:Int):=by omega
    have b3:=ae (LA (.slice ea k k) (l.take k) w0 ((S.o.front k h1).stay A.o) (I.o.take k) (HK.o.stay A.o) (HD.o.stay A.o));go_upto_region 11 with(go_at_call 22;refine b3.o.m ?_;rintro e w4 ⟨ov,rfl,P,N⟩;have z:=ae N;obtain⟨f,x0,x1,x2,x3,x4,lb,lo,lc,y0,y1,y2,y3,y4,ta,tn,tc,rfl,a6⟩:=P.lit;have HO:=ae a6;clear P N a6)
    generalize t:World.alloc _ _=d;obtain⟨yb,a0⟩:=aK w4.heap.size;have T:=ae (gv t);have V:=ae (show d.cell? (yb,6)=de (.slice (lb,lo) 5 lc)/\yb<d.heap.size by
     have h:=aL w4 (.cells #[f,.bool x0,.bool x1,.bool x2,.bool x3,.bool x4,.slice (lb,lo) 5 lc,y0,y1,y2,y3,y4,.slice ta tn tc] 29 (0,0));rw[t,<-a0]at h;exact⟨ej h 6 rfl,hF h⟩)
    have H:=ae (HO.o.stay T.o);have BZ:=ae (show dd W.heap.size W d from A.o.t ((z.o.t (T.o.m z.o.size)).m A.o.size));have a8:=ae (show dd w0.heap.size w0 d from z.o.t (T.o.m z.o.size));rw[<-a0];clear t a0 HO;have c1:=H.o.cm;have b9:=H.o.c5;go_upto_region 14 with fail
    have R1:Hid (∃(a:Option Addr) (m c:Nat) (L:List bk),(.slice w p x:bd)= .slice a m c/\oQ d (.slice a m c) L/\(L=[]\/∃j b,j<=k/\b<5/\L=sL l j b)/\dd d.heap.size d d):=ae ⟨w,p,x,L,rfl,C.o.stay a8.o,B.o,aj _ _⟩;clear C B;obtain⟨b8,b6⟩:=aK gk;rw[<-b6]at*;go_loopg [5,9] 5 (λg o s wr=>∃q:Nat,q+g=5/\s= .int .i64 q/\Hid (∃(a:Option Addr) (m c:Nat) (L:List bk),o= .slice a m c/\oQ wr (.slice a m c) L/\(L=[]\/∃j b,j<=k/\b<5/\L=sL l j b)/\dd d.heap.size d wr))
    case atStart=>exact⟨0,by omega,rfl,R1⟩
    case round=>
     clear R1;obtain⟨q,c8,rfl,G⟩:=hrel;obtain⟨w6,rfl⟩:=aK wr;obtain⟨w,p,x,L,rfl,Q,K,Z⟩:=G.o;have C:=ae Q;have B:=ae K;have y:=ae Z;have z6:=cZ Z V.o.2 V.o.1;clear Q K Z G;by_cases h2:q<5
     ·obtain⟨la,ln,lk,O,a7⟩:=H.o.log q h2;have a1:=ae (a7.stay y.o);have z0:=cZ y.o H.o.lt O;have b7:(q:Int)<5:=by omega
      obtain⟨g2,c2⟩:∃g,gk=g+1:=⟨gk-1,by omega⟩
      have b0:=ae (Fi (.slice la ln lk) (.slice w p x) (sL l k q) L w6 a1.o C.o);have a9:=ae (show Alike (sL l k q) L by
       rcases B.o with rfl|⟨j,b,hj,hb,rfl⟩
       ·exact λi _ h=>absurd h (by simp)
       ·exact Bw I.o hj hb h2)
      clear O a7;go_upto_region 18 with(go_at_call 23;refine b0.o.m ?_;rintro e R ⟨⟨r,rfl,hr⟩,a4⟩;obtain rfl:=hr.2 a9.o;have F:=ae a4;clear a4 hr)
      have y6:=cZ F.o (ai V.o.2 y.o.size) z6;have y0:=cZ F.o (ai H.o.lt y.o.size) z0;have BN:=ae (show dd d.heap.size d R from y.o.t (F.o.m y.o.size));clear z6 z0;by_cases h3:p<ln
      ·have d2:decide ((p:Int)<ln)=dE:=by rw[ap];omega
       have b5:decide (p<ln)=dE:=by rw[ap];omega
       have J:Hid (∃(a:Option Addr) (m c:Nat) (L:List bk),(.slice la ln lk:bd)= .slice a m c/\oQ R (.slice a m c) L/\(L=[]\/∃j b,j<=k/\b<5/\L=sL l j b)/\dd d.heap.size d R):=ae ⟨la,ln,lk,_,rfl,a1.o.stay F.o,.inr ⟨k,q,ag _,h2,rfl⟩,BN.o⟩;go_wp2_with fail
       go_roundg g2
       ·exact⟨q+1,by omega,by go_num,J⟩
       ·omega
      ·have d2:decide ((p:Int)<ln)=dT:=by rw[ah];omega
       have b5:decide (p<ln)=dT:=by rw[ah];omega
       have J:Hid (∃(a:Option Addr) (m c:Nat) (L:List bk),(.slice w p x:bd)= .slice a m c/\oQ R (.slice a m c) L/\(L=[]\/∃j b,j<=k/\b<5/\L=sL l j b)/\dd d.heap.size d R):=ae ⟨w,p,x,L,rfl,C.o.stay F.o,B.o,BN.o⟩;go_wp2_with fail
       go_roundg g2
       ·exact⟨q+1,by omega,by go_num,J⟩
       ·omega
     ·have b7:¬(q:Int)<5:=by omega
      have J:Hid (∃(a:Option Addr) (m c:Nat) (L:List bk),(.slice w p x:bd)= .slice a m c/\oQ w6 (.slice a m c) L/\(L=[]\/∃j b,j<=k+1/\b<5/\L=sL l j b)/\dd W.heap.size W w6):=ae ⟨w,p,x,L,rfl,C.o,by
       rcases B.o with h|⟨j,b,h1,h2,h3⟩
       ·exact .inl h
       ·exact .inr ⟨j,b,by omega,h2,h3⟩,BZ.o.t (y.o.m BZ.o.size)⟩
      go_wp2_with fail
      go_roundg g
      ·have c7:n<=100000:=by rw[HN.o];exact I.o.1
       have hw:Value.int .i64 (wrap64 ((k:Int)+1))= .int .i64 ((k+1:Nat):Int):=by
        rw[show wrap64 ((k:Int)+1)=((k+1:Nat):Int) by unfold wrap64;omega]
       exact⟨k+1,by omega,hw,J⟩
      ·omega
   ·have d1:decide ((k:Int)<=n)=dT:=by rw[ah];omega
    have b4:decide (k<=n)=dT:=by rw[ah];omega
    go_wp2_with fail
    go_ret
    exact⟨rfl,A.o⟩
 ·have U:=ae (Iz _ l w1 (S.o.stay u.o) hs);have I:=ae hs;clear hs;go_upto_region 4 with(go_at_call 20;refine U.o.m ?_;rintro e w2 ⟨cx,O,rfl,M⟩;have hz:(cx !=0)=dE:=(by rw[eP];exact O);have D:=ae M;clear O M;simp only[je,fp])
  generalize t:World.alloc _ _=w3;have E:=ae (show dd W.heap.size W w3 by rw[<-t];exact u.o.t ((D.o.t (((aj _ _).alloc (ag _) _).m D.o.size)).m u.o.size));clear t;have b2:=ae (Bh _ l w3 (S.o.stay E.o) I.o);go_wp2_with (go_at_call 21;refine b2.o.m ?_;rintro e w4 ⟨rfl,N⟩;have z:=ae N;clear N)
  go_ret
  exact⟨rfl,E.o.t (z.o.m E.o.size)⟩
end Go.Proofs.YtmeibmoklnihmaaGreatDoor
namespace Go.Proofs.YtmeibmoklnihmaaGreatDoor.lawTopAgreeAny
open Go.ChangeShapes Go.WideShapes Go.ChangeAt Go.RowKit Go.Con
theorem lifted(os:Os)(started:os.Started)(H:Type)(fS:TypeId×bd->H):
  ReturnsInHanded {} Tryz.checked os 3 .any (λw args=>(Rows.topAgreeAnySpec.pre fS ed Tryz.f3 [] dT w args/\laidMetH ed [("conclave/sha.numbers",Rows.laid_conclave_sha_numbers),("conclave/order.need",Rows.laid_conclave_order_need)] w)/\sizedMet fS ed Tryz.f3 (OpenSpec.ofChange Rows.topAgreeAnySpec) dT w args)
   (Rows.topAgreeAnySpec.post fS ed Tryz.f3 dT dE dT dT):=by
 refine returnsInHanded_of_change_and (C:=Tryz.checked) (X:=λw _=>laidMetH ed [("conclave/sha.numbers",Rows.laid_conclave_sha_numbers),("conclave/order.need",Rows.laid_conclave_order_need)] w) (λ_ _ _ s h=>h.of_heap s) hH started (by kernel_rfl) func3
  (ChangeSpec.witness_shaped (enc:=fS) (C:=Tryz.checked) (os:=os) (X:=λw _=>laidMetH ed [("conclave/sha.numbers",Rows.laid_conclave_sha_numbers),("conclave/order.need",Rows.laid_conclave_order_need)] w) dT (World.doorLaid ed 400 os) #[.slice dl 0 0] 8 rfl (World.shaped_of_RefB (by kernel_rfl) (by kernel_rfl)) (by kernel_rfl) (by kernel_rfl) (by kernel_rfl)
   (laidMetH_of_parts (laidMet_of_run' 8 (by kernel_rfl) (by kernel_rfl)) (by kernel_rfl))) ?_
 intro W base args i gs before g d _ G l _;have f:∀(j:Nat) t v,Tryz.f3.params[j]?=de t->args[j]?=de v->Value.okWide ed W .any base t v:=g;have o:=d;obtain⟨p,q,c,n,rfl,E,F⟩:=d;have b:DataW.TrodAll fS ed W 0 (λ_=>dE) dE Tryz.f3.params.toList args.toList i p:=c;rw[Tryz.params3]at b f;obtain⟨v0,J,d0,B,y,I,D,rfl,rfl,h0,r0⟩:=trodAll_cons b;obtain⟨rfl,rfl,rfl⟩:=trodAll_nil r0;obtain rfl:args=#[v0]:=by cases args;simp_all
 obtain⟨rfl,rfl⟩:=trodVars_none n;have a:laidMetH ed [("conclave/sha.numbers",Rows.laid_conclave_sha_numbers),("conclave/order.need",Rows.laid_conclave_order_need)] W:=l;rw[MakeChecks.laidMetH_plain _ _ _ (by kernel_rfl)]at a;have k:Kn W:=Bz a;have r:=xO a.tail;have k0:=h0;have u:∀x∈y,x.block<W.heap.size:=by obtain⟨m,hm⟩:=k0;exact DataW.trod_lt m _ _ _ hm
 obtain⟨a0,z⟩:=Ei (fS:=fS) (f 0 22 v0 rfl rfl) h0;clear c g;refine(qW v0 a0 W z k r).m λe A ⟨he,kj⟩=>?_;subst he;exact⟨_,rfl,_,_,_,[],_,[],o,trodAll_mk1 (shut_bool Tryz.underlying4 _),(trodAll_cons_mk (Below.trod laidOut (by kernel_rfl) (fF (by kernel_rfl)) k0 kj u) trodAll_mk0),rfl,kj.frame _,λh=>by cases h⟩
theorem closed:joinedFacts ed 3 Tryz.f3 Rows.topAgreeAnySpec Rows.topAgreeAnyRow=dE:=by
 unfold joinedFacts;simp only[aP];repeat' apply And.intro
 all_goals first|(with_reducible exact may)|(rw[Ni];as_aux_lemma=>kernel_rfl)|(rw[LM];as_aux_lemma=>kernel_rfl)|(as_aux_lemma=>kernel_rfl)
theorem over:Rows.topAgreeAnyRow.holds Tryz.pinned (OpenSpec.ofChange Rows.topAgreeAnySpec):=
 OpenClaim.holds_of_wide 3 Tryz.f3 rfl rfl rfl rfl rfl rfl rfl ⟨rfl,rfl,rfl,rfl,rfl⟩ rfl rfl rfl rfl rfl (by kernel_rfl) func3 closed
  (of_decide_eq_true (by kernel_rfl)) (by unfold Func.isWrapper;first|(rw[if_pos (by decide+kernel)];kernel_rfl)|(rw[if_neg (by decide+kernel)];exact⟨rfl,rfl⟩))
  (λos started H fS _=>lifted os started H fS)
theorem proved:Rows.TopAgreeAnyCardSaid:=
 Claim7.holds_tied_plain_at .later [] [.data,.data] dE Rows.topAgreeAnyCard.stood.harness dT
  over (λ_ h=>by cases h) (by kernel_rfl) (λ_ h=>by cases h) topAgreeAny_row_tie rfl ⟨rfl,rfl⟩ (by kernel_rfl) rfl
  (λf fn c d=>by
   obtain rfl:f=3:=fT ((show prog.funcNamed "conclave/conclavetop.TopAgreeAny" =de 3 by kernel_rfl).symm.t c)|>.symm;obtain rfl:fn=Tryz.f3:=(fT (func3.symm.t d)).symm;exact⟨by kernel_rfl,λj t a=>by
    rw[Tryz.params3]at a;have hm:t∈([22]:List TypeId):=by simpa using Array.mem_of_getElem? a
    have b:(([22]:List TypeId).all λu=>!prog.wantsStandIn u)=dE:=by kernel_rfl
    exact(show prog.wantsStandIn t=dT by simpa using gR.1 b t hm)⟩)
  (by kernel_rfl)
#print axioms proved
end Go.Proofs.YtmeibmoklnihmaaGreatDoor.lawTopAgreeAny
