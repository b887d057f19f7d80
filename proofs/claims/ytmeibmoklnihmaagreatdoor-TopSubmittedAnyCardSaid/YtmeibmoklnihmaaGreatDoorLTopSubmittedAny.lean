/-
  TopSubmittedAny holds: for every input the law returns true, and its input reads as it did.
-/
import Derived.Test.YtmeibmoklnihmaaGreatDoorM30
import Derived.Stop.LaidErr
import Derived.Test.YtmeibmoklnihmaaGreatDoorTie
import Derived.Test.YtmeibmoklnihmaaGreatDoorCards
set_option linter.unusedVariables false
set_option linter.unusedSimpArgs false
set_option maxRecDepth 100000
set_option maxHeartbeats 1000000
open Go.Proofs.Tryz
open Go renaming World->ax,Value->bd,Calls->bl
open Go.RowKit renaming Below->dd
open Option renaming some->de,none->dl
open Bool renaming true->dE,false->dT
open Go.Proofs.Tryz renaming prog->ed
namespace Go.Proofs.YtmeibmoklnihmaaGreatDoor
open Go.RowKit Go.Con
set_option maxHeartbeats 400000
def primeA(a:AF):AF:={a with MA:=λnow=>if a.kind=1/\0<=now/\now<=40 then a.MA now else(bk.zero,2)}
theorem act_prime{Q:bk->Prop}{S:eN}{M:aT}(h:eh Q S M){a:AF}(b:0<=a.node/\a.node<5):M.act a=M.act (primeA a):=by
 have hl:=(h.nd a.node.toNat (by omega)).ru;unfold aT.act primeA;dsimp only;split
 ·rename_i e;rw[ar ⟨e,by omega,by omega⟩]
 ·rfl
theorem acts_prime{Q:bk->Prop}(c:Fits Q):∀(l:List AF) {S:eN} {M:aT},eh Q S M->(∀a∈l,oq Q (primeA a))->l.foldl aT.act M=(l.map primeA).foldl aT.act M
 |[],_,_,_,_=>rfl
 |a::l,S,M,h,d=>by
  have h0:=d a (bO ..);rw[dH,dm,dH,act_prime h (a:=a) h0.node];obtain⟨T,-,e⟩:=h.act c h0;exact acts_prime c l e λb hb=>d b (bw _ hb)
def Sent(l:List mE)(c:bk):Prop:=c=bk.zero\/∃x∈l,x.k=1/\∃now:Nat,now<=40/\iD x.d now=(c,0)
theorem sent_fits(l:List mE):Fits (Sent l):=⟨.inl rfl,λc hc=>by
 rcases hc with rfl|⟨x,hx,hk,now,a,e⟩
 ·decide
 ·have h:=zx (D:=x.d) (now:=now) (by rw[e]);rwa[e]at h⟩
theorem sent_act{l:List mE}{x:mE}(h:x.Ok)(hx:x∈l):oq (Sent l) (primeA (Mj x)):=by
 have h0:=Dk (l:=l) h hx;refine⟨h0.kind,h0.node,h0.keep,h0.at',λnow a=>?_⟩;unfold primeA at a|-;dsimp only at a|-;split
 ·rename_i e;rw[ar e]at a;refine .inr ⟨x,hx,e.1,now.toNat,by omega,?_⟩;rw[show((now.toNat:Nat):Int)=now by omega];have b:(iD x.d now).2=0:=a;exact Prod.ext rfl b
 ·exact .inl rfl
theorem runX_sent{l:List mE}(h:oP l){n j:Nat}(f:n<5){c:bk}(hc:((ow l).nd n).log[j]?=de c):Sent l c:=by
 have d:∀a∈l.map Mj,oq (Sent l) (primeA a):=λa d=>by
  obtain⟨x,hx,rfl⟩:=cH.1 d;exact sent_act (yl (h.2 x hx)) hx
 have he:ow l=pS ((l.map Mj).map primeA):=acts_prime (sent_fits l) _ eh.zero d;obtain⟨S,hS⟩:=eh.run (sent_fits l) (l:=(l.map Mj).map primeA) λa e=>by
  obtain⟨b,hb,rfl⟩:=cH.1 e;exact d b hb
 rw[<-he]at hS;exact((hS.nd n f).wN hc).2
set_option maxHeartbeats 8000000
theorem rdA_at{w w':ax}{i:Option Addr}{n c:Nat}{l:List mE}(h:lm w (.slice i n c) l)(hb:dd w.heap.size w w'){k:Nat}(hk:k<n):∃a d,i=de ⟨a,d,dl⟩/\w'.cell? ⟨a,d+k*5,dl⟩=de (.int .i64 (l.getD k mE.zero).k)/\w'.cell? ⟨a,d+k*5+4,dl⟩=de (l.getD k mE.zero).dv:=by
 obtain⟨a',m,h0,h1,h2,h3⟩:=h.1;injection h0 with e1 e2 e3;subst e1 e3;have j:l≠[]:=λe=>by rw[e]at e2;simp at e2;omega
 obtain⟨b,off,rfl,f,hc⟩:=h3 j;have g:k<l.length:=by omega
 refine⟨b,off,rfl,?_,?_⟩
 ·have h:=hc k g 0 (by omega);exact(hb.cell (p:=(b,off+k*5)) f).t (by rw[<-show off+5*k+0=off+k*5 by omega];exact h)
 ·have h:=hc k g 4 (by omega);exact(hb.cell (p:=(b,off+k*5+4)) f).t (by rw[<-show off+5*k+4=off+k*5+4 by omega];exact h)
theorem walk_TopSubmittedAny(v:bd)(l:List mE)(W:ax)(hv:lm W v l)(hk:Kn W)(hN:Nd W):
  bl ed 4 #[v] W λe W'=>e= .returned (.bool dE)/\dd W.heap.size W W':=by
 obtain⟨ea,ec,rfl,hle,c8,-⟩:=id hv.1;obtain⟨n,hn⟩:=aK l.length;rw[<-hn]at hv hle|-;have j2:ec<=9223372036854775807:=c8;have L:=ae hv;have HK:=ae hk;have HD:=ae hN;have HN:=ae hn;have e9:=ae (EZ W hk hN);clear hv hk hN hn c8;go_enter func4,ntmps4
 go_upto_region 3 with(go_at_call 19;refine e9.o.m ?_;rintro e w1 ⟨rfl,c6⟩;have u:=ae c6;clear c6)
 by_cases hs:oP l
 ·have HS:=ae hs;have HR:=ae (Cq _ l w1 (L.o.stay u.o) hs (HK.o.stay u.o) (HD.o.stay u.o));clear hs;go_upto_region 4 with(go_at_call 20;refine HR.o.m ?_;rintro e w2 ⟨ov,rfl,e6,P⟩;have G:=ae P;obtain⟨f,x0,x1,x2,x3,x4,lb,lo,lc,u0,u1,u2,u3,u4,ta,tn,tc,rfl,d9⟩:=e6.lit;have HO:=ae d9;clear e6 P d9)
  generalize r:World.alloc _ _=w3;obtain⟨yb,b2⟩:=aK w2.heap.size;have b4:=ae (gv r);have X3:=ae (show w3.cell? (yb,6)=de (.slice (lb,lo) 5 lc)/\yb<w3.heap.size by
   have h:=aL w2 (.cells #[f,.bool x0,.bool x1,.bool x2,.bool x3,.bool x4,.slice (lb,lo) 5 lc,u0,u1,u2,u3,u4,.slice ta tn tc] 29 (0,0));rw[r,<-b2]at h;exact⟨ej h 6 rfl,hF h⟩)
  have a1:=ae (HO.o.stay b4.o);have m:=ae (show dd W.heap.size W w3 from u.o.t ((G.o.t (b4.o.m G.o.size)).m u.o.size));rw[<-b2];have j3:=a1.o.cm;have j1:=a1.o.c5;clear r b2 HO;go_upto_region 7 with fail
  have R1:=ae (aj w3.heap.size w3);go_loopg [5] 5 (λg s wr=>∃q:Nat,q+g=5/\s= .int .i64 q/\Hid (dd w3.heap.size w3 wr))
  case atStart=>exact⟨0,by omega,rfl,R1⟩
  case round=>
   clear R1;obtain⟨q,j9,rfl,HI⟩:=hrel;obtain⟨w6,rfl⟩:=aK wr;have z6:=cZ HI.o X3.o.2 X3.o.1;by_cases h2:q<5
   ·obtain⟨la,ln,lk,Q,R⟩:=a1.o.log q h2;have f5:=ae R;have z0:=cZ HI.o a1.o.lt Q;have i6:(q:Int)<5:=by omega
    have j7:lk<=9223372036854775807:=by obtain⟨a',c',h0,-,h1,-⟩:=id R;injection h0 with e1 e2 e3;rw[e3];exact h1
    have j8:ln<=lk:=by obtain⟨a',c',h0,h1,-,-⟩:=id R;injection h0 with e1 e2 e3;rw[e3,e2];exact h1
    have f4:=ae (show ln=((ow l).nd q).log.length by obtain⟨a',c',h0,-,-,-⟩:=id R;injection h0 with e1 e2 e3);obtain⟨g1,c9⟩:∃g,gk=g+1:=⟨gk-1,by omega⟩
    have b7:=ae c9;clear Q R c9;go_upto_region 11 with fail
    have R2:=ae HI.o;obtain⟨i8,g8⟩:=aK gk;rw[<-g8]at*;go_loopg [7] ln (λg s wr=>∃i:Nat,i+g=ln/\s= .int .i64 i/\Hid (dd w3.heap.size w3 wr))
    case atStart=>exact⟨0,by omega,rfl,R2⟩
    case round=>
     clear R2 z6 z0;obtain⟨i,d3,rfl,HJ⟩:=hrel;obtain⟨w7,rfl⟩:=aK wr;by_cases h3:i<ln
     ·obtain⟨g2,d0⟩:∃g,gk=g+1:=⟨gk-1,by omega⟩
      have C:=ae d0;obtain⟨y,hy⟩:=aK ((((ow l).nd q).log).getD i bk.zero);have HQ:=ae (show Sent l y by
       have hi:i<((ow l).nd q).log.length:=by rw[<-f4.o];exact h3
       exact runX_sent HS.o h2 (j:=i) (by rw[hy,au,aC hi];rfl))
      obtain⟨eb,eo,rfl,a3⟩:=Gb f5.o (aj _ _) h3;rw[<-hy]at a3;obtain⟨ck,M,cs,N,O⟩:=y;have f1:=ae (show eb<w3.heap.size from aI _ _ (show w3.cell? (eb,eo+i*5+0)=ck from a3 0 (by omega)));have b6:=ae (λ(w:ax) (hb:dd w3.heap.size w3 w) q hq=>(hb.cell (p:=(eb,eo+i*5+q)) f1.o).t (a3 q hq));obtain⟨y0,y1,y2,y3,y4⟩:=qd (b6.o _ HJ.o);dsimp only at y0 y1 y2 y3 y4;have h8:(0:Int)<=(i:Int):=by omega
      have i5:(i:Int)<(ln:Int):=by omega
      have b5:=ae (yj ((sent_fits l).fit _ HQ.o));have b8:=ae d3;clear a3 hy d0;by_cases he:(⟨ck,M,cs,N,O⟩:bk)=bk.zero
      ·injection he with i0 i1 i2 i3 i4;subst i0 i1 i2 i3 i4;go_wp2_with fail
       go_roundg g2
       ·exact⟨i+1,by have:=C.o;omega,by go_num,HJ⟩
       ·have:=C.o;omega
      ·have e1:∀w,(binOp BinOp.eql 39 (.agg #[ck,M,cs,N,O]) (.agg #[(0:Int),(0:Int),(0:Int),(0:Int),(0:Int)])).run ed w= .ok (.bool dT) w:=λw=>(Nu (y:=bk.zero) b5.o (yj (by decide)) w).t (by rw[gE he]);obtain⟨x,hx,d7,now,e0,e5⟩:=HQ.o.resolve_left he;obtain⟨K,hK,c5⟩:=fO hx;have c3:=ae (show l.getD K mE.zero=x by rw[au,aC hK,c5];rfl);have f3:=ae (show K<n by rw[HN.o];exact hK);have f2:=ae d7;have f6:=ae e0;have f7:=ae e5;clear he hx d7 e0 e5 c5 hK;go_upto_region 16 with fail
       have R3:=ae HJ.o;clear e1 y0 y1 y2 y3 y4 d3;obtain⟨i9,g9⟩:=aK gk;rw[<-g9]at*;go_loopg [8,9] n (λg s8 s9 wr=>∃(k:Nat) (f:Bool),k+g=n/\s8= .bool f/\s9= .int .i64 k/\Hid ((f=dE\/k<=K)/\dd w3.heap.size w3 wr))
       case atStart=>exact⟨0,dT,by omega,rfl,rfl,ae ⟨.inr (bX _),R3.o⟩⟩
       case round=>
        clear R3;obtain⟨k,f,a5,rfl,rfl,HL⟩:=hrel;obtain⟨w8,rfl⟩:=aK wr;have I:=ae HL.o.2;by_cases h4:k<n
        ·have d4:decide ((k:Int)<n)=dE:=by rw[ap];omega
         have g5:decide (k<n)=dE:=by rw[ap];omega
         cases f with
         |true=>
          clear a5;go_wp2_with fail
          go_roundg g2
          ·exact⟨i+1,by have:=b8.o;have:=C.o;omega,by go_num,I⟩
          ·have:=C.o;omega
         |false=>
          have d8:k<=K:=by
           rcases HL.o.1 with h|h
           ·cases h
           ·exact h
          obtain⟨g3,d1⟩:∃g,gk=g+1:=⟨gk-1,by omega⟩
          have E:=ae d1;obtain⟨ab,ao,g7,a0,a4⟩:=rdA_at L.o (aj _ _) h4;obtain⟨xk,b1⟩:=aK (l.getD k mE.zero).k;obtain⟨dv,b0⟩:=aK (l.getD k mE.zero).dv;rw[<-b1]at a0;rw[<-b0]at a4;subst g7;have A4:=ae a4;replace a0:=cZ (m.o.t (I.o.m m.o.size)) (aI _ _ a0) a0;clear a4;have c2:=ae d8;have a7:=ae a5;have j5:(0:Int)<=(k:Int):=by omega
          have j6:(k:Int)<(n:Int):=by omega
          have g0:=ae b1;have c4:=ae (show l.getD k mE.zero∈l by
           have hkl:k<l.length:=by rw[<-HN.o];exact h4
           rw[au,aC hkl];exact dW _)
          have f0:=ae (show Rd W dv (l.getD k mE.zero).d by rw[b0];exact L.o.2 _ c4.o);clear d1 d8 a5 b1 b0;by_cases h5:xk=1
          ·subst h5;go_upto_region 20 with fail
           clear a0;obtain⟨j0,h7⟩:=aK gk;rw[<-h7]at*;go_loopg [8,10] 41 (λg s8 i7 wr=>∃(j:Nat) (f:Bool),j+g=41/\s8= .bool f/\i7= .int .i64 j/\Hid ((f=dE\/(k=K->j<=now))/\dd w3.heap.size w3 wr))
           case atStart=>exact⟨0,dT,by omega,rfl,rfl,ae ⟨.inr λ_=>bX _,I.o⟩⟩
           case round=>
            obtain⟨j,f,d5,rfl,rfl,HM⟩:=hrel;obtain⟨w9,rfl⟩:=aK wr;have J:=ae HM.o.2;by_cases h6:j<=40
            ·have d6:decide ((j:Int)<=40)=dE:=by rw[ap];omega
             have g6:decide (j<=40)=dE:=by rw[ap];omega
             cases f with
             |true=>
              go_wp2_with fail
              go_roundg g3
              ·exact⟨k+1,dE,by have:=a7.o;have:=E.o;omega,rfl,by go_num,ae ⟨.inl rfl,J.o⟩⟩
              ·have:=E.o;omega
             |false=>
              obtain⟨g4,d2⟩:∃g,gk=g+1:=⟨gk-1,by omega⟩
              have Z:=ae d2;have b9:=ae d5;have Y:=ae (m.o.t (J.o.m m.o.size));have a4:=cZ Y.o (aI _ _ A4.o) A4.o;have a2:=ae (Ct (l.getD k mE.zero).d (j:Int) dv w9 (f0.o.stay Y.o) (by
               have h:=yl (HS.o.2 _ c4.o);exact(qR ⟨h.k1,h.k9⟩ h.code).len) (HK.o.stay Y.o) (HD.o.stay Y.o))
              obtain⟨⟨⟨S,T,U,V,X⟩,e2⟩,ho⟩:=aK (iD (l.getD k mE.zero).d (j:Int));rw[<-ho]at a2;unfold eG at a2;dsimp only at a2;have a8:=ae ho;have c0:=ae (show k=K->j<=now by
               rcases HM.o.1 with h|h
               ·cases h
               ·exact h)
              have c1:=ae (show k=K->j=now->(⟨S,T,U,V,X⟩:bk)=⟨ck,M,cs,N,O⟩/\e2=0 from λe1 e3=>by
               have h:=f7.o;rw[<-c3.o,<-e1,<-e3,<-a8.o]at h;injection h with F h9;exact⟨F,h9⟩)
              clear d2 d5 ho;go_upto_region 23 with(go_at_call 24;refine a2.o.m ?_;rintro e e8 ⟨rfl,hb⟩;have b3:=ae hb;clear hb)
              generalize r:World.alloc _ _=k0;obtain⟨cb,a9⟩:=aK e8.heap.size;have a6:=ae (J.o.t ((b3.o.t ((gv r).m b3.o.size)).m J.o.size));have B:=aL e8 (.cells #[S,T,U,V,X] 39 (0,0));rw[r,<-a9]at B;rw[<-a9];have x0:=ej B 0 rfl;have x1:=ej B 1 rfl;have x2:=ej B 2 rfl;have x3:=ej B 3 rfl;have x4:=ej B 4 rfl;obtain⟨y0,y1,y2,y3,y4⟩:=qd (b6.o _ a6.o);dsimp only at y0 y1 y2 y3 y4;clear r a9 B a4;have h8:(0:Int)<=(i:Int):=by omega
              have i5:(i:Int)<(ln:Int):=by omega
              by_cases b:e2=0
              ·subst b;have f8:=ae (yj (show cS ⟨S,T,U,V,X⟩=0 by
                have h:=zx (D:=(l.getD k mE.zero).d) (now:=(j:Int)) (by rw[<-a8.o]);rwa[<-a8.o]at h))
               obtain⟨d,hd⟩:=aK (decide ((⟨S,T,U,V,X⟩:bk)=⟨ck,M,cs,N,O⟩));have e7:∀w,(binOp BinOp.eql 39 (.agg #[S,T,U,V,X]) (.agg #[ck,M,cs,N,O])).run ed w= .ok (.bool d) w:=λw=>(Nu f8.o b5.o w).t (by rw[hd]);have z:=ae (show d=dE\/(k=K->j+1<=now) by
                by_cases e3:k=K/\j=now
                ·exact .inl (by rw[hd,ap];exact(c1.o e3.1 e3.2).1)
                ·exact .inr λe4=>by have:=c0.o e4;omega)
               clear hd;go_wp2_with fail
               go_region
               all_goals (
                go_wp2_with fail
                go_roundg g4
                ·exact⟨j+1,d,by have:=b9.o;have:=Z.o;omega,rfl,by go_num,ae ⟨z.o,a6.o.drew⟩⟩
                ·have:=Z.o;omega)
              ·have z7:(e2==0)=dT:=by rw[aJ];exact b
               have z:=ae (show dT=dE\/(k=K->j+1<=now)from .inr λe4=>by
                have F:=c0.o e4;rcases dy j now with h9|h9
                ·exact h9
                ·exact absurd (c1.o e4 (Nat.le_antisymm F h9)).2 b)
               go_wp2_with fail
               go_region
               all_goals (
                go_wp2_with fail
                go_roundg g4
                ·exact⟨j+1,dT,by have:=b9.o;have:=Z.o;omega,rfl,by go_num,ae ⟨z.o,a6.o.drew⟩⟩
                ·have:=Z.o;omega)
            ·have d6:decide ((j:Int)<=40)=dT:=by rw[ah];omega
             have g6:decide (j<=40)=dT:=by rw[ah];omega
             have z:Hid ((f=dE\/k+1<=K)/\dd w3.heap.size w3 w9):=ae ⟨by
              rcases HM.o.1 with h|h
              ·exact .inl h
              ·refine .inr ?_;rcases dy k K with b|b
               ·exact b
               ·have:=h (Nat.le_antisymm c2.o b);have:=f6.o;omega,J.o⟩
             go_wp2_with fail
             go_roundg g3
             ·exact⟨k+1,f,by have:=a7.o;have:=E.o;omega,rfl,by go_num,z⟩
             ·have:=E.o;omega
          ·have z5:(xk !=1)=dE:=by rw[eP];exact h5
           have z:Hid ((dT=dE\/k+1<=K)/\dd w3.heap.size w3 w8):=ae ⟨.inr (by
            rcases dy k K with b|b
            ·exact b
            ·have e:k=K:=Nat.le_antisymm c2.o b;have F:=g0.o;rw[e,c3.o,f2.o]at F;exact absurd F h5),I.o⟩
           go_wp2_with fail
           go_roundg g3
           ·exact⟨k+1,dT,by have:=a7.o;have:=E.o;omega,rfl,by go_num,z⟩
           ·have:=E.o;omega
        ·have d4:decide ((k:Int)<n)=dT:=by rw[ah];omega
         have g5:decide (k<n)=dT:=by rw[ah];omega
         obtain rfl:f=dE:=by
          rcases HL.o.1 with h|h
          ·exact h
          ·have:=f3.o;omega
         clear a5;go_wp2_with fail
         go_roundg g2
         ·exact⟨i+1,by have:=b8.o;have:=C.o;omega,by go_num,I⟩
         ·have:=C.o;omega
     ·have j4:¬(i:Int)<(ln:Int):=by omega
      go_wp2_with fail
      go_roundg g1
      ·exact⟨q+1,by have:=b7.o;omega,by go_num,HJ⟩
      ·have:=b7.o;omega
   ·have i6:¬(q:Int)<5:=by omega
    go_wp2_with fail
    go_ret
    exact⟨rfl,m.o.t (HI.o.m m.o.size)⟩
 ·have HR:=ae (Iz _ l w1 (L.o.stay u.o) hs);have HS:=ae hs;clear hs;go_upto_region 4 with(go_at_call 20;refine HR.o.m ?_;rintro e w2 ⟨cx,Q,rfl,P⟩;have hz:(cx !=0)=dE:=(by rw[eP];exact Q);have G:=ae P;clear Q P;simp only[je,fp])
  generalize r:World.alloc _ _=w3;have m:=ae (show dd W.heap.size W w3 by rw[<-r];exact u.o.t ((G.o.t (((aj _ _).alloc (ag _) _).m G.o.size)).m u.o.size));clear r;have f9:=ae (Bh _ l w3 (L.o.stay m.o) HS.o);go_wp2_with (go_at_call 21;refine f9.o.m ?_;rintro e w4 ⟨rfl,c7⟩;have B4:=ae c7;clear c7)
  go_ret
  exact⟨rfl,m.o.t (B4.o.m m.o.size)⟩
end Go.Proofs.YtmeibmoklnihmaaGreatDoor
namespace Go.Proofs.YtmeibmoklnihmaaGreatDoor.lawTopSubmittedAny
open Go.ChangeShapes Go.WideShapes Go.ChangeAt Go.RowKit Go.Con
theorem lifted(os:Os)(started:os.Started)(H:Type)(fS:TypeId×bd->H):
  ReturnsInHanded {} Tryz.checked os 4 .any (λw args=>(Rows.topSubmittedAnySpec.pre fS ed Tryz.f4 [] dT w args/\laidMetH ed [("conclave/sha.numbers",Rows.laid_conclave_sha_numbers),("conclave/order.need",Rows.laid_conclave_order_need)] w)/\sizedMet fS ed Tryz.f4 (OpenSpec.ofChange Rows.topSubmittedAnySpec) dT w args)
   (Rows.topSubmittedAnySpec.post fS ed Tryz.f4 dT dE dT dT):=by
 refine returnsInHanded_of_change_and (C:=Tryz.checked) (X:=λw _=>laidMetH ed [("conclave/sha.numbers",Rows.laid_conclave_sha_numbers),("conclave/order.need",Rows.laid_conclave_order_need)] w) (λ_ _ _ s h=>h.of_heap s) hH started (by kernel_rfl) func4
  (ChangeSpec.witness_shaped (enc:=fS) (C:=Tryz.checked) (os:=os) (X:=λw _=>laidMetH ed [("conclave/sha.numbers",Rows.laid_conclave_sha_numbers),("conclave/order.need",Rows.laid_conclave_order_need)] w) dT (World.doorLaid ed 400 os) #[.slice dl 0 0] 8 rfl (World.shaped_of_RefB (by kernel_rfl) (by kernel_rfl)) (by kernel_rfl) (by kernel_rfl) (by kernel_rfl)
   (laidMetH_of_parts (laidMet_of_run' 8 (by kernel_rfl) (by kernel_rfl)) (by kernel_rfl))) ?_
 intro W base args i gs before g d _ G l _;have f:∀(j:Nat) t v,Tryz.f4.params[j]?=de t->args[j]?=de v->Value.okWide ed W .any base t v:=g;have o:=d;obtain⟨p,q,c,n,rfl,E,F⟩:=d;have b:DataW.TrodAll fS ed W 0 (λ_=>dE) dE Tryz.f4.params.toList args.toList i p:=c;rw[Tryz.params4]at b f;obtain⟨v0,J,d0,B,y,I,D,rfl,rfl,h0,r0⟩:=trodAll_cons b;obtain⟨rfl,rfl,rfl⟩:=trodAll_nil r0;obtain rfl:args=#[v0]:=by cases args;simp_all
 obtain⟨rfl,rfl⟩:=trodVars_none n;have a:laidMetH ed [("conclave/sha.numbers",Rows.laid_conclave_sha_numbers),("conclave/order.need",Rows.laid_conclave_order_need)] W:=l;rw[MakeChecks.laidMetH_plain _ _ _ (by kernel_rfl)]at a;have k:Kn W:=Bz a;have r:=xO a.tail;have k0:=h0;have u:∀x∈y,x.block<W.heap.size:=by obtain⟨m,hm⟩:=k0;exact DataW.trod_lt m _ _ _ hm
 obtain⟨a0,z⟩:=Ei (fS:=fS) (f 0 22 v0 rfl rfl) h0;clear c g;refine(walk_TopSubmittedAny v0 a0 W z k r).m λe A ⟨he,kj⟩=>?_;subst he;exact⟨_,rfl,_,_,_,[],_,[],o,trodAll_mk1 (shut_bool Tryz.underlying4 _),(trodAll_cons_mk (Below.trod laidOut (by kernel_rfl) (fF (by kernel_rfl)) k0 kj u) trodAll_mk0),rfl,kj.frame _,λh=>by cases h⟩
theorem closed:joinedFacts ed 4 Tryz.f4 Rows.topSubmittedAnySpec Rows.topSubmittedAnyRow=dE:=by
 unfold joinedFacts;simp only[aP];repeat' apply And.intro
 all_goals first|(with_reducible exact may)|(rw[Ni];as_aux_lemma=>kernel_rfl)|(rw[LM];as_aux_lemma=>kernel_rfl)|(as_aux_lemma=>kernel_rfl)
theorem over:Rows.topSubmittedAnyRow.holds Tryz.pinned (OpenSpec.ofChange Rows.topSubmittedAnySpec):=
 OpenClaim.holds_of_wide 4 Tryz.f4 rfl rfl rfl rfl rfl rfl rfl ⟨rfl,rfl,rfl,rfl,rfl⟩ rfl rfl rfl rfl rfl (by kernel_rfl) func4 closed
  (of_decide_eq_true (by kernel_rfl)) (by unfold Func.isWrapper;first|(rw[if_pos (by decide+kernel)];kernel_rfl)|(rw[if_neg (by decide+kernel)];exact⟨rfl,rfl⟩))
  (λos started H fS _=>lifted os started H fS)
theorem proved:Rows.TopSubmittedAnyCardSaid:=
 Claim7.holds_tied_plain_at .later [] [.data,.data] dE Rows.topSubmittedAnyCard.stood.harness dT
  over (λ_ h=>by cases h) (by kernel_rfl) (λ_ h=>by cases h) topSubmittedAny_row_tie rfl ⟨rfl,rfl⟩ (by kernel_rfl) rfl
  (λf fn c d=>by
   obtain rfl:f=4:=fT ((show prog.funcNamed "conclave/conclavetop.TopSubmittedAny" =de 4 by kernel_rfl).symm.t c)|>.symm;obtain rfl:fn=Tryz.f4:=(fT (func4.symm.t d)).symm;exact⟨by kernel_rfl,λj t a=>by
    rw[Tryz.params4]at a;have hm:t∈([22]:List TypeId):=by simpa using Array.mem_of_getElem? a
    have b:(([22]:List TypeId).all λu=>!prog.wantsStandIn u)=dE:=by kernel_rfl
    exact(show prog.wantsStandIn t=dT by simpa using gR.1 b t hm)⟩)
  (by kernel_rfl)
#print axioms proved
end Go.Proofs.YtmeibmoklnihmaaGreatDoor.lawTopSubmittedAny
