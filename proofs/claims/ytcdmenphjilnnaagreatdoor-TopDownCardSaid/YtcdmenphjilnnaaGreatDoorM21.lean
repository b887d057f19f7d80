/-
  Parts of the proofs of the laws of the whole (what the functions compute, and plain laws of it); no conditions.
-/
import Derived.Test.YtcdmenphjilnnaaGreatDoorM15
import Derived.Test.YtcdmenphjilnnaaGreatDoorM16
import Derived.Test.YtcdmenphjilnnaaGreatDoorM18
set_option linter.unusedVariables false
set_option linter.unusedSimpArgs false
set_option maxRecDepth 100000
set_option maxHeartbeats 1000000
open Go.Proofs.Tryz
open Go renaming World->ax,Value->bd,Calls->bl
open Go.RowKit renaming Below->dd
open Option renaming some->de,none->dl
open Bool renaming true->dE,false->dT
open Go.Proofs.Tryz renaming prog->ed
namespace Go.Proofs.YtcdmenphjilnnaaGreatDoor
open Go.RowKit Go.Con
theorem kL{P:Program}{w:ax}{b o:Nat}(f:Fn)(cs:Array bd){u:bd}(hc:w.cell? (b,o)=de u)(a:w.frozen? (b,o)=dT):
  (store (b,o) (.func f #[] cs)).run P w= .ok () (w.setCell (b,o) (.func f #[] cs)):=by
 simp[store,go_sem,Sem.run,hc,a]
theorem wG{hH:bI}{W:ax}{b i:Nat}{G:Gh}{M:aT}(h:dB hH W b G M)(hi:i<5)(d:M.cz.length<1000000000000){p m j o:Nat}(l:dK)(w n:bd)(c:List cF)
  (h1:W.heap[p]?=de (.cells #[ptr b] 62 (0,0)))(h2:W.heap[m]?=de (.cells #[ptr (G.n i).b] 69 (0,0)))(h3:W.heap[j]?=de (.cells (bP l w).toArray 111 (0,0)))(h4:W.heap[o]?=de (.cells #[n] 74 (0,0)))(hv:dG hH W n c):
  bl ed 99 #[ptr p,ptr m,ptr j,ptr o] W λe r=>e= .returned (.tuple #[])/\aW hH W b G i (M.send i l.nK {dK.zero with kind:=1,bG:=l.bG,aV:=c}) r:=by
 obtain⟨k,u,F,⟨b1,b2⟩,⟨s,⟨P,Q⟩,⟨c1,C,D,E,c5⟩⟩,N⟩:=l;obtain⟨y,A,z,rfl⟩:=hv.1.shape;have a:=ae (jN h hi u {dK.zero with kind:=1,bG:=(b1,b2),aV:=c} (.slice y A z) hv d);obtain⟨I,f⟩:=aK ((G.n i).b);rw[<-f]at a h2;unfold ptr bP aS dK.zero cF.zero bk.zero at a;dsimp only[List.cons_append,List.nil_append]at a;have O:=ej h1 0 rfl;have n0:=ej h2 0 rfl;have J:=ej h3 1 rfl;have K:=ej h3 3 rfl;have L:=ej h3 4 rfl;have v0:=ej h4 0 rfl;clear h f d hv h1 h2 h3 h4;unfold ptr;go_enter func99,ntmps99
 go_wp2_with (go_at_call 84;refine a.o.m ?_;rintro e B ⟨x,H,rfl,hr,g⟩;have q:=ae (show aW hH W b G i _ B from⟨x,_,hr,λ_=>rfl,g.m (λt v=>by rcases v with rfl|rfl<;>decide)⟩);clear hr g)
 refine jH rfl rfl ⟨rfl,?_⟩;exact q.o
theorem Aq{hH:bI}{W:ax}{b i:Nat}{G:Gh}{M:aT}(h:dB hH W b G M)(hi:i<5)(c:M.cz.length<1000000000000){m j g:Nat}(l:dK)(w:bd)
  (h1:W.heap[m]?=de (.cells #[ptr b] 62 (0,0)))(h2:W.heap[j]?=de (.cells #[ptr (G.n i).b] 69 (0,0)))(h3:W.heap[g]?=de (.cells (bP l w).toArray 111 (0,0))):
  bl ed 104 #[ptr m,ptr j,ptr g] W λe o=>e= .returned (.tuple #[])/\aW hH W b G i (M.send i l.nK {dK.zero with kind:=3,cP:=l.cP}) o:=by
 obtain⟨k,u,B,⟨b1,b2⟩,⟨s,⟨z,A⟩,⟨c1,p,q,r,c5⟩⟩,P⟩:=l;have a:=ae (jN h hi u {dK.zero with kind:=3,cP:=⟨s,(z,A),⟨c1,p,q,r,c5⟩⟩} (.slice dl 0 0) (jm _ _) c);obtain⟨D,d⟩:=aK ((G.n i).b);rw[<-d]at a h2;unfold ptr bP aS dK.zero cF.zero bk.zero at a;dsimp only[List.cons_append,List.nil_append]at a;have Q:=ej h1 0 rfl;have n0:=ej h2 0 rfl;have E:=ej h3 1 rfl;have J:=ej h3 5 rfl;have K:=ej h3 6 rfl;have L:=ej h3 7 rfl;have N:=ej h3 8 rfl;have O:=ej h3 9 rfl;have F:=ej h3 10 rfl;have H:=ej h3 11 rfl;have I:=ej h3 12 rfl;clear h d c h1 h2 h3;unfold ptr;go_enter func104,ntmps104
 go_wp2_with (go_at_call 84;refine a.o.m ?_;rintro e y ⟨x,C,rfl,hr,f⟩;have n:=ae (show aW hH W b G i _ y from⟨x,_,hr,λ_=>rfl,f.m (λt v=>by rcases v with rfl|rfl<;>decide)⟩);clear hr f)
 refine jH rfl rfl ⟨rfl,?_⟩;exact n.o
section
variable{hH:bI}{W:ax}{wb i:Nat}{G:Gh}{M:aT}
theorem dB.lf(h:dB hH W wb G M)(hi:i<5)(hp:(M.nd i).cI=dl):(G.n i).lO= .nilFunc:=by
 have:=(h.nd i hi).pt.lO;unfold eO at this;rw[hp]at this;exact this
theorem eO.nil{hH:bI}{W:ax}{wb i:Nat}{g:GN}{n:dZ}(hp:n.cI=dl)(hg:g.lO= .nilFunc):eO hH W wb i g n:=by
 unfold eO;rw[hp];exact hg
theorem dB.Gp(h:dB hH W wb G M)(hi:i<5)(hp:(M.nd i).cI=dl)(p:Int×Int)(l:List cF)(a:bd)(hv:dG hH W a l):aW hH W wb G i (M.aX i {M.nd i with p:=p,l:=l}) (W.setCells (G.n i).b 4 [p.1,p.2,a]):=by
 have hq:=(h.nd i hi).pt;exact h.jc hi (cG.refl hH W (λ_=>False)) (λt b=>b.elim) (λ_ _=>rfl) {G.n i with gO:=a} {M.nd i with p:=p,l:=l} rfl
  ⟨hq.kl,hq.kn,hq.tk,hq.mg,hv,hq.log,hq.ja,hq.mO,hq.jq,hq.rg,eO.nil hp (h.lf hi hp)⟩ 4 [p.1,p.2,a] rfl
theorem dB.FK(h:dB hH W wb G M)(hi:i<5)(D:List UInt8)(a:Int)(dv:bd)(hv:AL hH W dv D):aW hH W wb G i (M.aX i {M.nd i with D:=D,iZ:=a}) (W.setCells (G.n i).b 2 [dv,a]):=by
 have hq:=(h.nd i hi).pt;exact h.jc hi (cG.refl hH W (λ_=>False)) (λt b=>b.elim) (λ_ _=>rfl) {G.n i with mg:=dv} {M.nd i with D:=D,iZ:=a} rfl
  ⟨hq.kl,hq.kn,hq.tk,hv,hq.gO,hq.log,hq.ja,hq.mO,hq.jq,hq.rg,hq.lO⟩ 2 [dv,a] rfl
theorem dB.Bk(h:dB hH W wb G M)(hi:i<5)(q:Option Ds)(pv:bd)(hv:eO hH W wb i {G.n i with lO:=pv} {M.nd i with cI:=q}):aW hH W wb G i (M.aX i {M.nd i with cI:=q}) (W.setCell ((G.n i).b,55) pv):=by
 have hq:=(h.nd i hi).pt;exact h.jc hi (cG.refl hH W (λ_=>False)) (λt a=>a.elim) (λ_ _=>rfl) {G.n i with lO:=pv} {M.nd i with cI:=q} rfl
  ⟨hq.kl,hq.kn,hq.tk,hq.mg,hq.gO,hq.log,hq.ja,hq.mO,hq.jq,hq.rg,hv⟩ 55 [pv] (eY (i:=i) (g:=G.n i) (n:=M.nd i) (h.nd i hi).pt.kl {G.n i with lO:=pv} {M.nd i with cI:=q} rfl rfl 3 [pv] rfl)
theorem aW.box{hH:bI}{W a:ax}{wb i j:Nat}{G:Gh}{M:aT}(h:aW hH W wb G i M a){b:Nat}{o:Obj}(hb:W.heap[b]?=de o)(h6:(hH b).1=6):a.heap[b]?=de o:=by
 obtain⟨d,c,h1,h2,h3⟩:=h;exact h3.at hb (by rw[h6];decide)
end
theorem Ec{hH:bI}{W:ax}{wb i:Nat}{G:Gh}{M:aT}(h:dB hH W wb G M)(hi:i<5)(hp:(M.nd i).cI=dl)(K:M.cz.length<1000000000000){b c o v n u:Nat}(l:dK)(N s B:bd)(r q:List cF)(p:Int×Int)
  (h0:ki hH W b 76 [p.1,p.2,B])(k:dG hH W B q)(h1:ki hH W v 62 [ptr wb])(h2:ki hH W c 69 [ptr (G.n i).b])(h3:ki hH W n 111 (bP l N))(h4:ki hH W u 74 [s])(hv:dG hH W s r)
  (h5:ki hH W o 1 [.func (.func 99) #[] #[ptr v,ptr c,ptr n,ptr u]]):
  bl ed 101 #[ptr b,ptr c,ptr o] W λe W'=>e= .returned (.tuple #[])/\aW hH W wb G i ((M.aX i {M.nd i with p:=p,l:=q}).send i l.nK {dK.zero with kind:=1,bG:=l.bG,aV:=r}) W':=by
 obtain⟨Q,S,R,rfl⟩:=k.1.shape;have g:=h.Gp hi hp p q _ k;obtain⟨d,m⟩:=aK ((G.n i).b);have a:=(h.nd i hi).dM;rw[<-m]at g a h2;have F:(aN i (G.n i) (M.nd i))[4]?=(M.nd i).p.1:=rfl;have c5:(aN i (G.n i) (M.nd i))[5]?=(M.nd i).p.2:=rfl;have H:(aN i (G.n i) (M.nd i))[6]?=de (G.n i).gO:=rfl;have f4:=(aR a 4).t F;have f5:=(aR a 5).t c5;have f6:=(aR a 6).t H;have ff:=aO a;obtain⟨O,P⟩:=p;have a0:W.cell? (b,0)=O:=ej h0.1 0 rfl;have a1:W.cell? (b,1)=P:=ej h0.1 1 rfl;have a2:W.cell? (b,2)=de (.slice Q S R):=ej h0.1 2 rfl;have n0:W.cell? (c,0)=(d,0):=ej h2.1 0 rfl;have HT:=ae g;have H1:=ae h1;have w:=ae h2;have x:=ae h3;have y:=ae h4;have z:=ae h5;have HV:=ae hv;have X:=ae K;have Z:=ae m;clear h g h0 h1 h2 h3 h4 h5 hv K m a k F c5 H hp;unfold ptr;go_enter func101,ntmps101
 go_upto_region 1 with fail
 generalize J:World.setCell _ _ _=T;obtain⟨a5,U,hr,f,hx⟩:=HT.o;rw[show W.setCells d 4 [O,P,.slice Q S R]=T from J]at hr hx;have b1:=hx.at H1.o.1 (by rw[H1.o.2];decide);have b2:=hx.at w.o.1 (by rw[w.o.2];decide);have C:=hx.at x.o.1 (by rw[x.o.2];decide);have D:=hx.at y.o.1 (by rw[y.o.2];decide);have E:=hx.at z.o.1 (by rw[z.o.2];decide);have v2:=HV.o.cB hx (λt L e=>by have L:t.1<6:=L;omega);have I:d=(U.n i).b:=by rw[Z.o,f]
 rw[I]at b2;have A:=ae (wG hr hi X.o l N s r b1 b2 C D v2);unfold ptr at A;have s0:T.cell? (o,0)=de (.func (.func 99) #[] #[(v,0),(c,0),(n,0),(u,0)]):=ej E 0 rfl;have HX:=ae hx;have Y:=ae f;clear hr f hx b1 b2 C D E v2 I J f4 f5 f6 ff a0 a1 a2 n0;go_wp2_with (go_at_call 99;refine A.o.m ?_;rintro e w3 ⟨rfl,a4,V,k1,k2,k3⟩;have a3:=ae (show aW hH W wb G i _ w3 from⟨a4,V,k1,λj=>(k2 j).t (Y.o j),HX.o.t k3⟩);clear k1 k2 k3)
 refine jH rfl rfl ⟨rfl,?_⟩;exact a3.o
theorem It{hH:bI}{W:ax}{wb i:Nat}{G:Gh}{M:aT}(h:dB hH W wb G M)(hi:i<5)(hp:(M.nd i).cI=dl)(D:M.cz.length<1000000000000){b c o r n:Nat}(l:dK)(E w:bd)(q:List cF)(p:Int×Int)
  (h0:ki hH W b 76 [p.1,p.2,w])(k:dG hH W w q)(h1:ki hH W r 62 [ptr wb])(h2:ki hH W c 69 [ptr (G.n i).b])(h3:ki hH W n 111 (bP l E))
  (h5:ki hH W o 1 [.func (.func 104) #[] #[ptr r,ptr c,ptr n]]):
  bl ed 107 #[ptr b,ptr c,ptr o] W λe V=>e= .returned (.tuple #[])/\aW hH W wb G i ((M.aX i {M.nd i with p:=p,l:=q}).send i l.nK {dK.zero with kind:=3,cP:=l.cP}) V:=by
 obtain⟨I,K,J,rfl⟩:=k.1.shape;have g:=h.Gp hi hp p q _ k;obtain⟨d,m⟩:=aK ((G.n i).b);have a:=(h.nd i hi).dM;rw[<-m]at g a h2;have z:(aN i (G.n i) (M.nd i))[4]?=(M.nd i).p.1:=rfl;have c5:(aN i (G.n i) (M.nd i))[5]?=(M.nd i).p.2:=rfl;have A:(aN i (G.n i) (M.nd i))[6]?=de (G.n i).gO:=rfl;have f4:=(aR a 4).t z;have f5:=(aR a 5).t c5;have f6:=(aR a 6).t A;have X:=aO a;obtain⟨F,H⟩:=p;have a0:W.cell? (b,0)=F:=ej h0.1 0 rfl;have a1:W.cell? (b,1)=H:=ej h0.1 1 rfl;have a2:W.cell? (b,2)=de (.slice I K J):=ej h0.1 2 rfl;have n0:W.cell? (c,0)=(d,0):=ej h2.1 0 rfl;have S:=ae g;have H1:=ae h1;have s:=ae h2;have t:=ae h3;have u:=ae h5;have P:=ae D;have R:=ae m;clear h g h0 h1 h2 h3 h5 D m a k z c5 A hp;unfold ptr;go_enter func107,ntmps107
 go_upto_region 1 with fail
 generalize C:World.setCell _ _ _=L;obtain⟨Z,N,hr,f,hx⟩:=S.o;rw[show W.setCells d 4 [F,H,.slice I K J]=L from C]at hr hx;have b1:=hx.at H1.o.1 (by rw[H1.o.2];decide);have b2:=hx.at s.o.1 (by rw[s.o.2];decide);have x:=hx.at t.o.1 (by rw[t.o.2];decide);have y:=hx.at u.o.1 (by rw[u.o.2];decide);have B:d=(N.n i).b:=by rw[R.o,f]
 rw[B]at b2;have v:=ae (Aq hr hi P.o l E b1 b2 x);unfold ptr at v;have s0:L.cell? (o,0)=de (.func (.func 104) #[] #[(r,0),(c,0),(n,0)]):=ej y 0 rfl;have U:=ae hx;have Q:=ae f;clear hr f hx b1 b2 x y B C f4 f5 f6 X a0 a1 a2 n0;go_wp2_with (go_at_call 104;refine v.o.m ?_;rintro e w3 ⟨rfl,Y,O,k1,k2,k3⟩;have T:=ae (show aW hH W wb G i _ w3 from⟨Y,O,k1,λj=>(k2 j).t (Q.o j),U.o.t k3⟩);clear k1 k2 k3)
 refine jH rfl rfl ⟨rfl,?_⟩;exact T.o
theorem zA{y:cF}(h:jJ y=dE):vO y:=by
 obtain⟨h1,h2,h3,h4⟩:=eV h;obtain⟨i1,i2⟩:=oW (b1:=y.bG.1) (b2:=y.bG.2) h3;rcases oN h4 with e|e
 ·exact⟨by unfold mD;omega,i1,i2,by rw[e];unfold mD;decide,by rw[e];unfold mD;decide,by rw[e];unfold mD;decide,by rw[e];unfold mD;decide,by rw[e];unfold mD;decide⟩
 ·have:=e.k1;have:=e.k3;have:=e.c0;have:=e.c7;have:=e.s0;have:=e.s1;have:=e.n0;have:=e.n7;have:=e.v0;have:=e.v1;exact⟨by unfold mD;omega,i1,i2,by unfold mD;omega,by unfold mD;omega,by unfold mD;omega,by unfold mD;omega,by unfold mD;omega⟩
theorem Fc{hH:bI}{W:ax}{wb i:Nat}{G:Gh}{M:aT}(h:dB hH W wb G M)(hi:i<5)(hp:(M.nd i).cI=dl)(f6:kf (M.nd i).p (M.nd i).l=dE)(l:dK)(la:Option Addr)(ln lc:Nat)(k0:jJ l.cP=dE)(hf:M.cz.length<1000000000000)(i3:0<=(M.nd i).iZ)(i4:(M.nd i).iZ<=(M.nd i).D.length)(hD:(M.nd i).D.length<=100000):
  bl ed 77 #[ptr wb,ptr (G.n i).b,.agg (bP l (.slice la ln lc)).toArray] W λe W'=>e= .returned (.tuple #[])/\aW hH W wb G i (M.asked i l) W':=by
 obtain⟨lk,L,ds,⟨b1,b2⟩,⟨s,⟨d,f⟩,⟨c1,g,k,n,c5⟩⟩,vo⟩:=l;obtain⟨MF,h7⟩:=aK (M.asked i ⟨lk,L,ds,(b1,b2),⟨s,(d,f),⟨c1,g,k,n,c5⟩⟩,vo⟩);rw[<-h7];obtain⟨p,i1⟩:=aK ((G.n i).b);have f0:=(h.nd i hi).dM;rw[<-i1]at f0|-;obtain⟨E,F,b9⟩:∃E F,(M.nd i).p=(E,F):=⟨_,_,rfl⟩
 have f9:=(h.nd i hi).pt.gO;obtain⟨va,vc,d1,-,-⟩:=id f9.1.1;obtain⟨vn,i5⟩:=aK ((M.nd i).l.length);rw[<-i5]at d1;rw[d1]at f9;rw[b9]at f6;show bl ed 77 #[.pointer (de ⟨wb,0,dl⟩),.pointer (de ⟨p,0,dl⟩),.agg #[.int .i64 lk,.int .i64 L,.int .i64 ds,.int .i64 b1,.int .i64 b2,.int .i64 s,.int .i64 d,.int .i64 f,.int .i64 c1,.int .i64 g,.int .i64 k,.int .i64 n,.int .i64 c5,.slice la ln lc]] W _;have q4:(aN i (G.n i) (M.nd i))[4]?=E:=by show de (Value.int .i64 (M.nd i).p.1)=_;rw[b9]
 have q5:(aN i (G.n i) (M.nd i))[5]?=F:=by show de (Value.int .i64 (M.nd i).p.2)=_;rw[b9]
 have q6:(aN i (G.n i) (M.nd i))[6]?=de (.slice va vn vc):=by show de (G.n i).gO=_;rw[d1]
 have f2:=(h.nd i hi).pt.mg;obtain⟨da,dc,f1,-,-⟩:=id f2.1.slice;obtain⟨dn,i0⟩:=aK ((M.nd i).D.length);rw[<-i0]at f1;rw[f1]at f2;obtain⟨sy,f8⟩:=aK ((M.nd i).iZ);have q2:(aN i (G.n i) (M.nd i))[2]?=de (.slice da dn dc):=by show de (G.n i).mg=_;rw[f1]
 have q3:(aN i (G.n i) (M.nd i))[3]?=sy:=by rw[f8];rfl
 have k8:=h.lf hi hp;have i7:(aN i (G.n i) (M.nd i))[55]?=de .nilFunc:=(dj (h.nd i hi).pt.kl 3).t (by show de (G.n i).lO=_;rw[k8]);have l4:=ae f2;have m1:=ae f8;have o8:=ae i0;rw[<-f8]at i3 i4;obtain⟨CL,h4⟩:=aK (aN i (G.n i) (M.nd i));rw[<-h4]at f0 q4 q5 q6 q2 q3 i7;have V2:=ae q2;have V3:=ae q3;have p1:=ae i7;clear q2 q3 i7 f2 f1 i0 f8 k8;have d7:=ae h7;have d6:=ae i1;have i8:=ae f0;have o7:=ae h4;have d9:=ae b9;have m5:=ae f9;have o9:=ae i5;have p0:=ae d1;have g8:=ae f6;have V4:=ae q4;have V5:=ae q5;have V6:=ae q6;have HR:=ae h;have HP:=ae hp;have d5:=ae k0;have HF:=ae hf;have l9:=ae i3;have m0:=ae i4;have HD:=ae hD;have i9:=ae (show(M.nd i).l.length<=1000 by have h1:=f6;rw[<-b9]at h1;exact qA h1);clear h h7 i1 f0 h4 b9 f9 i5 d1 f6 q4 q5 q6 hp k0 hf i3 i4 hD;go_enter func77,ntmps77
 go_upto_region 1 with fail
 generalize V:World.alloc _ _=w4;obtain⟨xw,xn,xl,c7,-⟩:=pg V;obtain⟨A,f3⟩:=aK (W.heap.size+1+1);obtain⟨C,f5⟩:=aK (W.heap.size+1);obtain⟨K,g0⟩:=aK W.heap.size;have m6:=ae (show K=W.heap.size/\C=W.heap.size+1/\A=W.heap.size+1+1 from⟨g0,f5,f3⟩);rw[<-g0]at xw;rw[<-f5]at xn;rw[<-f3]at xl;rw[<-f3,<-f5,<-g0];have XW:=ae xw;have XN:=ae xn;have XL:=ae xl;have B4:=ae c7;have R4:=ae (HR.o.below c7);have J:=ae ((c7.block p (hF i8.o)).t i8.o);have Q4:=ae ((aR J.o 4).t V4.o);have Q5:=ae ((aR J.o 5).t V5.o);have Q6:=ae ((aR J.o 6).t V6.o);have e4:=ae (m5.o.cB (cG.below (T:=λ_=>False) c7) (λ_ h=>h.elim));have O6:=ae (show∀q,W.heap.size<=q->(hH q).1=6 from HR.o.hi);clear V xw xn xl c7 g0 f5 f3;have j7:=ae (zA d5.o);have j6:=ae (show∀v∈(M.nd i).l,vO v from λv hv=>zA ((qB.1 g8.o).2.1 v hv).1);by_cases d0:dX (d,f) (E,F)<0
 ·have a7:=ae (show MF=M.send i L {dK.zero with kind:=7,bG:=(E,F)} by rw[d7.o];unfold aT.asked;rw[d9.o,if_pos d0]);have l8:=ae (λr (hb:dd w4.heap.size w4 r)=>Cz E F s d f c1 g k n c5 (.slice va vn vc) (M.nd i).l r (e4.o.1.stay hb) g8.o d5.o i9.o (ae d0));clear d0;go_upto_region 1 with fail
  refine bh (by kernel_rfl) (λw5 hb5=>?_);have H:=ae hb5;clear hb5;refine iH [RK.val (p,0),.val (p,0),.val (p,4),.val (.agg #[E,F,.slice va vn vc]),.val (A,5),.val (.agg #[s,d,f,c1,g,k,n,c5]),.val (.tuple #[.agg #[(0:Int),(0:Int),.slice dl 0 0],(7:Int)]),.val (.tuple #[.agg #[(0:Int),(0:Int),.slice dl 0 0],(7:Int)]),.val (.agg #[(0:Int),(0:Int),.slice dl 0 0]),.val (7:Int),.new 76 #[(0:Int),(0:Int),.slice dl 0 0],.put 10 76 8 #[(0:Int),(0:Int),.slice dl 0 0],.val (7:Int)] [11,12,13,14,15,16,17,10,18,19,6,0,7] (by kernel_rfl) (λr hb=>?_) (λz bs I=>?_)
  ·have c:=H.o.t (hb.m H.o.size);refine jh (cA c XN 0 rfl) (by kernel_rfl) ?_;iterate 2 refine .run (by kernel_rfl) ?_
   refine mf ⟨cZ c (hF J.o) Q4.o,cZ c (hF J.o) Q5.o,cZ c (hF J.o) Q6.o,⟨⟩⟩ (by kernel_rfl) ?_;refine .run (by kernel_rfl) ?_;refine mf (nR c XL 5 rfl) (by kernel_rfl) ?_;refine .call (by kernel_rfl) (l8.o r c) ?_;iterate 3 refine .run (by kernel_rfl) ?_
   refine .new (λ_ _=>rfl) ?_;refine tW rfl rfl rfl (by kernel_rfl) ?_;refine .run (by kernel_rfl) ?_;exact .nil
  simp only[eS,Act.put,aq,aF,aG];have x:=ae (H.o.t (I.below.m H.o.size));have a5:=(I.put 11 _ _ _ _ (show 11<13 by decide) rfl rfl).2;have a4:=aE H.o.size (I.new 10 _ _ (show 10<13 by decide) rfl rfl).1;clear I;generalize bs 10=d2 at*;have O:=ae a5;have b7:=ae a4;clear a5 a4;have n4:=ae ((x.o.block K (hF XW.o)).t XW.o);have j8:=ae ((x.o.block C (hF XN.o)).t XN.o);have m9:=ae ((x.o.block A (hF XL.o)).t XL.o);have d8:=ae ((x.o.block p (hF J.o)).t J.o);have R6:=ae (R4.o.below x.o);have B6:=ae (B4.o.t (x.o.m B4.o.size));have g9:=ae (λr (hb:dd z.heap.size z r)=>jN (R6.o.below hb) hi L {dK.zero with kind:=7,bG:=(E,F)} (.slice dl 0 0) (jm _ _) HF.o);rw[<-d6.o]at g9;unfold ptr at g9;clear O b7;go_upto_region 3 with fail
  refine bh (by kernel_rfl) (λw7 Y=>?_);have d4:=ae Y;clear Y;refine dN [RK.val (wb,0),.val (p,0),.val (A,1),.val L,.val (p,0),.val (p,0),.val (p,4),.val (p,4),.val (.agg #[E,F]),.val (.agg #[(7:Int),(0:Int),(0:Int),E,F,(0:Int),(0:Int),(0:Int),(0:Int),(0:Int),(0:Int),(0:Int),(0:Int),.slice dl 0 0])] [22,23,24,25,26,27,28,29,30,31] (by kernel_rfl) (λr hb=>?_) (λr hb=>?_)
  ·have c:=d4.o.t (hb.m d4.o.size);refine jh (cA c n4 0 rfl) (by kernel_rfl) ?_;refine jh (cA c j8 0 rfl) (by kernel_rfl) ?_;refine .run (by kernel_rfl) ?_;refine jh (cA c m9 1 rfl) (by kernel_rfl) ?_;refine jh (cA c j8 0 rfl) (by kernel_rfl) ?_;iterate 3 refine .run (by kernel_rfl) ?_
   refine mf ⟨cZ c (hF d8.o) ((aR d8.o 4).t V4.o),cZ c (hF d8.o) ((aR d8.o 5).t V5.o),⟨⟩⟩ (by kernel_rfl) ?_;refine .run (by kernel_rfl) ?_;exact .nil
  have c:=d4.o.t (hb.m d4.o.size);refine mK rfl rfl (by kernel_rfl) ((g9.o r c).m λe w8 Z=>?_);obtain⟨o5,p2,rfl,k9,k5⟩:=Z;refine⟨_,rfl,?_⟩;have m2:=ae (show aW hH W wb G i _ w8 from⟨o5,_,k9,λ_=>rfl,(cG.below (T:=λt=>t.1<6) (B6.o.t (c.m B6.o.size))).t (k5.m (λt y=>by rcases y with rfl|rfl<;>decide))⟩);clear k9 k5 c hb;simp only[eS,Act.put,aq,aF,aG];go_wp2_with fail
  first|refine mh rfl rfl ⟨rfl,?_⟩|refine jH rfl rfl ⟨rfl,?_⟩
  rw[a7.o];exact m2.o
 ·have k4:0<=dX (d,f) (E,F):=by omega
  have l7:=ae (λr (hb:dd w4.heap.size w4 r)=>by
   have h1:=sH E F s d f c1 g k n c5 (.slice va vn vc) (M.nd i).l r (e4.o.1.stay hb) g8.o d5.o i9.o (ae k4);exact h1)
  have g7:=ae d0;clear k4 d0;go_upto_region 1 with fail
  refine bh (by kernel_rfl) (λw5 hb5=>?_);have H:=ae hb5;clear hb5;refine ig (X:=Option Addr×Nat×Nat) (dl,0,0) (λa=>[RK.val (p,0),.val (p,0),.val (p,4),.val (.agg #[E,F,.slice va vn vc]),.val (A,5),.val (.agg #[s,d,f,c1,g,k,n,c5]),.val (.tuple #[.agg #[d,f,.slice a.1 a.2.1 a.2.2],(0:Int)]),.val (.tuple #[.agg #[d,f,.slice a.1 a.2.1 a.2.2],(0:Int)]),.val (.agg #[d,f,.slice a.1 a.2.1 a.2.2]),.val (0:Int),.new 76 #[(0:Int),(0:Int),.slice dl 0 0],.put 10 76 8 #[d,f,.slice a.1 a.2.1 a.2.2],.val (0:Int)]) 6 (λa w=>fz w (.slice a.1 a.2.1 a.2.2) (mA ⟨s,(d,f),⟨c1,g,k,n,c5⟩⟩ (M.nd i).l)) (λa q=>(Value.slice a.1 a.2.1 a.2.2).ownBlock=de q) [11,12,13,14,15,16,17,10,18,19,6,0,7] (λ_=>by kernel_rfl) (λ_ _=>by repeat first|exact .nil|refine .same ?_|refine .AK (by kernel_rfl) ?_) (λa r hb=>?_) (λa r hb=>?_) ?_ ?_ (λa z bs I b4 b6 i2=>?_)
  ·have c:=H.o.t (hb.m H.o.size);refine jh (cA c XN 0 rfl) (by kernel_rfl) ?_;iterate 2 refine .run (by kernel_rfl) ?_
   refine mf ⟨cZ c (hF J.o) Q4.o,cZ c (hF J.o) Q5.o,cZ c (hF J.o) Q6.o,⟨⟩⟩ (by kernel_rfl) ?_;refine .run (by kernel_rfl) ?_;refine mf (nR c XL 5 rfl) (by kernel_rfl) ?_;refine .skip ?_;iterate 3 refine .run (by kernel_rfl) ?_
   refine .new (λ_ _=>rfl) ?_;refine tW rfl rfl rfl (by kernel_rfl) ?_;refine .run (by kernel_rfl) ?_;exact .nil
  ·have c:=H.o.t (hb.m H.o.size);refine⟨_,_,by kernel_rfl,(l7.o r c).m λe w8 Z=>?_⟩;obtain⟨a1,k1,n1,p3,rfl,k6,h9⟩:=Z;exact⟨(a1,n1,k1),_,rfl,rfl,h9,k6.aV,λq hq=>lV k6 q hq⟩
  ·exact λa w w1 hP hb=>hP.stay hb
  ·exact λa w b cs hP hu=>jB hP (λ_ q hq _=>eg (λe=>hu (by rw[<-e];exact hq)) _ _ _)
  simp only[eS,Act.put,aq,aF,aG];have x:=ae (H.o.t (I.below.m H.o.size));have a5:=(I.put 11 _ _ _ _ (show 11<13 by decide) rfl rfl).2;have a4:=aE H.o.size (I.new 10 _ _ (show 10<13 by decide) rfl rfl).1;clear I;generalize bs 10=d2 at*;have O:=ae a5;have b7:=ae a4;clear a5 a4;obtain⟨a1,n1,k1⟩:=a;dsimp only at b4 b6 O|-;have R6:=ae (R4.o.below x.o);have B6:=ae (B4.o.t (x.o.m B4.o.size));have j4:=ae (show dG hH z (.slice a1 n1 k1) (mA ⟨s,(d,f),⟨c1,g,k,n,c5⟩⟩ (M.nd i).l)from⟨b4,λ_ q hq=>O6.o q (aE (B4.o.size) (aE H.o.size (b6 q hq).1))⟩);obtain⟨a6,o0⟩:=aK d2;subst o0;have OA:=ae (O6.o a6 (aE B4.o.size b7.o));clear b4 b6 i2 b7;go_upto_region 4 with fail
  have l0:=kL (P:=ed) (w:=z.alloc (.cells #[.nilFunc] 1)) (b:=z.heap.size) (o:=0) (.func 104) #[(K,0),(C,0),(A,0)] (u:= .nilFunc) (show(z.alloc (.cells #[.nilFunc] 1)).cell? (z.heap.size,0)=de .nilFunc from ej (aL z (.cells #[.nilFunc] 1)) 0 rfl) (aO (aL z (.cells #[.nilFunc] 1)) 0);go_upto_region 5 with fail
  generalize V:World.alloc _ _=w7;have Y:=gv V;obtain⟨sx,f7⟩:=aK z.heap.size;have l3:w7.heap[sx]?=de (.cells #[.func (.func 104) #[] #[(K,0),(C,0),(A,0)]] 1 (0,0)):=by rw[<-V,f7];exact aL z _
  rw[<-f7];have c3:=ae l3;have OS:=ae (O6.o sx (by rw[f7];exact B6.o.size));have R7:=ae (R6.o.below Y);have B7:=ae (B6.o.t (Y.m B6.o.size));have n6:=B7;have R:=ae (x.o.t (Y.m x.o.size));have c4:=ae ((R.o.block K (hF XW.o)).t XW.o);have b3:=ae ((R.o.block C (hF XN.o)).t XN.o);have b0:=ae ((R.o.block A (hF XL.o)).t XL.o);have a9:=ae ((R.o.block p (hF J.o)).t J.o);have h2:=ae ((Y.block a6 (hF O.o)).t O.o);have j5:=ae (j4.o.cB (cG.below (T:=λ_=>False) Y) (λ_ h=>h.elim));clear V Y f7 l3 n6 l0 O j4;by_cases b8:(⟨s,(d,f),⟨c1,g,k,n,c5⟩⟩:cF)∈(M.nd i).l
  ·have g5:=ae (fG b8);have g3:=ae (λr (hb:dd w4.heap.size w4 r)=>by
    have h1:=zS (.slice va vn vc) (M.nd i).l ⟨s,(d,f),⟨c1,g,k,n,c5⟩⟩ r (e4.o.1.stay hb).1 j6.o j7.o;rw[g5.o]at h1;exact h1)
   have a7:=ae (show MF=M.send i L {dK.zero with kind:=3,cP:=⟨s,(d,f),⟨c1,g,k,n,c5⟩⟩} by rw[d7.o];unfold aT.asked;rw[d9.o,if_neg (show¬dX (d,f) (E,F)<0 by have:=g7.o;omega),if_pos b8]);clear b8;go_upto_region 5 with fail
   refine bh (by kernel_rfl) (λw8 c9=>?_);have N:=ae c9;clear c9;refine dN [RK.val (p,0),.val (p,0),.val (p,4),.val (p,6),.val (.slice va vn vc),.val (A,5),.val (.agg #[s,d,f,c1,g,k,n,c5])] [34,35,36,37,38,39,40] (by kernel_rfl) (λr hb=>?_) (λr hb=>?_)
   ·have c:=N.o.t (hb.m N.o.size);refine jh (cA c b3 0 rfl) (by kernel_rfl) ?_;iterate 3 refine .run (by kernel_rfl) ?_
    refine jh (cZ c (hF a9.o) ((aR a9.o 6).t V6.o)) (by kernel_rfl) ?_;refine .run (by kernel_rfl) ?_;refine mf (nR c b0 5 rfl) (by kernel_rfl) ?_;exact .nil
   have c:=N.o.t (hb.m N.o.size);refine mK rfl rfl (by kernel_rfl) ((g3.o r (R.o.t (c.m R.o.size))).m λe wK Z=>?_);obtain⟨rfl,c6⟩:=Z;refine⟨_,rfl,?_⟩;have B:=ae (c.t (c6.m c.size));clear c hb c6;simp only[eS,Act.put,aq,aF,aG];have P9:=ae (Aq (R7.o.below B.o) hi HF.o ⟨lk,L,ds,(b1,b2),⟨s,(d,f),⟨c1,g,k,n,c5⟩⟩,vo⟩ (.slice la ln lc) ((B.o.block K (hF c4.o)).t c4.o) (by rw[<-d6.o];exact(B.o.block C (hF b3.o)).t b3.o) ((B.o.block A (hF b0.o)).t b0.o));unfold ptr at P9;have s0:=cZ B.o (hF c3.o) (ej c3.o 0 rfl);have Q:=ae (B7.o.t (B.o.m B7.o.size));go_wp2_with (go_at_call 104;refine P9.o.m ?_;rintro e wA ⟨rfl,o4,G3,k1,l1,k3⟩;have m3:=ae (show aW hH W wb G i _ wA from⟨o4,G3,k1,l1,(cG.below (T:=λt=>t.1<6) Q.o).t k3⟩);clear k1 l1 k3)
   first|refine mh rfl rfl ⟨rfl,?_⟩|refine jH rfl rfl ⟨rfl,?_⟩
   rw[a7.o];exact m3.o
  ·have g5:=ae (gE b8);have g3:=ae (λr (hb:dd w4.heap.size w4 r)=>by
    have h1:=zS (.slice va vn vc) (M.nd i).l ⟨s,(d,f),⟨c1,g,k,n,c5⟩⟩ r (e4.o.1.stay hb).1 j6.o j7.o;rw[g5.o]at h1;exact h1)
   have j0:=ae b8;clear b8;go_upto_region 5 with fail
   refine bh (by kernel_rfl) (λw8 c9=>?_);have N:=ae c9;clear c9;refine dN [RK.val (p,0),.val (p,0),.val (p,4),.val (p,6),.val (.slice va vn vc),.val (A,5),.val (.agg #[s,d,f,c1,g,k,n,c5])] [34,35,36,37,38,39,40] (by kernel_rfl) (λr hb=>?_) (λr hb=>?_)
   ·have c:=N.o.t (hb.m N.o.size);refine jh (cA c b3 0 rfl) (by kernel_rfl) ?_;iterate 3 refine .run (by kernel_rfl) ?_
    refine jh (cZ c (hF a9.o) ((aR a9.o 6).t V6.o)) (by kernel_rfl) ?_;refine .run (by kernel_rfl) ?_;refine mf (nR c b0 5 rfl) (by kernel_rfl) ?_;exact .nil
   have c:=N.o.t (hb.m N.o.size);refine mK rfl rfl (by kernel_rfl) ((g3.o r (R.o.t (c.m R.o.size))).m λe wK Z=>?_);obtain⟨rfl,c6⟩:=Z;refine⟨_,rfl,?_⟩;have B:=ae (c.t (c6.m c.size));clear c hb c6;simp only[eS,Act.put,aq,aF,aG];have R9:=ae (R7.o.below B.o);have Q:=ae (B7.o.t (B.o.m B7.o.size));have e7:=ae ((B.o.block K (hF c4.o)).t c4.o);have c2:=ae ((B.o.block C (hF b3.o)).t b3.o);have c0:=ae ((B.o.block A (hF b0.o)).t b0.o);have e5:=ae ((B.o.block a6 (hF h2.o)).t h2.o);have e6:=ae ((B.o.block sx (hF c3.o)).t c3.o);have a3:=ae ((B.o.block p (hF a9.o)).t a9.o);have h0:=ae (j5.o.cB (cG.below (T:=λ_=>False) B.o) (λ_ h=>h.elim));have g4:=ae (l4.o.cB (cG.below (T:=λ_=>False) Q.o) (λ_ h=>h.elim));clear c4 b3 b0 h2 c3 a9 j5 R7 B B7 N R;obtain⟨l2,i6⟩:=aK wK;rw[<-i6]at R9 Q e7 c2 c0 e5 e6 a3 h0 g4;rw[<-i6];clear i6;obtain⟨L9,h6⟩:=aK (IV (M.nd i).D (Tp.sV s d f c1 g k n c5));obtain⟨S9,h8⟩:=aK (IU (M.nd i).D (Tp.sV s d f c1 g k n c5) sy);obtain⟨C9,h3⟩:=aK (IW (M.nd i).D (Tp.sV s d f c1 g k n c5));have e0:=ae (And.intro h6 (And.intro h8 h3));go_upto_region 7 with fail
   refine bh (by kernel_rfl) (λw5 hb5=>?_);have a2:=ae hb5;clear hb5;have j2:=ae (λwK (hb:dd l2.heap.size l2 wK)=>by
    have h:=DP (.slice da dn dc) (M.nd i).D sy s d f c1 g k n c5 wK (g4.o.1.stay hb) l9.o m0.o HD.o d5.o ((R9.o.below hb).kn.1);rw[<-h6,<-h8,<-h3]at h;exact h)
   clear h6 h8 h3;refine ig (X:=Option Addr×Nat×Nat) (dl,0,0) (λa=>[RK.val (p,0),.val (p,0),.val (p,2),.val (.agg #[.slice da dn dc,sy]),.val (A,5),.val (.agg #[s,d,f,c1,g,k,n,c5]),.val (.tuple #[.agg #[.slice a.1 a.2.1 a.2.2,S9],C9]),.val (.tuple #[.agg #[.slice a.1 a.2.1 a.2.2,S9],C9]),.val (.agg #[.slice a.1 a.2.1 a.2.2,S9]),.val C9,.new 71 #[.slice dl 0 0,(0:Int)],.put 10 71 8 #[.slice a.1 a.2.1 a.2.2,S9],.val C9]) 6 (λa w=>Rd w (.slice a.1 a.2.1 a.2.2) L9) (λa q=>(Value.slice a.1 a.2.1 a.2.2).ownBlock=de q) [45,46,47,48,49,50,51,44,52,53,9,0,7] (λ_=>by kernel_rfl) (λ_ _=>by repeat first|exact .nil|refine .same ?_|refine .AK (by kernel_rfl) ?_) (λa r hb=>?_) (λa r hb=>?_) ?_ ?_ (λa z bs I b4 b6 i2=>?_)
   ·have c:=a2.o.t (hb.m a2.o.size);refine jh (cA c c2 0 rfl) (by kernel_rfl) ?_;iterate 2 refine .run (by kernel_rfl) ?_
    refine mf ⟨cZ c (hF a3.o) ((aR a3.o 2).t V2.o),cZ c (hF a3.o) ((aR a3.o 3).t V3.o),⟨⟩⟩ (by kernel_rfl) ?_;refine .run (by kernel_rfl) ?_;refine mf (nR c c0 5 rfl) (by kernel_rfl) ?_;refine .skip ?_;iterate 3 refine .run (by kernel_rfl) ?_
    refine .new (λ_ _=>rfl) ?_;refine tW rfl rfl rfl (by kernel_rfl) ?_;refine .run (by kernel_rfl) ?_;exact .nil
   ·have c:=a2.o.t (hb.m a2.o.size);refine⟨_,_,by kernel_rfl,(j2.o r c).m λe w8 Z=>?_⟩;obtain⟨v8,rfl,ho,h9⟩:=Z;obtain⟨a8,c8,o2,-,-⟩:=id ho.rd.slice;rw[o2]at ho|-;exact⟨(a8,_,c8),_,rfl,rfl,h9,ho.rd,λq hq=>ho.lt q hq⟩
   ·exact λa w w1 hP hb=>hP.stay hb
   ·exact λa w b cs hP hu=>Rd.nT hP (λq hq _=>eg (λe=>hu (by rw[<-e];exact hq)) _ _ _)
   simp only[eS,Act.put,aq,aF,aG];have x:=ae (a2.o.t (I.below.m a2.o.size));have a5:=(I.put 11 _ _ _ _ (show 11<13 by decide) rfl rfl).2;have a4:=aE a2.o.size (I.new 10 _ _ (show 10<13 by decide) rfl rfl).1;clear I;generalize bs 10=d2 at*;have O:=ae a5;have b7:=ae a4;clear a5 a4;obtain⟨a8,n8,c8⟩:=a;dsimp only at b4 b6 O|-;by_cases k2:(M.nd i).D.length+38<=100000
   ·obtain⟨g1,g2,U⟩:=e0.o;have S:(M.nd i).D.length+(Tp.sV s d f c1 g k n c5).length+5<=100000:=by rw[sU];omega
    replace g1:=(g1.t (ar S)).symm;replace g2:=(g2.t (ar S)).symm;replace U:=(U.t (ar S)).symm;subst g1 g2 U;have a7:=ae (show MF=M.aX i {M.nd i with D:=(M.nd i).D++ME ⟨s,(d,f),⟨c1,g,k,n,c5⟩⟩,cI:=de ⟨2,(d,f),mA ⟨s,(d,f),⟨c1,g,k,n,c5⟩⟩ (M.nd i).l,L,(0,0),⟨s,(d,f),⟨c1,g,k,n,c5⟩⟩⟩} by
     rw[d7.o];unfold aT.asked;rw[d9.o,if_neg (show¬dX (d,f) (E,F)<0 by have:=g7.o;omega),if_neg (show¬(⟨s,(d,f),⟨c1,g,k,n,c5⟩⟩:cF)∈(M.nd i).l from j0.o),if_neg (by unfold dZ.full;rw[decide_eq_true_eq];omega)])
    clear k2 e0 S;have RA:=ae (R9.o.below x.o);have BA:=ae (Q.o.t (x.o.m Q.o.size));have m7:=ae (show AL hH z (.slice a8 n8 c8) ((M.nd i).D++Tp.frame (Tp.sV s d f c1 g k n c5))from⟨b4,λ_ q hq=>O6.o q (aE Q.o.size (aE a2.o.size (b6 q hq).1))⟩);have n5:=ae ((x.o.block K (hF e7.o)).t e7.o);have j9:=ae ((x.o.block C (hF c2.o)).t c2.o);have n2:=ae ((x.o.block A (hF c0.o)).t c0.o);have m8:=ae ((x.o.block a6 (hF e5.o)).t e5.o);have n3:=ae ((x.o.block sx (hF e6.o)).t e6.o);have f4:=(x.o.block p (hF a3.o)).t a3.o;have m4:=ae (h0.o.cB (cG.below (T:=λ_=>False) x.o) (λ_ h=>h.elim));have n0:z.cell? (C,0)=(p,0):=ej j9.o 0 rfl;have t0:z.cell? (d2,0)=de (.slice a8 n8 c8):=ej O.o 0 rfl;have t1:z.cell? (d2,1)=sy:=ej O.o 1 rfl;have g2:=(aR f4 2).t V2.o;have U:=(aR f4 3).t V3.o;have gf:=aO f4;have j3:=ae (RA.o.FK hi ((M.nd i).D++Tp.frame (Tp.sV s d f c1 g k n c5)) sy (.slice a8 n8 c8) m7.o);rw[<-d6.o]at j3;clear b4 b6 i2 b7 f4 e7 c2 c0 e5 e6 a3 h0 g4 j2;go_upto_region 10 with fail
    generalize V:World.setCell _ _ _=wB;obtain⟨d3,GB,b5,h5,a0⟩:=j3.o;rw[show z.setCells p 2 [.slice a8 n8 c8,sy]=wB from V]at b5 a0;obtain⟨MB,e8⟩:∃m,m=M.aX i {M.nd i with D:=(M.nd i).D++Tp.frame (Tp.sV s d f c1 g k n c5),iZ:=sy}:=⟨_,rfl⟩
    rw[<-e8]at b5;have RB:=ae b5;have g6:=ae (show p=(GB.n i).b by rw[d6.o,h5]);have l5:=ae h5;have XB:=ae a0;have l6:=ae e8;have OX:=ae (show(hH K).1=6/\(hH C).1=6/\(hH A).1=6 by
     obtain⟨e1,e2,e3⟩:=m6.o;refine⟨O6.o _ ?_,O6.o _ ?_,O6.o _ ?_⟩<;>omega)
    have bW:=ae (show ki d3 wB K 62 [ptr wb]from ki.cB ⟨n5.o,OX.o.1⟩ a0 (λt y e=>by have y:t.1<6:=y;omega));have bN:=ae (show ki d3 wB C 69 [ptr p]from ki.cB ⟨j9.o,OX.o.2.1⟩ a0 (λt y e=>by have y:t.1<6:=y;omega));have bL:=ae (show ki d3 wB A 111 (bP ⟨lk,L,ds,(b1,b2),⟨s,(d,f),⟨c1,g,k,n,c5⟩⟩,vo⟩ (.slice la ln lc))from ki.cB ⟨n2.o,OX.o.2.2⟩ a0 (λt y e=>by have y:t.1<6:=y;omega));have bA:=ae (show ki d3 wB a6 76 [d,f,.slice a1 n1 k1]from ki.cB ⟨m8.o,OA.o⟩ a0 (λt y e=>by have y:t.1<6:=y;omega));have bS:=ae (show ki d3 wB sx 1 [.func (.func 104) #[] #[ptr K,ptr C,ptr A]]from ki.cB ⟨n3.o,OS.o⟩ a0 (λt y e=>by have y:t.1<6:=y;omega));have vA:=ae (m4.o.cB a0 (λt y e=>by have y:t.1<6:=y;omega));have e9:=(b5.nd i hi).dM;rw[<-g6.o]at e9;have k7:(MB.nd i).cI=dl:=by rw[e8,bf];exact HP.o
    have f55:wB.cell? (p,55)=de .nilFunc:=(aR e9 55).t ((dj (b5.nd i hi).pt.kl 3).t (by show de (GB.n i).lO=_;rw[b5.lf hi k7]));have l0:=kL (P:=ed) (.func 107) #[(a6,0),(C,0),(sx,0)] f55 (aO e9 55);have n0:wB.cell? (C,0)=(p,0):=ej bN.o.1 0 rfl;have j1:=ae (RB.o.Bk hi (de ⟨2,(d,f),mA ⟨s,(d,f),⟨c1,g,k,n,c5⟩⟩ (M.nd i).l,L,(0,0),⟨s,(d,f),⟨c1,g,k,n,c5⟩⟩⟩) (.func (.func 107) #[] #[ptr a6,ptr C,ptr sx]) (by
     unfold eO;dsimp only;refine⟨a6,C,_,bA.o,vA.o,?_,?_⟩
     ·rw[<-g6.o];exact bN.o
     ·rw[ak (by decide)];refine⟨sx,K,A,_,_,bW.o,bL.o,rfl,?_⟩;rw[ak (by decide)];exact⟨rfl,bS.o,rfl⟩))
    rw[<-g6.o]at j1;clear b5 h5 a0 e8 e9 k7 f55 g2 U gf t0 t1 V;go_wp2_with fail
    first|refine mh rfl rfl ⟨rfl,?_⟩|refine jH rfl rfl ⟨rfl,?_⟩
    obtain⟨o6,GC,o1,n7,o3⟩:=j1.o;have n9:MF=MB.aX i {MB.nd i with cI:=de ⟨2,(d,f),mA ⟨s,(d,f),⟨c1,g,k,n,c5⟩⟩ (M.nd i).l,L,(0,0),⟨s,(d,f),⟨c1,g,k,n,c5⟩⟩⟩}:=by
     rw[a7.o,l6.o,eU,bf,m1.o];rfl
    rw[n9];exact⟨o6,GC,o1,λj=>(n7 j).t (l5.o j),((cG.below (T:=λt=>t.1<6) BA.o).t XB.o).t o3⟩
   ·obtain⟨g1,g2,U⟩:=e0.o;have S:¬(M.nd i).D.length+(Tp.sV s d f c1 g k n c5).length+5<=100000:=by rw[sU];omega
    replace g1:=(g1.t (ak S)).symm;replace g2:=(g2.t (ak S)).symm;replace U:=(U.t (ak S)).symm;subst g1 g2 U;have a7:=ae (show MF=M by
     rw[d7.o];unfold aT.asked;rw[d9.o,if_neg (show¬dX (d,f) (E,F)<0 by have:=g7.o;omega),if_neg (show¬(⟨s,(d,f),⟨c1,g,k,n,c5⟩⟩:cF)∈(M.nd i).l from j0.o),if_pos (by unfold dZ.full;rw[decide_eq_true_eq];omega)])
    clear k2 e0 S;have T6:=ae (show aW hH W wb G i M z from⟨hH,G,R9.o.below x.o,λ_=>rfl,cG.below (Q.o.t (x.o.m Q.o.size))⟩);go_wp2_with fail
    first|refine mh rfl rfl ⟨rfl,?_⟩|refine jH rfl rfl ⟨rfl,?_⟩
    rw[a7.o];exact T6.o
theorem xI{hH:bI}{W:ax}{Z i:Nat}{G:Gh}{M:aT}(h:dB hH W Z G M)(hi:i<5)(hp:(M.nd i).cI=dl)(g6:kf (M.nd i).p (M.nd i).l=dE)(l:dK)(la:Option Addr)(ln lc:Nat)(l3:okB l.bG=dE)(hf:M.cz.length<1000000000000)(j3:0<=(M.nd i).iZ)(j4:(M.nd i).iZ<=(M.nd i).D.length)(hD:(M.nd i).D.length<=100000):
  bl ed 75 #[ptr Z,ptr (G.n i).b,.agg (bP l (.slice la ln lc)).toArray] W λe W'=>e= .returned (.tuple #[])/\aW hH W Z G i (M.gj i l) W':=by
 obtain⟨lk,F,ds,⟨b1,b2⟩,⟨s,⟨x1,x2⟩,⟨c1,c2,c3,c4,c5⟩⟩,vo⟩:=l;obtain⟨MF,i7⟩:=aK (M.gj i ⟨lk,F,ds,(b1,b2),⟨s,(x1,x2),⟨c1,c2,c3,c4,c5⟩⟩,vo⟩);rw[<-i7];obtain⟨d,j1⟩:=aK ((G.n i).b);have f8:=(h.nd i hi).dM;rw[<-j1]at f8|-;obtain⟨r,v,b8⟩:∃r v,(M.nd i).p=(r,v):=⟨_,_,rfl⟩
 have g9:=(h.nd i hi).pt.gO;obtain⟨va,vc,e0,-,-⟩:=id g9.1.1;obtain⟨n,j5⟩:=aK ((M.nd i).l.length);rw[<-j5]at e0;rw[e0]at g9;rw[b8]at g6;show bl ed 75 #[.pointer (de ⟨Z,0,dl⟩),.pointer (de ⟨d,0,dl⟩),.agg #[.int .i64 lk,.int .i64 F,.int .i64 ds,.int .i64 b1,.int .i64 b2,.int .i64 s,.int .i64 x1,.int .i64 x2,.int .i64 c1,.int .i64 c2,.int .i64 c3,.int .i64 c4,.int .i64 c5,.slice la ln lc]] W _;have q4:(aN i (G.n i) (M.nd i))[4]?=r:=by show de (Value.int .i64 (M.nd i).p.1)=_;rw[b8]
 have q5:(aN i (G.n i) (M.nd i))[5]?=v:=by show de (Value.int .i64 (M.nd i).p.2)=_;rw[b8]
 have q6:(aN i (G.n i) (M.nd i))[6]?=de (.slice va n vc):=by show de (G.n i).gO=_;rw[e0]
 have g0:=(h.nd i hi).pt.mg;obtain⟨da,dc,f9,-,-⟩:=id g0.1.slice;obtain⟨dn,j0⟩:=aK ((M.nd i).D.length);rw[<-j0]at f9;rw[f9]at g0;obtain⟨sy,g8⟩:=aK ((M.nd i).iZ);have q2:(aN i (G.n i) (M.nd i))[2]?=de (.slice da dn dc):=by show de (G.n i).mg=_;rw[f9]
 have q3:(aN i (G.n i) (M.nd i))[3]?=sy:=by rw[g8];rfl
 have m2:=h.lf hi hp;have j7:(aN i (G.n i) (M.nd i))[55]?=de .nilFunc:=(dj (h.nd i hi).pt.kl 3).t (by show de (G.n i).lO=_;rw[m2]);have m9:=ae g0;have n9:=ae g8;have r0:=ae j0;rw[<-g8]at j3 j4;obtain⟨CL,i4⟩:=aK (aN i (G.n i) (M.nd i));rw[<-i4]at f8 q4 q5 q6 q2 q3 j7;have V2:=ae q2;have V3:=ae q3;have r2:=ae j7;clear q2 q3 j7 g0 f9 j0 g8 m2;have e8:=ae i7;have e7:=ae j1;have j8:=ae f8;have q9:=ae i4;have f0:=ae b8;have o4:=ae g9;have o3:=ae j5;have r1:=ae e0;have b4:=ae g6;have V4:=ae q4;have V5:=ae q5;have V6:=ae q6;have HR:=ae h;have HP:=ae hp;have a6:=ae l3;have HF:=ae hf;have n6:=ae j3;have n7:=ae j4;have HD:=ae hD;have j9:=ae (show(M.nd i).l.length<=1000 by have h1:=g6;rw[<-b8]at h1;exact qA h1);clear h i7 j1 f8 i4 b8 g9 j5 e0 g6 q4 q5 q6 hp l3 hf j3 j4 hD;go_enter func75,ntmps75
 go_upto_region 1 with fail
 generalize U:World.alloc _ _=w4;obtain⟨xw,xn,xl,d2,-⟩:=pg U;obtain⟨y,g3⟩:=aK (W.heap.size+1+1);obtain⟨A,g5⟩:=aK (W.heap.size+1);obtain⟨C,h0⟩:=aK W.heap.size;have o6:=ae (show C=W.heap.size/\A=W.heap.size+1/\y=W.heap.size+1+1 from⟨h0,g5,g3⟩);rw[<-h0]at xw;rw[<-g5]at xn;rw[<-g3]at xl;rw[<-g3,<-g5,<-h0];have XW:=ae xw;have XN:=ae xn;have XL:=ae xl;have B4:=ae d2;have R4:=ae (HR.o.below d2);have B:=ae ((d2.block d (hF j8.o)).t j8.o);have Q4:=ae ((aR B.o 4).t V4.o);have Q5:=ae ((aR B.o 5).t V5.o);have Q6:=ae ((aR B.o 6).t V6.o);have k9:=ae (o4.o.cB (cG.below (T:=λ_=>False) d2) (λ_ h=>h.elim));have O:=ae (show∀q,W.heap.size<=q->(hH q).1=6 from HR.o.hi);clear U xw xn xl d2 h0 g5 g3;by_cases d6:dX (b1,b2) (r,v)<0
 ·have a7:=ae (show MF=M.send i F {dK.zero with kind:=7,bG:=(r,v)} by rw[e8.o];unfold aT.gj;rw[f0.o,if_pos d6]);have n5:=ae (λf (hb:dd w4.heap.size w4 f)=>Ax r v b1 b2 (.slice va n vc) (M.nd i).l f (k9.o.1.stay hb) b4.o a6.o j9.o (ae d6));clear d6;go_upto_region 1 with fail
  refine bh (by kernel_rfl) (λw5 hb5=>?_);have z:=ae hb5;clear hb5;refine iH [RK.val (d,0),.val (d,0),.val (d,4),.val (.agg #[r,v,.slice va n vc]),.val (y,3),.val (.agg #[b1,b2]),.val (.tuple #[.agg #[(0:Int),(0:Int),.slice dl 0 0],.slice dl 0 0,(7:Int)]),.val (.tuple #[.agg #[(0:Int),(0:Int),.slice dl 0 0],.slice dl 0 0,(7:Int)]),.val (.agg #[(0:Int),(0:Int),.slice dl 0 0]),.val (.slice dl 0 0),.val (7:Int),.new 76 #[(0:Int),(0:Int),.slice dl 0 0],.new 74 #[.slice dl 0 0],.put 11 76 8 #[(0:Int),(0:Int),.slice dl 0 0],.put 12 74 9 #[.slice dl 0 0],.val (7:Int)] [12,13,14,15,16,17,18,11,19,20,21,6,7,0,0,8] (by kernel_rfl) (λf hb=>?_) (λx bs I=>?_)
  ·have c:=z.o.t (hb.m z.o.size);refine jh (cA c XN 0 rfl) (by kernel_rfl) ?_;iterate 2 refine .run (by kernel_rfl) ?_
   refine mf ⟨cZ c (hF B.o) Q4.o,cZ c (hF B.o) Q5.o,cZ c (hF B.o) Q6.o,⟨⟩⟩ (by kernel_rfl) ?_;refine .run (by kernel_rfl) ?_;refine mf (nR c XL 3 rfl) (by kernel_rfl) ?_;refine .call (by kernel_rfl) (n5.o f c) ?_;iterate 4 refine .run (by kernel_rfl) ?_
   refine .new (λ_ _=>rfl) ?_;refine .new (λ_ _=>rfl) ?_;refine tW rfl rfl rfl (by kernel_rfl) ?_;refine LC rfl rfl rfl (by kernel_rfl) ?_;refine .run (by kernel_rfl) ?_;exact .nil
  simp only[eS,Act.put,aq,aF,aG];have g:=ae (z.o.t (I.below.m z.o.size));have d8:=(I.put 13 _ _ _ _ (show 13<16 by decide) rfl rfl).2;have d4:=aE z.o.size (I.new 11 _ _ (show 11<16 by decide) rfl rfl).1;have d9:=(I.put 14 _ _ _ _ (show 14<16 by decide) rfl rfl).2;have d5:=aE z.o.size (I.new 12 _ _ (show 12<16 by decide) rfl rfl).1;have d7:=I.ne 11 12 _ _ _ _ (show 11<16 by decide) (show 12<16 by decide) rfl rfl rfl rfl (by decide);clear I;generalize bs 11=V at*;generalize bs 12=K at*;have b5:=ae d8;have e5:=ae d4;clear d8 d4;have b6:=ae d9;have e6:=ae d5;clear d9 d5;have h6:=ae d7;clear d7;have p3:=ae ((g.o.block C (hF XW.o)).t XW.o);have l1:=ae ((g.o.block A (hF XN.o)).t XN.o);have o9:=ae ((g.o.block y (hF XL.o)).t XL.o);have e9:=ae ((g.o.block d (hF B.o)).t B.o);have R6:=ae (R4.o.below g.o);have B6:=ae (B4.o.t (g.o.m B4.o.size));have h8:=ae (λf (hb:dd x.heap.size x f)=>jN (R6.o.below hb) hi F {dK.zero with kind:=7,bG:=(r,v)} (.slice dl 0 0) (jm _ _) HF.o);rw[<-e7.o]at h8;unfold ptr at h8;clear b5 b6 e5 e6 h6;go_upto_region 3 with fail
  refine bh (by kernel_rfl) (λw7 H=>?_);have e4:=ae H;clear H;refine dN [RK.val (Z,0),.val (d,0),.val (y,1),.val F,.val (d,0),.val (d,0),.val (d,4),.val (d,4),.val (.agg #[r,v]),.val (.agg #[(7:Int),(0:Int),(0:Int),r,v,(0:Int),(0:Int),(0:Int),(0:Int),(0:Int),(0:Int),(0:Int),(0:Int),.slice dl 0 0])] [24,25,26,27,28,29,30,31,32,33] (by kernel_rfl) (λf hb=>?_) (λf hb=>?_)
  ·have c:=e4.o.t (hb.m e4.o.size);refine jh (cA c p3 0 rfl) (by kernel_rfl) ?_;refine jh (cA c l1 0 rfl) (by kernel_rfl) ?_;refine .run (by kernel_rfl) ?_;refine jh (cA c o9 1 rfl) (by kernel_rfl) ?_;refine jh (cA c l1 0 rfl) (by kernel_rfl) ?_;iterate 3 refine .run (by kernel_rfl) ?_
   refine mf ⟨cZ c (hF e9.o) ((aR e9.o 4).t V4.o),cZ c (hF e9.o) ((aR e9.o 5).t V5.o),⟨⟩⟩ (by kernel_rfl) ?_;refine .run (by kernel_rfl) ?_;exact .nil
  have c:=e4.o.t (hb.m e4.o.size);refine mK rfl rfl (by kernel_rfl) ((h8.o f c).m λe w8 hh=>?_);obtain⟨q7,r3,rfl,m3,l7⟩:=hh;refine⟨_,rfl,?_⟩;have o0:=ae (show aW hH W Z G i _ w8 from⟨q7,_,m3,λ_=>rfl,(cG.below (T:=λt=>t.1<6) (B6.o.t (c.m B6.o.size))).t (l7.m (λt k=>by rcases k with rfl|rfl<;>decide))⟩);clear m3 l7 c hb;simp only[eS,Act.put,aq,aF,aG];go_wp2_with fail
  first|refine mh rfl rfl ⟨rfl,?_⟩|refine jH rfl rfl ⟨rfl,?_⟩
  rw[a7.o];exact o0.o
 ·have l6:0<=dX (b1,b2) (r,v):=by omega
  have n4:=ae (λf (hb:dd w4.heap.size w4 f)=>by
   have h1:=og r v b1 b2 (.slice va n vc) (M.nd i).l f (k9.o.1.stay hb) b4.o a6.o j9.o (ae l6);rw[<-o3.o]at h1;exact h1)
  have h5:=ae d6;clear l6 d6;go_upto_region 1 with fail
  refine bh (by kernel_rfl) (λw5 hb5=>?_);have z:=ae hb5;clear hb5;refine ig (X:=Option Addr×Nat×Option Addr×Nat) (dl,0,dl,0) (λa=>[RK.val (d,0),.val (d,0),.val (d,4),.val (.agg #[r,v,.slice va n vc]),.val (y,3),.val (.agg #[b1,b2]),.val (.tuple #[.agg #[b1,b2,.slice a.1 n a.2.1],.slice a.2.2.1 n a.2.2.2,(0:Int)]),.val (.tuple #[.agg #[b1,b2,.slice a.1 n a.2.1],.slice a.2.2.1 n a.2.2.2,(0:Int)]),.val (.agg #[b1,b2,.slice a.1 n a.2.1]),.val (.slice a.2.2.1 n a.2.2.2),.val (0:Int),.new 76 #[(0:Int),(0:Int),.slice dl 0 0],.new 74 #[.slice dl 0 0],.put 11 76 8 #[b1,b2,.slice a.1 n a.2.1],.put 12 74 9 #[.slice a.2.2.1 n a.2.2.2],.val (0:Int)]) 6 (λa w=>fz w (.slice a.1 n a.2.1) (M.nd i).l/\fz w (.slice a.2.2.1 n a.2.2.2) (M.nd i).l) (λa q=>(Value.slice a.1 n a.2.1).ownBlock=de q\/(Value.slice a.2.2.1 n a.2.2.2).ownBlock=de q) [12,13,14,15,16,17,18,11,19,20,21,6,7,0,0,8] (λ_=>by kernel_rfl) (λ_ _=>by repeat first|exact .nil|refine .same ?_|refine .AK (by kernel_rfl) ?_) (λa f hb=>?_) (λa f hb=>?_) ?_ ?_ (λa x bs I a4 a5 j2=>?_)
  ·have c:=z.o.t (hb.m z.o.size);refine jh (cA c XN 0 rfl) (by kernel_rfl) ?_;iterate 2 refine .run (by kernel_rfl) ?_
   refine mf ⟨cZ c (hF B.o) Q4.o,cZ c (hF B.o) Q5.o,cZ c (hF B.o) Q6.o,⟨⟩⟩ (by kernel_rfl) ?_;refine .run (by kernel_rfl) ?_;refine mf (nR c XL 3 rfl) (by kernel_rfl) ?_;refine .skip ?_;iterate 4 refine .run (by kernel_rfl) ?_
   refine .new (λ_ _=>rfl) ?_;refine .new (λ_ _=>rfl) ?_;refine tW rfl rfl rfl (by kernel_rfl) ?_;refine LC rfl rfl rfl (by kernel_rfl) ?_;refine .run (by kernel_rfl) ?_;exact .nil
  ·have c:=z.o.t (hb.m z.o.size);refine⟨_,_,by kernel_rfl,(n4.o f c).m λe w8 hh=>?_⟩;obtain⟨a1,k1,a2,k2,rfl,l8,l9,i9⟩:=hh;exact⟨(a1,k1,a2,k2),_,rfl,rfl,i9,⟨l8.aV,l9.aV⟩,λq hq=>hq.elim (λhq=>lV l8 q hq) (λhq=>lV l9 q hq)⟩
  ·exact λa w w1 S hb=>⟨S.1.stay hb,S.2.stay hb⟩
  ·exact λa w b cs S hu=>⟨jB S.1 (λ_ q hq _=>eg (λe=>hu (.inl (by rw[<-e];exact hq))) _ _ _),jB S.2 (λ_ q hq _=>eg (λe=>hu (.inr (by rw[<-e];exact hq))) _ _ _)⟩
  simp only[eS,Act.put,aq,aF,aG];have g:=ae (z.o.t (I.below.m z.o.size));have d8:=(I.put 13 _ _ _ _ (show 13<16 by decide) rfl rfl).2;have d4:=aE z.o.size (I.new 11 _ _ (show 11<16 by decide) rfl rfl).1;have d9:=(I.put 14 _ _ _ _ (show 14<16 by decide) rfl rfl).2;have d5:=aE z.o.size (I.new 12 _ _ (show 12<16 by decide) rfl rfl).1;have d7:=I.ne 11 12 _ _ _ _ (show 11<16 by decide) (show 12<16 by decide) rfl rfl rfl rfl (by decide);clear I;generalize bs 11=V at*;generalize bs 12=K at*;have b5:=ae d8;have e5:=ae d4;clear d8 d4;have b6:=ae d9;have e6:=ae d5;clear d9 d5;have h6:=ae d7;clear d7;obtain⟨a1,k1,a2,k2⟩:=a;dsimp only at a4 a5 b5 b6|-;have R6:=ae (R4.o.below g.o);have B6:=ae (B4.o.t (g.o.m B4.o.size));have k7:=ae (show dG hH x (.slice a1 n k1) (M.nd i).l from⟨a4.1,λ_ q hq=>O.o q (aE (B4.o.size) (aE z.o.size (a5 q (.inl hq)).1))⟩);have l0:=ae (show dG hH x (.slice a2 n k2) (M.nd i).l from⟨a4.2,λ_ q hq=>O.o q (aE (B4.o.size) (aE z.o.size (a5 q (.inr hq)).1))⟩);have OA:=ae (O.o V (aE B4.o.size e5.o));have OV:=ae (O.o K (aE B4.o.size e6.o));clear a4 a5 j2 e5 e6 h6;go_upto_region 4 with fail
  have m4:=kL (P:=ed) (w:=x.alloc (.cells #[.nilFunc] 1)) (b:=x.heap.size) (o:=0) (.func 99) #[(C,0),(A,0),(y,0),(K,0)] (u:= .nilFunc) (show(x.alloc (.cells #[.nilFunc] 1)).cell? (x.heap.size,0)=de .nilFunc from ej (aL x (.cells #[.nilFunc] 1)) 0 rfl) (aO (aL x (.cells #[.nilFunc] 1)) 0);go_upto_region 5 with fail
  generalize U:World.alloc _ _=w7;have H:=gv U;obtain⟨sx,g7⟩:=aK x.heap.size;have m8:w7.heap[sx]?=de (.cells #[.func (.func 99) #[] #[(C,0),(A,0),(y,0),(K,0)]] 1 (0,0)):=by rw[<-U,g7];exact aL x _
  rw[<-g7];have c9:=ae m8;have OS:=ae (O.o sx (by rw[g7];exact B6.o.size));have R7:=ae (R6.o.below H);have B7:=ae (B6.o.t (H.m B6.o.size));have p5:=B7;have c0:=ae (g.o.t (H.m g.o.size));have d1:=ae ((c0.o.block C (hF XW.o)).t XW.o);have b0:=ae ((c0.o.block A (hF XN.o)).t XN.o);have a9:=ae ((c0.o.block y (hF XL.o)).t XL.o);have E:=ae ((c0.o.block d (hF B.o)).t B.o);have i2:=ae ((H.block V (hF b5.o)).t b5.o);have d0:=ae ((H.block K (hF b6.o)).t b6.o);have k8:=ae (k7.o.cB (cG.below (T:=λ_=>False) H) (λ_ h=>h.elim));have i0:=ae (l0.o.cB (cG.below (T:=λ_=>False) H) (λ_ h=>h.elim));clear U H g7 m8 p5 m4 b5 b6 k7 l0;by_cases b7:(r,v)=(b1,b2)
  ·have h3:=ae (fG b7);have a7:=ae (show MF=M.send i F {dK.zero with kind:=1,bG:=(b1,b2),aV:=(M.nd i).l} by rw[e8.o];unfold aT.gj;rw[f0.o,if_neg (show¬dX (b1,b2) (r,v)<0 by have:=h5.o;omega),if_pos b7]);clear b7;go_upto_region 5 with fail
   refine bh (by kernel_rfl) (λw8 d3=>?_);have L:=ae d3;clear d3;refine dN [RK.val (d,0),.val (d,0),.val (d,4),.val (d,4),.val (.agg #[r,v]),.val (y,3),.val (.agg #[b1,b2])] [36,37,38,39,40,41,42] (by kernel_rfl) (λf hb=>?_) (λf hb=>?_)
   ·have c:=L.o.t (hb.m L.o.size);refine jh (cA c b0 0 rfl) (by kernel_rfl) ?_;iterate 3 refine .run (by kernel_rfl) ?_
    refine mf ⟨cZ c (hF E.o) ((aR E.o 4).t V4.o),cZ c (hF E.o) ((aR E.o 5).t V5.o),⟨⟩⟩ (by kernel_rfl) ?_;refine .run (by kernel_rfl) ?_;refine mf (nR c a9 3 rfl) (by kernel_rfl) ?_;exact .nil
   have c:=L.o.t (hb.m L.o.size);have hq:=Lc (tC b4.o).1 (tC b4.o).2 (oW a6.o).1 (oW a6.o).2 f;rw[h3.o]at hq;refine tA rfl rfl rfl rfl (by kernel_rfl) (by kernel_rfl) hq (by kernel_rfl) ?_;have p:=ae c;clear hq c hb;simp only[eS,Act.put,aq,aF,aG];have P9:=ae (wG (R7.o.below p.o) hi HF.o ⟨lk,F,ds,(b1,b2),⟨s,(x1,x2),⟨c1,c2,c3,c4,c5⟩⟩,vo⟩ (.slice la ln lc) (.slice a2 n k2) (M.nd i).l ((p.o.block C (hF d1.o)).t d1.o) (by rw[<-e7.o];exact(p.o.block A (hF b0.o)).t b0.o) ((p.o.block y (hF a9.o)).t a9.o) ((p.o.block K (hF d0.o)).t d0.o) (i0.o.cB (cG.below (T:=λ_=>False) p.o) (λ_ h=>h.elim)));unfold ptr at P9;have s0:=cZ p.o (hF c9.o) (ej c9.o 0 rfl);have N:=ae (B7.o.t (p.o.m B7.o.size));go_wp2_with (go_at_call 99;refine P9.o.m ?_;rintro e wA ⟨rfl,q1,G3,k1,m5,k3⟩;have o1:=ae (show aW hH W Z G i _ wA from⟨q1,G3,k1,m5,(cG.below (T:=λt=>t.1<6) N.o).t k3⟩);clear k1 m5 k3)
   first|refine mh rfl rfl ⟨rfl,?_⟩|refine jH rfl rfl ⟨rfl,?_⟩
   rw[a7.o];exact o1.o
  ·have h3:=ae (gE b7);have k0:=ae b7;clear b7;go_upto_region 5 with fail
   refine bh (by kernel_rfl) (λw8 d3=>?_);have L:=ae d3;clear d3;refine dN [RK.val (d,0),.val (d,0),.val (d,4),.val (d,4),.val (.agg #[r,v]),.val (y,3),.val (.agg #[b1,b2])] [36,37,38,39,40,41,42] (by kernel_rfl) (λf hb=>?_) (λf hb=>?_)
   ·have c:=L.o.t (hb.m L.o.size);refine jh (cA c b0 0 rfl) (by kernel_rfl) ?_;iterate 3 refine .run (by kernel_rfl) ?_
    refine mf ⟨cZ c (hF E.o) ((aR E.o 4).t V4.o),cZ c (hF E.o) ((aR E.o 5).t V5.o),⟨⟩⟩ (by kernel_rfl) ?_;refine .run (by kernel_rfl) ?_;refine mf (nR c a9 3 rfl) (by kernel_rfl) ?_;exact .nil
   have c:=L.o.t (hb.m L.o.size);have hq:=Lc (tC b4.o).1 (tC b4.o).2 (oW a6.o).1 (oW a6.o).2 f;rw[h3.o]at hq;refine tA rfl rfl rfl rfl (by kernel_rfl) (by kernel_rfl) hq (by kernel_rfl) ?_;have p:=ae c;clear hq c hb;simp only[eS,Act.put,aq,aF,aG];have R9:=ae (R7.o.below p.o);have N:=ae (B7.o.t (p.o.m B7.o.size));have f5:=ae ((p.o.block C (hF d1.o)).t d1.o);have c7:=ae ((p.o.block A (hF b0.o)).t b0.o);have c6:=ae ((p.o.block y (hF a9.o)).t a9.o);have f2:=ae ((p.o.block V (hF i2.o)).t i2.o);have f4:=ae ((p.o.block K (hF d0.o)).t d0.o);have f3:=ae ((p.o.block sx (hF c9.o)).t c9.o);have a3:=ae ((p.o.block d (hF E.o)).t E.o);have h9:=ae (k8.o.cB (cG.below (T:=λ_=>False) p.o) (λ_ h=>h.elim));have i1:=ae (i0.o.cB (cG.below (T:=λ_=>False) p.o) (λ_ h=>h.elim));have h2:=ae (m9.o.cB (cG.below (T:=λ_=>False) N.o) (λ_ h=>h.elim));clear d1 b0 a9 i2 d0 c9 E k8 i0 R7 p B7 L c0;obtain⟨m7,j6⟩:=aK f;rw[<-j6]at R9 N f5 c7 c6 f2 f4 f3 a3 h9 i1 h2;rw[<-j6];clear j6;obtain⟨L9,i6⟩:=aK (IV (M.nd i).D (Tp.iJ b1 b2));obtain⟨S9,i8⟩:=aK (IU (M.nd i).D (Tp.iJ b1 b2) sy);obtain⟨C9,i3⟩:=aK (IW (M.nd i).D (Tp.iJ b1 b2));have f1:=ae (And.intro i6 (And.intro i8 i3));go_upto_region 7 with fail
   refine bh (by kernel_rfl) (λw5 hb5=>?_);have a0:=ae hb5;clear hb5;have k5:=ae (λf (hb:dd m7.heap.size m7 f)=>by
    have h:=qx (.slice da dn dc) (M.nd i).D sy b1 b2 f (h2.o.1.stay hb) n6.o n7.o HD.o a6.o ((R9.o.below hb).kn.1);rw[<-i6,<-i8,<-i3]at h;exact h)
   clear i6 i8 i3;refine ig (X:=Option Addr×Nat×Nat) (dl,0,0) (λa=>[RK.val (d,0),.val (d,0),.val (d,2),.val (.agg #[.slice da dn dc,sy]),.val (y,3),.val (.agg #[b1,b2]),.val (.tuple #[.agg #[.slice a.1 a.2.1 a.2.2,S9],C9]),.val (.tuple #[.agg #[.slice a.1 a.2.1 a.2.2,S9],C9]),.val (.agg #[.slice a.1 a.2.1 a.2.2,S9]),.val C9,.new 71 #[.slice dl 0 0,(0:Int)],.put 10 71 8 #[.slice a.1 a.2.1 a.2.2,S9],.val C9]) 6 (λa w=>Rd w (.slice a.1 a.2.1 a.2.2) L9) (λa q=>(Value.slice a.1 a.2.1 a.2.2).ownBlock=de q) [47,48,49,50,51,52,53,46,54,55,10,0,8] (λ_=>by kernel_rfl) (λ_ _=>by repeat first|exact .nil|refine .same ?_|refine .AK (by kernel_rfl) ?_) (λa f hb=>?_) (λa f hb=>?_) ?_ ?_ (λa x bs I a4 a5 j2=>?_)
   ·have c:=a0.o.t (hb.m a0.o.size);refine jh (cA c c7 0 rfl) (by kernel_rfl) ?_;iterate 2 refine .run (by kernel_rfl) ?_
    refine mf ⟨cZ c (hF a3.o) ((aR a3.o 2).t V2.o),cZ c (hF a3.o) ((aR a3.o 3).t V3.o),⟨⟩⟩ (by kernel_rfl) ?_;refine .run (by kernel_rfl) ?_;refine mf (nR c c6 3 rfl) (by kernel_rfl) ?_;refine .skip ?_;iterate 3 refine .run (by kernel_rfl) ?_
    refine .new (λ_ _=>rfl) ?_;refine tW rfl rfl rfl (by kernel_rfl) ?_;refine .run (by kernel_rfl) ?_;exact .nil
   ·have c:=a0.o.t (hb.m a0.o.size);refine⟨_,_,by kernel_rfl,(k5.o f c).m λe w8 hh=>?_⟩;obtain⟨v8,rfl,ho,i9⟩:=hh;obtain⟨a8,c8,p9,-,-⟩:=id ho.rd.slice;rw[p9]at ho|-;exact⟨(a8,_,c8),_,rfl,rfl,i9,ho.rd,λq hq=>ho.lt q hq⟩
   ·exact λa w w1 S hb=>S.stay hb
   ·exact λa w b cs S hu=>Rd.nT S (λq hq _=>eg (λe=>hu (by rw[<-e];exact hq)) _ _ _)
   simp only[eS,Act.put,aq,aF,aG];have g:=ae (a0.o.t (I.below.m a0.o.size));have m0:=(I.put 11 _ _ _ _ (show 11<13 by decide) rfl rfl).2;have l5:=aE a0.o.size (I.new 10 _ _ (show 10<13 by decide) rfl rfl).1;clear I;generalize bs 10=m6 at*;have h7:=ae m0;have n1:=ae l5;clear m0 l5;obtain⟨a8,n8,c8⟩:=a;dsimp only at a4 a5 h7|-;by_cases l4:(M.nd i).D.length+14<=100000
   ·obtain⟨g1,g2,R⟩:=f1.o;have Q:(M.nd i).D.length+(Tp.iJ b1 b2).length+5<=100000:=by rw[ny];omega
    replace g1:=(g1.t (ar Q)).symm;replace g2:=(g2.t (ar Q)).symm;replace R:=(R.t (ar Q)).symm;subst g1 g2 R;have a7:=ae (show MF=M.aX i {M.nd i with D:=(M.nd i).D++Jz (b1,b2),cI:=de ⟨1,(b1,b2),(M.nd i).l,F,(b1,b2),cF.zero⟩} by
     rw[e8.o];unfold aT.gj;rw[f0.o,if_neg (show¬dX (b1,b2) (r,v)<0 by have:=h5.o;omega),if_neg (show¬(r,v)=(b1,b2)from k0.o),if_neg (by unfold dZ.full;rw[decide_eq_true_eq];omega)])
    clear l4 f1 Q;have RA:=ae (R9.o.below g.o);have BA:=ae (N.o.t (g.o.m N.o.size));have o7:=ae (show AL hH x (.slice a8 n8 c8) ((M.nd i).D++Tp.frame (Tp.iJ b1 b2))from⟨a4,λ_ q hq=>O.o q (aE N.o.size (aE a0.o.size (a5 q hq).1))⟩);have p4:=ae ((g.o.block C (hF f5.o)).t f5.o);have l2:=ae ((g.o.block A (hF c7.o)).t c7.o);have p0:=ae ((g.o.block y (hF c6.o)).t c6.o);have o8:=ae ((g.o.block V (hF f2.o)).t f2.o);have p2:=ae ((g.o.block K (hF f4.o)).t f4.o);have p1:=ae ((g.o.block sx (hF f3.o)).t f3.o);have g4:=(g.o.block d (hF a3.o)).t a3.o;have o2:=ae (h9.o.cB (cG.below (T:=λ_=>False) g.o) (λ_ h=>h.elim));have o5:=ae (i1.o.cB (cG.below (T:=λ_=>False) g.o) (λ_ h=>h.elim));have n0:x.cell? (A,0)=(d,0):=ej l2.o 0 rfl;have t0:x.cell? (m6,0)=de (.slice a8 n8 c8):=ej h7.o 0 rfl;have t1:x.cell? (m6,1)=sy:=ej h7.o 1 rfl;have g2:=(aR g4 2).t V2.o;have R:=(aR g4 3).t V3.o;have gf:=aO g4;have k6:=ae (RA.o.FK hi ((M.nd i).D++Tp.frame (Tp.iJ b1 b2)) sy (.slice a8 n8 c8) o7.o);rw[<-e7.o]at k6;clear a4 a5 j2 n1 g4 f5 c7 c6 f2 f4 f3 a3 h9 i1 h2 k5;go_upto_region 10 with fail
    generalize U:World.setCell _ _ _=Y;obtain⟨b9,GB,b3,i5,J⟩:=k6.o;rw[show x.setCells d 2 [.slice a8 n8 c8,sy]=Y from U]at b3 J;obtain⟨MB,f6⟩:∃m,m=M.aX i {M.nd i with D:=(M.nd i).D++Tp.frame (Tp.iJ b1 b2),iZ:=sy}:=⟨_,rfl⟩
    rw[<-f6]at b3;have RB:=ae b3;have h4:=ae (show d=(GB.n i).b by rw[e7.o,i5]);have n2:=ae i5;have XB:=ae J;have n3:=ae f6;have OX:=ae (show(hH C).1=6/\(hH A).1=6/\(hH y).1=6 by
     obtain⟨e1,e2,e3⟩:=o6.o;refine⟨O.o _ ?_,O.o _ ?_,O.o _ ?_⟩<;>omega)
    have bW:=ae (show ki b9 Y C 62 [ptr Z]from ki.cB ⟨p4.o,OX.o.1⟩ J (λt k e=>by have k:t.1<6:=k;omega));have bN:=ae (show ki b9 Y A 69 [ptr d]from ki.cB ⟨l2.o,OX.o.2.1⟩ J (λt k e=>by have k:t.1<6:=k;omega));have bL:=ae (show ki b9 Y y 111 (bP ⟨lk,F,ds,(b1,b2),⟨s,(x1,x2),⟨c1,c2,c3,c4,c5⟩⟩,vo⟩ (.slice la ln lc))from ki.cB ⟨p0.o,OX.o.2.2⟩ J (λt k e=>by have k:t.1<6:=k;omega));have bA:=ae (show ki b9 Y V 76 [b1,b2,.slice a1 n k1]from ki.cB ⟨o8.o,OA.o⟩ J (λt k e=>by have k:t.1<6:=k;omega));have bV:=ae (show ki b9 Y K 74 [.slice a2 n k2]from ki.cB ⟨p2.o,OV.o⟩ J (λt k e=>by have k:t.1<6:=k;omega));have bS:=ae (show ki b9 Y sx 1 [.func (.func 99) #[] #[ptr C,ptr A,ptr y,ptr K]]from ki.cB ⟨p1.o,OS.o⟩ J (λt k e=>by have k:t.1<6:=k;omega));have vA:=ae (o2.o.cB J (λt k e=>by have k:t.1<6:=k;omega));have vV:=ae (o5.o.cB J (λt k e=>by have k:t.1<6:=k;omega));have f7:=(b3.nd i hi).dM;rw[<-h4.o]at f7;have m1:(MB.nd i).cI=dl:=by rw[f6,bf];exact HP.o
    have f55:Y.cell? (d,55)=de .nilFunc:=(aR f7 55).t ((dj (b3.nd i hi).pt.kl 3).t (by show de (GB.n i).lO=_;rw[b3.lf hi m1]));have m4:=kL (P:=ed) (.func 101) #[(V,0),(A,0),(sx,0)] f55 (aO f7 55);have n0:Y.cell? (A,0)=(d,0):=ej bN.o.1 0 rfl;have k4:=ae (RB.o.Bk hi (de ⟨1,(b1,b2),(M.nd i).l,F,(b1,b2),cF.zero⟩) (.func (.func 101) #[] #[ptr V,ptr A,ptr sx]) (by
     unfold eO;dsimp only;refine⟨V,A,_,bA.o,vA.o,?_,?_⟩
     ·rw[<-h4.o];exact bN.o
     ·rw[ak (by decide)];refine⟨sx,C,y,_,_,bW.o,bL.o,rfl,?_⟩;rw[ar rfl];exact⟨K,_,rfl,bV.o,vV.o,bS.o,rfl⟩))
    rw[<-h4.o]at k4;clear b3 i5 J f6 f7 m1 f55 g2 R gf t0 t1 U;go_wp2_with fail
    first|refine mh rfl rfl ⟨rfl,?_⟩|refine jH rfl rfl ⟨rfl,?_⟩
    obtain⟨q8,GC,p8,p6,q0⟩:=k4.o;have p7:MF=MB.aX i {MB.nd i with cI:=de ⟨1,(b1,b2),(M.nd i).l,F,(b1,b2),cF.zero⟩}:=by
     rw[a7.o,n3.o,eU,bf,n9.o];rfl
    rw[p7];exact⟨q8,GC,p8,λj=>(p6 j).t (n2.o j),((cG.below (T:=λt=>t.1<6) BA.o).t XB.o).t q0⟩
   ·obtain⟨g1,g2,R⟩:=f1.o;have Q:¬(M.nd i).D.length+(Tp.iJ b1 b2).length+5<=100000:=by rw[ny];omega
    replace g1:=(g1.t (ak Q)).symm;replace g2:=(g2.t (ak Q)).symm;replace R:=(R.t (ak Q)).symm;subst g1 g2 R;have a7:=ae (show MF=M by
     rw[e8.o];unfold aT.gj;rw[f0.o,if_neg (show¬dX (b1,b2) (r,v)<0 by have:=h5.o;omega),if_neg (show¬(r,v)=(b1,b2)from k0.o),if_pos (by unfold dZ.full;rw[decide_eq_true_eq];omega)])
    clear l4 f1 Q;have T6:=ae (show aW hH W Z G i M x from⟨hH,G,R9.o.below g.o,λ_=>rfl,cG.below (N.o.t (g.o.m N.o.size))⟩);go_wp2_with fail
    first|refine mh rfl rfl ⟨rfl,?_⟩|refine jH rfl rfl ⟨rfl,?_⟩
    rw[a7.o];exact T6.o
theorem dB.LH{hH:bI}{W:ax}{w i:Nat}{G:Gh}{M:aT}(h:dB hH W w G M)(hi:i<5)(hp:(M.nd i).cI=dl){pm:Nat}{m:List (Int×bd)}(hm:dO W pm m)(ho:hH pm=(i,7))(x:∀d,(G.n i).rg=de d->pm≠d.prom)(k:Int)(v:bd):
  ∃u,(Instr.mapUpdate 140 (.map (de pm)) k v).run ed W= .ok () u/\aW hH W w G i M u:=by
 obtain⟨o,A,-⟩:=lU (P:=ed) hm Tryz.underlying140 Tryz.underlying3 k v;have b:cG hH W hH {W with heap:=W.heap.setIfInBounds pm o} (·=(i,7)):=qC ho;have l:Fair (·=(i,7)):=λt f e=>by rw[f]at e;simp at e;omega
 have c:∀m,m≠7->¬(i,m)=(i,7):=λm hm e=>by injection e with _ e;exact hm e
 have s:=h.nd i hi;have hq:=s.pt;have z:=h.lf hi hp;have hrg:match(G.n i).rg,(M.nd i).rg with
  |none,dl=>True
  |some d,de r=>jt hH {W with heap:=W.heap.setIfInBounds pm o} i d r
  |_,_=>False:=by
  have h1:=hq.rg;cases e1:(G.n i).rg with
  |none=>
   cases e2:(M.nd i).rg with
   |none=>trivial
   |some r=>rw[e1,e2]at h1;exact h1
  |some d=>
   cases e2:(M.nd i).rg with
   |none=>rw[e1,e2]at h1;exact h1
   |some r=>
    rw[e1,e2]at h1;have a:jt hH W i d r:=h1;have y:({W with heap:=W.heap.setIfInBounds pm o}:ax).heap[d.prom]?=W.heap[d.prom]?:=cV (x d e1);exact⟨b.at a.dM (by rw[a.tb];exact c 6 (by omega)),a.tb,dO.other a.prom y,a.tm,a.dD.cB b (by rw[a.tp];exact c 8 (by omega)),a.tp,a.ps.cB b (by rw[a.tv];exact c 9 (by omega)),a.tv,λp hp=>⟨(a.kG p hp).1.cB b (by rw[(a.kG p hp).2];exact c _ (by omega)),(a.kG p hp).2⟩,λp hp=>(a.pv p hp).cB b l⟩
 have hk:=h.node hi b (λt f=>by rw[f]) (λq hq=>h.hi q (by simpa using hq)) (g:=G.n i) (n:=M.nd i) rfl
  ⟨b.at s.dM (by rw[s.tb];exact c 0 (by omega)),s.tb,⟨hq.kl,hq.kn.cB b (by rw[hq.tk];exact c 1 (by omega)),hq.tk,hq.mg.cB b l,hq.gO.cB b l,hq.log.cB b (c 2 (by omega)),hq.ja.cB b (c 3 (by omega)),hq.mO.cB b (c 4 (by omega)),hq.jq.cB b l (c 5 (by omega)),hrg,eO.nil hp z⟩⟩
 rw[oT]at hk;refine⟨_,A,hH,_,hk,λj=>?_,b.m (λt f=>by rw[f];exact Nat.lt_succ_of_lt hi)⟩;by_cases e:j=i
 ·show(if j=i then G.n i else G.n j).b=_;rw[ar e,e]
 ·show(if j=i then G.n i else G.n j).b=_;rw[ak e]
theorem dB.JC{hH:bI}{W:ax}{d i:Nat}{G:Gh}{M:aT}(h:dB hH W d G M)(hi:i<5)(hp:(M.nd i).cI=dl)(p:Int×Int)(l:List cF)(a:bd)(hv:dG hH W a l):∃b,dB hH (W.setCells (G.n i).b 4 [p.1,p.2,a]) d b (M.aX i {M.nd i with p:=p,l:=l})/\(∀j,(b.n j).b=(G.n j).b)/\(b.n i).rg=(G.n i).rg/\cG hH W hH (W.setCells (G.n i).b 4 [p.1,p.2,a]) (λt=>t.1<6):=by
 have hq:=(h.nd i hi).pt;obtain⟨h1,h2⟩:=h.fN hi (cG.refl hH W (λ_=>False)) (λt c=>c.elim) (λq hq=>h.hi q hq) {G.n i with gO:=a} {M.nd i with p:=p,l:=l} rfl
  ⟨hq.kl,hq.kn,hq.tk,hq.mg,hv,hq.log,hq.ja,hq.mO,hq.jq,hq.rg,eO.nil hp (h.lf hi hp)⟩ 4 [p.1,p.2,a] rfl
 refine⟨_,h1,λj=>?_,?_,h2.m (λt c=>by rw[c];omega)⟩
 ·by_cases e:j=i
  ·show(if j=i then{G.n i with gO:=a}else G.n j).b=_;rw[ar e,e]
  ·show(if j=i then{G.n i with gO:=a}else G.n j).b=_;rw[ak e]
 ·show(if i=i then{G.n i with gO:=a}else G.n i).rg=_;rw[ar rfl]
theorem DV{hH:bI}{W:ax}{Y i:Nat}{G:Gh}{M:aT}(h:dB hH W Y G M)(hi:i<5)(hp:(M.nd i).cI=dl){u z X rx n:Nat}(vv av:bd)(a:List cF)(p w:Int×Int)
  (h0:ki hH W u 76 [p.1,p.2,av])(H:dG hH W av a)(h2:ki hH W z 69 [ptr (G.n i).b])(h4:ki hH W X 74 [vv])(hv:dG hH W vv a)(h5:ki hH W rx 77 [ptr n])
  (hc:(∃o c,(G.n i).rg=de o/\(M.nd i).rg=de c/\c.bG=w/\n=o.b)\/((∀c,(M.nd i).rg=de c->c.bG≠w)/\qT hH W i (G.n i).rg n))(hn:∀c,(M.nd i).rg=de c->(c.prom.map (·.1)).Nodup):
  bl ed 108 #[ptr u,ptr z,ptr X,ptr rx] W λe f=>e= .returned (.tuple #[])/\aW hH W Y G i (M.aX i {M.nd i with p:=p,l:=a,rg:=(M.nd i).rg.map λr=>if r.bG=w then{r with prom:=di r.prom (i:Int) a}else r}) f:=by
 obtain⟨S,V,U,rfl⟩:=H.1.shape;obtain⟨x,wn,wc,rfl⟩:=hv.1.shape;have E:=h.JC hi hp p a _ H;obtain⟨d,J⟩:=aK ((G.n i).b);have g:=(h.nd i hi).dM;obtain⟨MF,D⟩:∃M',M'=M.aX i {M.nd i with p:=p,l:=a,rg:=(M.nd i).rg.map λr=>if r.bG=w then{r with prom:=di r.prom (i:Int) a}else r}:=⟨_,rfl⟩
 rw[<-D];rw[<-J]at E g h2;have c0:(aN i (G.n i) (M.nd i))[0]?=i:=rfl;have C:(aN i (G.n i) (M.nd i))[4]?=(M.nd i).p.1:=rfl;have c5:(aN i (G.n i) (M.nd i))[5]?=(M.nd i).p.2:=rfl;have c6:(aN i (G.n i) (M.nd i))[6]?=de (G.n i).gO:=rfl;have f4:=(aR g 4).t C;have f5:=(aR g 5).t c5;have f6:=(aR g 6).t c6;have ff:=aO g;obtain⟨q,s⟩:=p;have a0:W.cell? (u,0)=q:=ej h0.1 0 rfl;have a1:W.cell? (u,1)=s:=ej h0.1 1 rfl;have a2:W.cell? (u,2)=de (.slice S V U):=ej h0.1 2 rfl;have n0:W.cell? (z,0)=(d,0):=ej h2.1 0 rfl;have HT:=ae E;have HR:=ae h;have a9:=ae g;have Z:=ae h2;have H4:=ae h4;have H5:=ae h5;have HV:=ae hv;have a3:=ae J;have HC:=ae hc;have HN:=ae hn;have a4:=ae D;have HP:=ae hp;clear h E h0 h2 h4 h5 hv J g H c0 C c5 c6 hp hc hn D;unfold ptr;go_enter func108,ntmps108
 go_upto_region 1 with fail
 generalize F:World.setCell _ _ _=b;obtain⟨G2,hr,y,hrg,hx⟩:=HT.o;have L:∀k,k≠d->b.heap[k]?=W.heap[k]?:=λk hk=>by
  rw[<-show W.setCells d 4 [q,s,.slice S V U]=b from F];exact ep d k hk _ _ _
 rw[show W.setCells d 4 [q,s,.slice S V U]=b from F]at hr hx;have K:hH d=(i,0):=by rw[a3.o];exact(HR.o.nd i hi).tb
 have b2:=hx.at Z.o.1 (by rw[Z.o.2];decide);have b4:=hx.at H4.o.1 (by rw[H4.o.2];decide);have b5:=hx.at H5.o.1 (by rw[H5.o.2];decide);have v:dd b.heap.size b b.drew:=(aj _ _).drew;have O:=hr.below v;have N:((M.aX i {M.nd i with p:=(q,s),l:=a}).nd i).cI=dl:=by rw[bf];exact HP.o
 have I:((M.aX i {M.nd i with p:=(q,s),l:=a}).nd i).rg=(M.nd i).rg:=by rw[bf]
 have HK:∃pm f,b.cell? (n,2)=de (.map (de pm))/\(Instr.mapUpdate 140 (.map (de pm)) (i:Int) (.slice x wn wc)).run ed b.drew= .ok () f/\aW hH W Y G i MF f:=by
  have a8:dG hH b.drew (.slice x wn wc) a:=HV.o.cB (hx.t ((cG.below (T:=λt=>t.1<6) v))) (λt ht e=>by have ht:t.1<6:=ht;omega);rcases HC.o with⟨o,c,e1,e2,e3,e4⟩|⟨a7,hold⟩
  ·obtain⟨b0,k1,k2⟩:=hr.wo hi (I.t e2);rw[hrg,e1]at k1;injection k1 with k1;subst k1;obtain⟨f,r1,P,B,A,Q,R⟩:=O.CP hi N (hrg.t e1) (I.t e2) (HN.o c e2) (i:Int) (.slice x wn wc) a a8;refine⟨o.prom,f,by rw[e4];exact ej k2.dM 2 rfl,r1,P,B,?_,λj=>(Q j).t (y j),hx.t ((cG.below v).t R)⟩;rw[a4.o,e2];rw[bf,eU]at A;rw[eH,ar e3];exact A
  ·obtain⟨c0,c1,pm,c3,C,c5,m,k1,k2,k3,k4,k5⟩:=hold;have n1:n≠d:=λe=>by rw[e,K]at k2;injection k2 with _ k2;cases k2
   have n2:pm≠d:=λe=>by rw[e,K]at k4;injection k4 with _ k4;cases k4
   obtain⟨f,r1,P,B,A,Q,R⟩:=O.LH hi N (dO.other k3 (L pm n2)) k4 (λo e=>(k5 o (hrg.symm.t e)).2) (i:Int) (.slice x wn wc);refine⟨pm,f,ej ((L n n1).t k1) 2 rfl,r1,P,B,?_,λj=>(Q j).t (y j),hx.t ((cG.below v).t R)⟩;have e:MF=M.aX i {M.nd i with p:=(q,s),l:=a}:=by
    rw[a4.o];have e2:((M.nd i).rg.map λr=>if r.bG=w then{r with prom:=di r.prom (i:Int) a}else r)=(M.nd i).rg:=by
     cases e3:(M.nd i).rg with
     |none=>rfl
     |some c=>rw[eH,ak (a7 c e3)]
    rw[e2]
   rw[e];exact A
 obtain⟨pm,f,q2,b1,a5⟩:=HK;have a6:=ae a5;have s3:b.cell? (rx,0)=(n,0):=ej b5 0 rfl;have s1:b.cell? (z,0)=(d,0):=ej b2 0 rfl;have s2:b.cell? (X,0)=de (.slice x wn wc):=ej b4 0 rfl;have m0:b.cell? (d,0)=i:=by
  have h1:=(hr.nd i hi).dM;rw[y i,<-a3.o]at h1;exact(aR h1 0).t rfl
 clear hr y hrg hx L K b2 b4 b5 v O N I a5 F f4 f5 f6 ff a0 a1 a2 n0 HT;go_region
 refine jH rfl rfl ⟨rfl,?_⟩;exact a6.o
end Go.Proofs.YtcdmenphjilnnaaGreatDoor
