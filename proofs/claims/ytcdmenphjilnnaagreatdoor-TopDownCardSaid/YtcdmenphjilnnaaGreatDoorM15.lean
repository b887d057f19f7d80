/-
  Parts of the proofs of the laws of the whole (what the functions compute, and plain laws of it); no conditions.
-/
import Derived.Test.YtcdmenphjilnnaaGreatDoorM13
import Derived.OwnWalk
set_option linter.unusedVariables false
set_option linter.unusedSimpArgs false
set_option maxRecDepth 100000
set_option maxHeartbeats 1000000
open Go.Proofs.Tryz
open Go renaming World->ax,Value->bd,Calls->bl
open Go.RowKit renaming Below->dd
open Option renaming some->de,none->dl
open Bool renaming true->dE,false->dT
open Go.Proofs.Tryz renaming prog->ed
namespace Go.Proofs.YtcdmenphjilnnaaGreatDoor
open Go.RowKit Go.Con
theorem EN{hH:bI}{tg:Nat×Nat}{W:ax}{v:bd}{l:List bk}{y:bk}{nb:Nat}(h:jf hH tg W v l)(hb:W.heap[nb]?=de (.cells (aQ y).toArray 54 (0,0)))(hy:y∉l):
  bl ed 127 #[v,.func (.func 126) #[] #[ptr nb]] W λe g=>∃a n c,e= .returned (.slice a n c)/\jf hH tg g (.slice a n c) (l.filter (λx=>decide (x≠y)))/\cG hH W hH g (·=tg):=by
 have hp:lY l y=-1:=by unfold lY;rw[if_neg hy]
 have b:=uD v l y nb W h.rd hb;rw[hp]at b;rw[zP hy];obtain⟨ea,j,rfl,-,-⟩:=h.shape;obtain⟨n,i⟩:=aK l.length;rw[<-i]at h b|-;have H:=ae h;have f:=ae b;clear h b i hp hb;unfold ptr at f|-;go_enter func127,ntmps127
 go_wp2_with (first
  |(go_at_call 128;refine f.o.m ?_;rintro e k ⟨rfl,hb⟩;have d:=ae hb;clear hb))
 go_ret
 refine⟨_,_,_,rfl,?_,cG.below d.o⟩;exact jf.cB H.o (cG.below (T:=λ_=>False) d.o) id
theorem EM{hH:bI}{tg:Nat×Nat}{W:ax}{l:List bk}{y:bk}{nb:Nat}{b off cap:Nat}{c:Array bd}(hm:hH b=tg)(h3:l.length<=cap)(h4:cap<=maxLen)(h6:W.heap[b]?=de (.cells c 54 (0,0)))(L:off+cap*5<=c.size)
  (M:∀q,q<l.length->∀r,r<5->c[off+(5*q+r)]?=(aQ (l.getD q bk.zero))[r]?)(Q:oQ W (.slice (b,off) l.length cap) l)(hb:W.heap[nb]?=de (.cells (aQ y).toArray 54 (0,0)))(a8:nb≠b)(hy:y∈l):
  bl ed 127 #[.slice (b,off) l.length cap,.func (.func 126) #[] #[ptr nb]] W λe K=>∃a n c,e= .returned (.slice a n c)/\jf hH tg K (.slice a n c) (l.filter (λx=>decide (x≠y)))/\cG hH W hH K (·=tg):=by
 have hp:lY l y=(l.idxOf y:Nat):=by unfold lY;rw[if_pos hy]
 have s:=uD _ l y nb W Q hb;rw[hp]at s;have O:l.idxOf y<l.length:=eB hy;obtain⟨n,k⟩:=aK l.length;have v:=ae (λw (hw:dd W.heap.size W w)=>kV.start (hH:=hH) (tg:=tg) (cap:=cap) k h6 M hy hw);have C:=hF h6;have a7:=hF hb;obtain⟨i0,D⟩:=aK (l.idxOf y);rw[<-k,<-D]at s;rw[<-D]at O v;rw[<-k]at h3 O|-;have b1:cap<=9223372036854775807:=h4;have G:=ae s;have u:=ae k;have Z:=ae hm;have X:=ae h4;have Y:=ae hb;have I:=ae (λx d h=>wj x y nb d h);have b4:i0<=n:=by omega
 obtain⟨sz,T⟩:=aK c.size;rw[<-T]at L v;have b2:(((i0:Nat):Int)==-1)=dT:=by rw[aJ];omega
 clear s k hm h4 hb h6 M Q hp D T hy;unfold ptr at G I|-;go_enter func127,ntmps127
 go_wp2_with (first
  |(go_at_call 128;refine G.o.m ?_;rintro e w2 ⟨rfl,hb⟩;have V:=ae hb;clear hb))
 go_loopw [5,6] (λx z wr=>∃i j:Nat,x= .int .i64 i/\z= .int .i64 j/\i<j/\j<=n/\Hid (kV W b off n sz l y i j wr)) (λ_ z _=>n-(intOf z).toNat)
 case atStart=>exact⟨i0,i0+1,rfl,by go_num,by omega,by omega,ae (v.o _ V.o)⟩
 case round=>
  obtain⟨i,j,rfl,rfl,b3,b8,f⟩:=hrel;by_cases hlt:j<n
  ·obtain⟨z,E⟩:=aK (l.getD j bk.zero);obtain⟨cr,k1,k2,k3,k4⟩:=f.o.row;have N:∀r,r<5->wr.cell? (b,off+j*5+r)=(aQ z)[r]?:=λr hr=>by
    rw[nZ k1,E,<-k4 j (ag _) hlt r hr,eJ,eI]
   have F:=ae ((f.o.AH nb a7 a8).t Y.o);have A:=ae E;obtain⟨p,hp⟩:=aK (decide (z=y));have S:∀d,dd wr.heap.size wr d->bl ed 126 #[.agg (aQ z).toArray,(nb,0)] d λe w'=>e= .returned (.bool p)/\dd d.heap.size d w':=λd hw=>by
    rw[hp];exact I.o z d ((hw.block nb (hF F.o)).t F.o)
   have U:∀d:ax,d.heap[b]?=wr.heap[b]?->(∃v0 v1 v2 v3 v4,d.cell? ⟨b,off+i*5,dl⟩=de v0/\d.cell? ⟨b,off+i*5+1,dl⟩=de v1/\d.cell? ⟨b,off+i*5+2,dl⟩=de v2/\d.cell? ⟨b,off+i*5+3,dl⟩=de v3/\d.cell? ⟨b,off+i*5+4,dl⟩=de v4)/\∀o,d.frozen? ⟨b,o,dl⟩=dT:=λd hw=>by
    have h9:=hw.t k1;exact⟨⟨_,_,_,_,_,by rw[nZ h9,bm (by omega)],by rw[nZ h9,bm (by omega)],by rw[nZ h9,bm (by omega)],by rw[nZ h9,bm (by omega)],by rw[nZ h9,bm (by omega)]⟩,λo=>aO h9 o⟩
   have H:=ae hp;have J:=ae S;have a2:=ae U;clear E hp S U k1 k2 k3 k4;have a3:b<wr.heap.size:=ai C f.o.size;have HW:=ae A.o;obtain⟨zk,zc,zs,zn,zv⟩:=z;obtain⟨x0,x1,x2,x3,x4⟩:=qd N;dsimp only at x0 x1 x2 x3 x4;have b5:(0:Int)<=(j:Int):=by omega
   have b6:(j:Int)<(n:Int):=by omega
   have a4:(0:Int)<=(i:Int):=by omega
   have a5:(i:Int)<(n:Int):=by omega
   have b7:j<cap:=by omega
   have a6:i<cap:=by omega
   clear N;cases p with
   |true=>
    have he:=fF H.o.symm;have t:=ae he;clear he;go_wp2_with (first
     |((first|go_at_call 126|go_at_fn 126);refine(J.o _ ((aj _ _).alloc (ag _) _)).m ?_;rintro e w3 ⟨rfl,hb⟩;have m:=ae (((aj wr.heap.size wr).alloc (ag _) _).t (hb.m (by simp)));clear hb))
    have B:Hid (kV W b off n sz l y i (j+1) w3):=ae ((f.o.below m.o).skip u.o hlt (A.o.symm.t t.o));go_roundw
    case rel=>exact⟨i,j+1,rfl,by go_num,by omega,by omega,B⟩
    case measure=>simp[intOf];omega
   |false=>
    have he:=fY H.o.symm;have t:=ae he;clear he;go_wp2_with (first
     |((first|go_at_call 126|go_at_fn 126);refine(J.o _ ((aj _ _).alloc (ag _) _)).m ?_;rintro e w3 ⟨rfl,hb⟩;have m:=ae (((aj wr.heap.size wr).alloc (ag _) _).t (hb.m (by simp)));have g:=(hb.block wr.heap.size (by simp)).t (aL _ _);have c0:=ej g 0 rfl;have c1:=ej g 1 rfl;have c2:=ej g 2 rfl;have c3:=ej g 3 rfl;have c4:=ej g 4 rfl;obtain⟨⟨v0,v1,v2,v3,v4,d0,d1,d2,d3,d4⟩,df⟩:=a2.o _ (m.o.block b a3);clear hb g))
    have B:Hid (kV W b off n sz l y (i+1) (j+1) (w3.setCells b (off+i*5) (aQ ⟨zk,zc,zs,zn,zv⟩))):=ae ((f.o.below m.o).put u.o hlt A.o t.o (by omega) C);go_roundw
    case rel=>exact⟨i+1,j+1,by go_num,by go_num,by omega,by omega,B⟩
    case measure=>simp[intOf];omega
  ·have e:j=n:=by omega
   subst e;clear hlt;obtain⟨w4,b0,R,P⟩:=f.o.finish u.o Z.o C h3 X.o L;have a1:=ae R;have a0:=ae P;clear R P;have b9:i<=j:=by omega
   have a9:¬cap=i:=by omega
   have a6:i<=cap:=by omega
   have a4:(0:Int)<=(i:Int):=by omega
   have a5:(i:Int)<=(j:Int):=by omega
   go_wp2
   go_ret
   exact⟨_,_,_,rfl,a1.o,a0.o⟩
theorem Hp{hH:bI}{tg:Nat×Nat}{W:ax}{v:bd}{l:List bk}{y:bk}{nb:Nat}(h:jf hH tg W v l)(hb:W.heap[nb]?=de (.cells (aQ y).toArray 54 (0,0)))(i:hH nb≠tg):
  bl ed 127 #[v,.func (.func 126) #[] #[ptr nb]] W λe d=>∃a n c,e= .returned (.slice a n c)/\jf hH tg d (.slice a n c) (l.filter (λx=>decide (x≠y)))/\cG hH W hH d (·=tg):=by
 by_cases hy:y∈l
 ·have j:=h.rd;obtain⟨h1,⟨-,h2⟩|⟨b,off,cap,c,rfl,h3,h4,h5,h6,f,g⟩⟩:=h
  ·rw[bq h2]at hy;cases hy
  ·exact EM h5 h3 h4 h6 f (Jt (hH:=hH) (tg:=tg) (t:=0) (b:=b) g) j hb (λe=>i (by rw[e];exact h5)) hy
 ·exact EN h hb hy
set_option maxHeartbeats 400000
section
variable{hH:bI}{tg:Nat×Nat}{W:ax}
theorem CD(c:bk):∀u∈aQ c,u.oneCell'=dE:=by
 intro u hu;simp[aQ]at hu;rcases hu with h|h|h|h|h<;>subst h<;>rfl
theorem qY{ops:Array Oper}{o:Oper}{a:Act}{K:Act->ax->Prop}{Q:Exit->Act->ax->Prop}{E:Prop}(hg:o.guard=dl)(s x:Operand)(ho:o.op= .call {callee:= .builtin .append,args:=#[s,x],argTypes:=#[39,39]})
  (v:bd)(L:List bk)(g:Nat)(l:bk)(hs:a.eval s=v)(hx:a.eval x= .slice (g,0) 1 1)(h:jf hH tg W v L)(j:W.heap[g]?=de (.cells (aQ l).toArray 54 (0,0)))(q:L.length<1000000000000)
  (hK:∀d f e b c,jf c tg b (.slice d f e) (L++[l])->cG hH W c b (·=tg)->(∀k,b.heap.size<=k->c k=hH k)->K (a.put o.dst (.slice d f e)) b):if Region.wanted o (yielded ops a.tmps)=dE then Oper.wp ed o a W K Q else E:=by
 have hw:Region.wanted o (yielded ops a.tmps)=dE:=by simp[Region.wanted,hg]
 rw[ar hw];obtain⟨i,hi,n,m,hb⟩:=gD GQ;obtain⟨p,b,c,hr,h2,h3,h4⟩:=nt h Tryz.underlying39 hi n m hb rfl (by decide) g (aQ l) rfl j (CD l) (by unfold maxLen;omega) (by omega) o.type;have h5:jf c tg b p (L++[l]):=by
  unfold jf;rw[aD,dP];simpa using h2
 obtain⟨d,e,rfl,-⟩:=h5.shape;exact gJ W s x _ _ ho _ _ hs hx _ b hr (hK d _ e b c h5 h3 h4)
end
def aW(hH:bI)(W:ax)(d:Nat)(G:Gh)(i:Nat)(M':aT)(b:ax):Prop:=
 ∃c a,dB c b d a M'/\(∀j,(a.n j).b=(G.n j).b)/\cG hH W c b (λt=>t.1<6)
theorem oT(M:aT)(i:Nat):M.aX i (M.nd i)=M:=by
 unfold aT.aX;have e:(λj=>if j=i then M.nd i else M.nd j)=M.nd:=by
  funext j;by_cases h:j=i
  ·rw[ar h,h]
  ·rw[ak h]
 rw[e]
theorem add_same{hH:bI}{W w:ax}{a i:Nat}{G:Gh}{M:aT}(h:dB hH W a G M)(hi:i<5){n:dZ}(b:n=M.nd i)(hb:dd W.heap.size W w):aW hH W a G i (M.aX i n) w:=by
 rw[b,oT];exact⟨hH,G,h.below hb,λ_=>rfl,cG.below hb⟩
theorem Kp{hH b:bI}{W w:ax}{l i d:Nat}{G:Gh}{M:aT}{g:GN}{nd:dZ}{v:bd}{L:List bk}(h:dB hH W l G M)(hi:i<5)(hg:g=G.n i)(p:nd=M.nd i)(m:d=g.b)(c:cG hH W b w (·=(i,3)))(o:∀k,w.heap.size<=k->b k=hH k)(q:jf b (i,3) w v L):
  aW hH W l G i (M.aX i {nd with queue:=L}) (w.setCell (d,52) v):=by
 subst hg p m;have f:=h.nd i hi;obtain⟨h1,h2⟩:=h.fN hi c (λt a=>by rw[a];exact⟨rfl,by simp⟩) (λk hk=>by rw[o k hk];exact h.hi k (aE c.size hk)) {G.n i with ja:=v} {M.nd i with queue:=L} rfl (f.pt.Nb c hi (λt a=>a) q) 52 [v] (eY (i:=i) (g:=G.n i) (n:=M.nd i) f.pt.kl {G.n i with ja:=v} {M.nd i with queue:=L} rfl rfl 0 [v] rfl);refine⟨b,_,h1,λj=>?_,h2.m (λt a=>by rw[a];omega)⟩;by_cases e:j=i
 ·show(if j=i then{G.n i with ja:=v}else G.n j).b=_;rw[ar e,e]
 ·show(if j=i then{G.n i with ja:=v}else G.n j).b=_;rw[ak e]
set_option maxHeartbeats 1000000
theorem Dp{hH:bI}{W:ax}{wb i:Nat}{G:Gh}{M:aT}(h:dB hH W wb G M)(hi:i<5)(c:bk)(R:(M.nd i).queue.length<1000000000000):
  bl ed 52 #[ptr (G.n i).b,.agg (aQ c).toArray] W λe W'=>e= .returned (.tuple #[])/\aW hH W wb G i (M.aX i ((M.nd i).add c)) W':=by
 obtain⟨m,x⟩:=aK ((G.n i).b);obtain⟨g,hg⟩:=aK (G.n i);obtain⟨nd,S⟩:=aK (M.nd i);have l:=h.nd i hi;rw[<-x];rw[<-hg]at x l;rw[<-S]at l R|-;obtain⟨z,A,hq,-⟩:=l.pt.ja.shape;obtain⟨la,lc,hl,-⟩:=l.pt.log.shape;have N:=l.dM;rw[<-x]at N;obtain⟨ck,n,cs,p,q⟩:=c;obtain⟨C,hC⟩:∃C:bk,C=⟨ck,n,cs,p,q⟩:=⟨_,rfl⟩
 obtain⟨d1,O⟩:=aK (decide (C∈nd.queue));obtain⟨d2,P⟩:=aK (decide (C∈nd.log));have t:Hid (∀b,dd W.heap.size W b->bl ed 53 #[g.ja,.agg #[ck,n,cs,p,q]] b λe w'=>e= .returned (.bool d1)/\dd b.heap.size b w'):=ae (λb hw=>by
  rw[O,hC];exact uE g.ja nd.queue _ b (l.pt.ja.rd.stay hw))
 have D:Hid (∀b,dd W.heap.size W b->bl ed 53 #[g.log,.agg #[ck,n,cs,p,q]] b λe w'=>e= .returned (.bool d2)/\dd b.heap.size b w'):=ae (λb hw=>by
  rw[P,hC];exact uE g.log nd.log _ b (l.pt.log.rd.stay hw))
 have V:(aN i g nd)[52]?=de g.ja:=dj l.pt.kl 0;have Q:(aN i g nd)[11]?=de g.log:=rfl;show bl ed 52 #[.pointer (de ⟨m,0,dl⟩),.agg #[.int .i64 ck,.int .i64 n,.int .i64 cs,.int .i64 p,.int .i64 q]] W _;rw[<-hC];rw[hq]at t V;rw[hl]at D Q;have Z:=ae O;have a5:=ae P;have HC:=ae hC;have u:=ae h;have HQ:=ae hq;have K:=ae hg;have E:=ae S;have HN:=ae R;have a6:=ae x;have s:=ae N;have F:=ae V;have a7:=ae Q;obtain⟨B,U⟩:=aK nd.queue.length;obtain⟨ll,b5⟩:=aK nd.log.length;rw[<-U]at t F HQ;rw[<-b5]at D a7;have c4:=ae U;clear l R x hg S N V Q hC O P hq hl h U b5;go_enter func52,ntmps52
 go_wp2_with fail
 generalize L:World.alloc _ _=b;have j:=eZ L rfl;have a:=ae (gv L);clear L;obtain⟨r,X⟩:=aK W.heap.size;rw[<-X]at j|-;have c5:=ae X;have c6:=ae j;have w:=(a.o.block m (hF s.o)).t s.o;have c3:=ae w;have e1:∀o,b.cell? ⟨r,o,dl⟩=(#[Value.int .i64 ck,.int .i64 n,.int .i64 cs,.int .i64 p,.int .i64 q])[o]?:=λo=>nZ j;have n1:b.cell? (m,52)=de (.slice z B A):=(aR w 52).t F.o;have n2:b.cell? (m,11)=de (.slice la ll lc):=(aR w 11).t a7.o;have a0:=ej j 0 rfl;have a1:=ej j 1 rfl;have a2:=ej j 2 rfl;have a3:=ej j 3 rfl;have a4:=ej j 4 rfl;have v:=ae (hF j);have L2:=ae (hF w);have m1:=od L2.o n1;have m2:=od L2.o n2;have b0:=od v.o a0;have b1:=od v.o a1;have b2:=od v.o a2;have b3:=od v.o a3;have b4:=od v.o a4;clear X j w e1 n1 n2 a0 a1 a2 a3 a4;cases d1 with
 |true=>
  refine ct (by kernel_rfl) (by kernel_rfl) ?_;repeat (go_big_quiet_step ((go_at_call 53;exact fD (t.o _ (a.o.t ((ox.kj _).m a.o.size))))))
  refine bt ?_;rintro _ ⟨f,rfl⟩;have I:=a.o.t (f.kj.m a.o.size);go_wp2_with fail
  refine jH rfl rfl ⟨rfl,?_⟩;exact add_same u.o hi (show nd.add C=M.nd i by rw[<-E.o];unfold dZ.add;rw[if_pos (.inl (of_decide_eq_true Z.o.symm))]) I
 |false=>
  cases d2 with
  |true=>
   refine ct (by kernel_rfl) (by kernel_rfl) ?_;repeat (go_big_quiet_step (first
    |(go_at_call 53;exact fD (t.o _ (a.o.t ((ox.kj _).m a.o.size))))
    |(go_at_call 53;exact fD (D.o _ (a.o.t ((ox.kj _).m a.o.size))))))
   refine bt ?_;rintro _ ⟨f,rfl⟩;have I:=a.o.t (f.kj.m a.o.size);go_wp2_with fail
   refine jH rfl rfl ⟨rfl,?_⟩;exact add_same u.o hi (show nd.add C=M.nd i by rw[<-E.o];unfold dZ.add;rw[if_pos (.inr (of_decide_eq_true a5.o.symm))]) I
  |false=>
   refine ct (by kernel_rfl) (by kernel_rfl) ?_;repeat (go_big_quiet_step (first
    |(go_at_call 53;exact fD (t.o _ (a.o.t ((ox.kj _).m a.o.size))))
    |(go_at_call 53;exact fD (D.o _ (a.o.t ((ox.kj _).m a.o.size))))))
   refine bt ?_;rintro _ ⟨f,rfl⟩;go_wp2_with fail
   obtain⟨d,k⟩:=aK f.o;have J:=ae (show dd W.heap.size W d by rw[k];exact a.o.t (f.kj.m a.o.size));have q0:d.cell? (m,52)=de (.slice z B A):=by rw[k];exact m1 f
   have y0:d.cell? (r,0)=ck:=by rw[k];exact b0 f
   have y1:d.cell? (r,1)=n:=by rw[k];exact b1 f
   have y2:d.cell? (r,2)=cs:=by rw[k];exact b2 f
   have y3:d.cell? (r,3)=p:=by rw[k];exact b3 f
   have y4:d.cell? (r,4)=q:=by rw[k];exact b4 f
   rw[<-k];clear k m1 m2 b0 b1 b2 b3 b4 f;have a8:=(J.o.block m (hF s.o)).t s.o;have q1:∀o,(d.alloc o).cell? (m,52)=de (.slice z B A):=gV a8 52 F.o;have Y:∀o,cG hH W hH (d.drew.alloc o) (λ_=>False):=λo=>cG.below (J.o.t (((aj d.heap.size d).drew.alloc (ag _) o).m J.o.size));have NX:=ae Y;have y:∀o,jf hH (i,3) (d.drew.alloc o) (.slice z B A) nd.queue:=λo=>by
    have h1:=(u.o.nd i hi).pt.ja;rw[<-K.o,<-E.o,HQ.o]at h1;exact h1.cB (Y o) id
   have b9:=ae y;have b6:hH m=(i,0):=by rw[a6.o,K.o];exact(u.o.nd i hi).tb
   have c1:=ae b6;clear a8 Y y b6;go_region_law (first
    |(refine qY rfl (.tmp 24) (.tmp 26) rfl (.slice z B A) nd.queue d.heap.size ⟨ck,n,cs,p,q⟩ rfl rfl (b9.o _) (aL d.drew _) HN.o ?_;intro va vn vc w' c7 y T a9;have H:=T.at (NX.o _|>.at s.o id) (by rw[c1.o];simp);have d1:=(aR H 52).t F.o;have df:=aO H;have XW:=ae H;have c0:=ae y;have b8:=ae (((NX.o _).m (λ_ h=>h.elim)).t T);have b7:=ae a9;clear H y T a9))
   all_goals (
    refine jH rfl rfl ⟨rfl,?_⟩;have c2:nd.add C={nd with queue:=nd.queue++[C]}:=by
     unfold dZ.add;rw[ak (λh=>h.elim (fY Z.o.symm) (fY a5.o.symm))]
    rw[c2,HC.o];exact Kp u.o hi K.o E.o a6.o b8.o b7.o c0.o)
theorem lQ(a b:Int×Int)(w:ax):
  bl ed 82 #[.agg #[a.1,a.2],.agg #[b.1,b.2]] w λe w'=>e= .returned (.bool (later a b))/\dd w.heap.size w w':=by
 obtain⟨a1,a2⟩:=a;obtain⟨b1,b2⟩:=b;have c:∀A B,dd w.heap.size w ((w.alloc A).alloc B):=λA B=>((aj w.heap.size w).alloc (ag _) A).alloc (by simp) B;have f:=ae c;clear c;obtain⟨d,hd⟩:=aK (later (a1,a2) (b1,b2));rw[<-hd];unfold later at hd;dsimp only at hd|-;have g:(decide (b1<a1)=dE/\d=dE)\/(decide (b1<a1)=dT/\(a1==b1)=dE/\decide (b2<a2)=d)\/(decide (b1<a1)=dT/\(a1==b1)=dT/\d=dT):=by
  by_cases h1:b1<a1
  ·exact .inl ⟨by simpa using h1,by rw[hd];simp[h1]⟩
  ·by_cases h2:a1=b1
   ·exact .inr (.inl ⟨by simpa using h1,by simpa using h2,by rw[hd,h2];simp⟩)
   ·exact .inr (.inr ⟨by simpa using h1,by simpa using h2,by rw[hd];simp[h1,h2]⟩)
 clear hd;rcases g with⟨h1,rfl⟩|⟨h1,h2,h3⟩|⟨h1,h2,rfl⟩
 all_goals (
  go_enter func82,ntmps82
  go_wp2
  go_ret
  refine⟨?_,f.o _ _⟩;first|rfl|(simp_all))
theorem uo(n:Nat)(a:n<1000000)(w:ax):
  bl ed 102 #[n] w λe w'=>e= .returned (.bool (lG n))/\w'=w:=by
 have h0:(0:Int)<=2*(n:Int):=by omega
 have h1:2*(n:Int)<=9223372036854775807:=by omega
 have hw:IntKind.i64.wrap (2*(n:Int))=2*(n:Int):=by
  simp[IntKind.wrap,IntKind.bits,IntKind.signed];omega
 have hm:decide ((5:Int)<2*(n:Int))=lG n:=by
  unfold lG;rw[decide_eq_decide];omega
 go_enter func102,ntmps102
 go_wp2
 go_ret
 exact⟨by rw[<-hm];rfl,rfl⟩
theorem Ez{hH:bI}{W w:ax}{c i d:Nat}{G:Gh}{M:aT}{g:GN}{nd:dZ}(b:Int×Int)(h:dB hH W c G M)(hi:i<5)(hg:g=G.n i)(m:nd=M.nd i)(l:d=g.b)(hb:dd W.heap.size W w):
  aW hH W c G i (M.aX i {nd with heard:=b}) (w.setCells d 7 [b.1,b.2]):=by
 subst hg m l;have f:=h.nd i hi;have hp:xu hH w c i (G.n i) (M.nd i):=f.pt.cB (cG.below (T:=λ_=>False) hb) (λ_ h=>h.elim) (λ_ _=>id);obtain⟨h1,h2⟩:=h.fN hi (cG.below (T:=λ_=>False) hb) (λt a=>a.elim) (λk hk=>h.hi k (aE hb.size hk)) (G.n i) {M.nd i with heard:=b} rfl ⟨hp.kl,hp.kn,hp.tk,hp.mg,hp.gO,hp.log,hp.ja,hp.mO,hp.jq,hp.rg,hp.lO⟩ 7 [b.1,b.2] rfl;refine⟨hH,_,h1,λj=>?_,h2.m (λt a=>by rw[a];omega)⟩;by_cases e:j=i
 ·show(if j=i then G.n i else G.n j).b=_;rw[ar e,e]
 ·show(if j=i then G.n i else G.n j).b=_;rw[ak e]
theorem wL{hH:bI}{W:ax}{t i:Nat}{G:Gh}{M:aT}(h:dB hH W t G M)(hi:i<5)(l:dK)(J:Option Addr)(ln K:Nat):
  bl ed 81 #[ptr t,ptr (G.n i).b,.agg (bP l (.slice J ln K)).toArray] W λe S=>e= .returned (.tuple #[])/\aW hH W t G i (M.aX i ((M.nd i).notes l.bG)) S:=by
 obtain⟨k,Y,X,⟨b1,b2⟩,⟨s,⟨Z,x2⟩,⟨c1,T,U,V,c5⟩⟩,vo⟩:=l;obtain⟨g,hg⟩:=aK (G.n i);obtain⟨nd,r⟩:=aK (M.nd i);have w:=h.nd i hi;rw[<-hg];rw[<-hg,<-r]at w;rw[<-r];obtain⟨p,z⟩:=aK g.b;have y:=w.dM;rw[<-z]at y|-;obtain⟨b,c,q⟩:∃b c,nd.heard=(b,c):=⟨_,_,rfl⟩
 have L:(aN i g nd)[7]?=b:=by show de (Value.int .i64 nd.heard.1)=_;rw[q]
 have N:(aN i g nd)[8]?=c:=by show de (Value.int .i64 nd.heard.2)=_;rw[q]
 obtain⟨d,hd⟩:=aK (later (b1,b2) (b,c));have D:Hid (∀a,bl ed 82 #[.agg #[b1,b2],.agg #[b,c]] a λe w'=>e= .returned (.bool d)/\dd a.heap.size a w'):=ae (λa=>by rw[hd];exact lQ (b1,b2) (b,c) a);show bl ed 81 #[.pointer (de ⟨t,0,dl⟩),.pointer (de ⟨p,0,dl⟩),.agg #[.int .i64 k,.int .i64 Y,.int .i64 X,.int .i64 b1,.int .i64 b2,.int .i64 s,.int .i64 Z,.int .i64 x2,.int .i64 c1,.int .i64 T,.int .i64 U,.int .i64 V,.int .i64 c5,.slice J ln K]] W _;have I:nd.notes (b1,b2)=if d then{nd with heard:=(b1,b2)}else nd:=by unfold dZ.notes;rw[q,hd]
 rw[I];have F:=ae h;have O:=ae hg;have E:=ae r;have P:=ae z;have C:=ae y;have Q:=ae L;have R:=ae N;clear h w hg r z y L N q hd I;go_enter func81,ntmps81
 go_wp2_with fail
 generalize x:World.alloc _ _=a;have m:=eZ x rfl;have f:=ae (gv x);clear x;obtain⟨xb,A⟩:=aK W.heap.size;rw[<-A]at m|-;have a0:=ae A;have j:=(f.o.block p (hF C.o)).t C.o;have H:=ae (hF m);have v:=ae (hF j);have m1:=od v.o ((aR j 7).t Q.o);have m2:=od v.o ((aR j 8).t R.o);have y3:=od H.o (ej m 3 rfl);have y4:=od H.o (ej m 4 rfl);have df:∀n:ox a,∀o,n.o.frozen? (p,o)=dT:=λn o=>aO ((n.kj.block p v.o).t j) o;clear A m j;cases d with
 |true=>
  refine ct (by kernel_rfl) (by kernel_rfl) ?_;repeat (go_big_quiet_step ((go_at_call 82;exact fD (D.o _))))
  refine bt ?_;rintro _ ⟨B,rfl⟩;have u:=ae (f.o.t (B.kj.m f.o.size));go_wp2_with fail
  refine jH rfl rfl ⟨rfl,?_⟩;exact Ez (b1,b2) F.o hi O.o E.o P.o u.o
 |false=>
  refine ct (by kernel_rfl) (by kernel_rfl) ?_;repeat (go_big_quiet_step ((go_at_call 82;exact fD (D.o _))))
  refine bt ?_;rintro _ ⟨B,rfl⟩;have u:=ae (f.o.t (B.kj.m f.o.size));go_wp2_with fail
  refine jH rfl rfl ⟨rfl,?_⟩;exact add_same F.o hi E.o u.o
theorem aW.pre{hH:bI}{W w w':ax}{a i j:Nat}{G:Gh}{M:aT}(h:aW hH w a G i M w')(hb:dd W.heap.size W w):aW hH W a G j M w':=by
 obtain⟨c,b,h1,h2,h3⟩:=h;exact⟨c,b,h1,h2,(cG.below (T:=λt=>t.1<6) hb).t h3⟩
theorem aW.t{hH:bI}{W w':ax}{c i j k:Nat}{G:Gh}{M d:aT}{w:ax}(h:aW hH W c G i M w)
  (h2:∀b a,dB b w c a M->(∀j,(a.n j).b=(G.n j).b)->aW b w c a j d w'):aW hH W c G k d w':=by
 obtain⟨b,a,a1,a2,a3⟩:=h;obtain⟨g,e,b1,b2,f⟩:=h2 b a a1 a2;exact⟨g,e,b1,λj=>(b2 j).t (a2 j),a3.t f⟩
theorem Ey{hH:bI}{W:ax}{a i:Nat}{G:Gh}{M:aT}(h:dB hH W a G M)(hi:i<5)(l:dK)(p:Option Addr)(ln q:Nat)(hq:(M.nd i).queue.length<1000000000000):
  bl ed 78 #[ptr a,ptr (G.n i).b,.agg (bP l (.slice p ln q)).toArray] W λe t=>e= .returned (.tuple #[])/\aW hH W a G i (M.aX i ((M.nd i).add l.cP.cW)) t:=by
 obtain⟨k,v,u,⟨b1,b2⟩,⟨s,⟨y,z⟩,⟨c1,d,f,g,c5⟩⟩,A⟩:=l;have b:=ae (λx (hb:dd W.heap.size W x)=>Dp (h.below hb) hi ⟨c1,d,f,g,c5⟩ hq);unfold ptr aQ at b;obtain⟨w,m⟩:=aK ((G.n i).b);rw[<-m]at b|-;show bl ed 78 #[.pointer (de ⟨a,0,dl⟩),.pointer (de ⟨w,0,dl⟩),.agg #[.int .i64 k,.int .i64 v,.int .i64 u,.int .i64 b1,.int .i64 b2,.int .i64 s,.int .i64 y,.int .i64 z,.int .i64 c1,.int .i64 d,.int .i64 f,.int .i64 g,.int .i64 c5,.slice p ln q]] W _;have c:=ae (λo=>(aj W.heap.size W).alloc (ag _) o);clear h m;go_enter func78,ntmps78
 go_wp2_with (go_at_call 52;refine(b.o _ (c.o _)).m ?_;rintro e B ⟨rfl,n⟩;have r:=ae (n.pre (j:=i) (c.o _));clear n)
 refine gw (dY rfl _ _ _) rfl ⟨rfl,r.o⟩
theorem Hb{α β:Type}(f:α->β)(m:List (Int×α))(k:Int):cd (m.map λp=>(p.1,f p.2)) k=(cd m k).map f:=by
 induction m with
 |nil=>rfl
 |cons p m a=>
  unfold cd;simp only[dm];split
  ·rfl
  ·exact a
theorem Ll(w:ax):(zeroValue 54).run ed w= .ok (eG bk.zero) w:=Tryz.zeroValue54 w
theorem jx{W:ax}{b:Nat}{m:List (Int×bk)}(h:dO W b (m.map λp=>(p.1,eG p.2)))(k:Int):
  (Instr.lookup 78 (.map (de b)) k dE).run ed W= .ok (.tuple #[eG ((cd m k).getD bk.zero),.bool (cd m k).isSome]) W:=by
 rw[pP h Tryz.underlying78 Tryz.underlying3 _ (Ll W) k,Hb];cases cd m k<;>rfl
theorem jm(hH:bI)(W:ax):dG hH W (.slice dl 0 0) []:=⟨⟨⟨dl,0,rfl,ag _,bX _,λh=>absurd rfl h⟩,.inl rfl⟩,λh=>absurd rfl h⟩
theorem aW.send{hH:bI}{W w:ax}{c i:Nat}{G:Gh}{M:aT}{d:bd}{a:bI}{b:aT}(h1:dB a w c {G with cz:=d} b)(h2:cG hH W a w (λt=>t=(5,0)\/t=(5,2))):aW hH W c G i b w:=
 ⟨a,_,h1,λ_=>rfl,h2.m (λt e=>by rcases e with rfl|rfl<;>decide)⟩
theorem DH{hH:bI}{W:ax}{m i:Nat}{G:Gh}{M:aT}(h:dB hH W m G M)(hi:i<5)(l:dK)(E:Option Addr)(ln F:Nat)(hf:M.cz.length<1000000000000):
  bl ed 79 #[ptr m,ptr (G.n i).b,.agg (bP l (.slice E ln F)).toArray] W λe W'=>e= .returned (.tuple #[])/\aW hH W m G i (M.oh i l) W':=by
 obtain⟨k,g,A,⟨b1,b2⟩,⟨s,⟨H,I⟩,⟨c1,u,v,y,c5⟩⟩,vo⟩:=l;obtain⟨f,C⟩:=aK (M.aX i ((M.nd i).notes (b1,b2)));have q:=ae (λw1 (hb:dd W.heap.size W w1)=>wL (h.below hb) hi ⟨k,g,A,(b1,b2),⟨s,(H,I),⟨c1,u,v,y,c5⟩⟩,vo⟩ E ln F);unfold ptr bP aS at q;dsimp only[List.cons_append,List.nil_append]at q;rw[<-C]at q;have a3:f.cz.length<1000000000000:=by rw[C];exact hf
 have a7:M.oh i ⟨k,g,A,(b1,b2),⟨s,(H,I),⟨c1,u,v,y,c5⟩⟩,vo⟩=match cd (f.nd i).known s with
   |none=>f
   |some c=>f.send i g {dK.zero with kind:=6,cP:=⟨s,(0,0),c⟩}:=by
  unfold aT.oh;rw[<-C];rfl
 rw[a7];obtain⟨c,hc⟩:=aK (cd (f.nd i).known s);rw[<-hc];have HC:=ae hc;obtain⟨B,O⟩:=aK ((G.n i).b);rw[<-O]at q|-;show bl ed 79 #[.pointer (de ⟨m,0,dl⟩),.pointer (de ⟨B,0,dl⟩),.agg #[.int .i64 k,.int .i64 g,.int .i64 A,.int .i64 b1,.int .i64 b2,.int .i64 s,.int .i64 H,.int .i64 I,.int .i64 c1,.int .i64 u,.int .i64 v,.int .i64 y,.int .i64 c5,.slice E ln F]] W _;have BA:=ae (λo=>(aj W.heap.size W).alloc (ag _) o);have b4:=ae (h.hi W.heap.size (ag _));have b0:=ae O;have HF:=ae a3;clear h O a7 C a3 hc;go_enter func79,ntmps79
 go_wp2_with (go_at_call 81;refine(q.o _ (BA.o _)).m ?_;rintro e a ⟨rfl,b7,p,hr,hG,hx⟩;have n:=hx.at (aL W _) (by rw[b4.o];decide);have a1:=ae ((cG.below (T:=λt=>t.1<6) (BA.o _)).t hx);have R2:=ae hr;have J:=ae hG;clear hr hG hx)
 obtain⟨xb,Q⟩:=aK W.heap.size;rw[<-Q]at n|-;have P:B=(p.n i).b:=by rw[b0.o,J.o]
 have K:=R2.o.nd i hi;have b:=K.dM;rw[<-P]at b;have a8:a.cell? (B,10)=de (.map (de (p.n i).kn)):=(aR b 10).t rfl;have a9:∀o,(a.alloc o).cell? (B,10)=de (.map (de (p.n i).kn)):=gV b 10 rfl;have hkn:=K.pt.kn;obtain⟨kn,a4⟩:=aK ((p.n i).kn);rw[<-a4]at a8 a9 hkn;have r:=λ(w:ax) (hw:w.heap[kn]?=a.heap[kn]?)=>jx (dO.other hkn hw) s;rw[<-HC.o]at r;obtain⟨z,R⟩:=aK (c.getD bk.zero);obtain⟨d,hd⟩:=aK c.isSome;rw[<-R,<-hd]at r;have HZ:=ae R;have HD:=ae hd;obtain⟨U,V,X,Y,Z⟩:=z;have l1:∀o,(a.alloc o).heap[kn]?=a.heap[kn]?:=λo=>by
  obtain⟨es,ck,hb,-⟩:=hkn;exact eF a o kn (hF hb)
 have k1:=r a.drew rfl;have k2:=λo=>r (a.alloc o).drew (l1 o);unfold eG at k1 k2;dsimp only at k1 k2;have y1:=ej n 1 rfl;have y5:=ej n 5 rfl;have b9:∀o,(a.alloc o).cell? (xb,5)=s:=λo=>gV (L:=[k,g,A,b1,b2,s,H,I,c1,u,v,y,c5,.slice E ln F]) n 5 rfl o;have a2:=ae n;have c0:=ae Q;have b3:=ae P;clear r hkn K b R hd l1 a4 Q n P;go_region
 all_goals (
  obtain⟨nb,b⟩:=aK a.heap.size;rw[<-b];generalize N:World.drew _=w3;have D:dd a.heap.size a w3:=by rw[<-N];first|exact((aj a.heap.size a).alloc (ag _) _).drew|exact(aj a.heap.size a).drew.alloc (ag _) _
  have j:w3.heap[nb]?=de (.cells #[U,V,X,Y,Z] 54 (0,0)):=by rw[<-N,b];exact aL a _
  have B3:=ae D;have R3:=ae (R2.o.below D);have S:=(D.block xb (hF a2.o)).t a2.o;have u1:=ej S 1 rfl;have u5:=ej S 5 rfl;have e0:=ej j 0 rfl;have e1:=ej j 1 rfl;have e2:=ej j 2 rfl;have e3:=ej j 3 rfl;have e4:=ej j 4 rfl;have T3:=ae (show aW hH W m G i f w3 from⟨b7,p,R3.o,J.o,a1.o.t (cG.below B3.o)⟩);clear N D j S b a8 a9 k1 k2 y1 y5 b9;cases d with
  |false=>
   have b5:c=dl:=by
    cases c with
    |none=>rfl
    |some x=>have:=HD.o;cases this
   subst b5;go_wp2_with fail
   exact gw (dY rfl _ _ _) rfl ⟨rfl,T3.o⟩
  |true=>
   have b6:c=de ⟨U,V,X,Y,Z⟩:=by
    cases c with
    |none=>have:=HD.o;cases this
    |some x=>rw[HZ.o];rfl
   subst b6;have a0:=ae (jN R3.o hi g {dK.zero with kind:=6,cP:=⟨s,(0,0),⟨U,V,X,Y,Z⟩⟩} (.slice dl 0 0) (jm _ _) HF.o);rw[<-b3.o]at a0;go_wp2_with (go_at_call 84;refine a0.o.m ?_;rintro e w4 ⟨b8,JT,rfl,a6,a5⟩;have T4:=ae (show aW hH W m G i _ w4 from⟨b8,_,a6,J.o,(a1.o.t (cG.below B3.o)).t (a5.m (λt ht=>by rcases ht with rfl|rfl<;>decide))⟩);clear a6 a5)
   exact gw (dY rfl _ _ _) rfl ⟨rfl,T4.o⟩)
def Iw(hH:bI)(W:ax)(d:Nat)(G:Gh)(i:Nat)(M':aT)(b:ax):Prop:=
 ∃c a,dB c b d a M'/\(∀j,(a.n j).b=(G.n j).b)/\cG hH W c b (λt=>t.1=i)
theorem GW{hH a:bI}{W w:ax}{l i d:Nat}{G:Gh}{M:aT}{g:GN}{nd:dZ}{v:bd}{L:List dK}(h:dB hH W l G M)(hi:i<5)(hg:g=G.n i)(p:nd=M.nd i)(m:d=g.b)(b:cG hH W a w (·=(i,5)))(o:∀k,w.heap.size<=k->a k=hH k)(q:jA a (i,5) w v L):
  Iw hH W l G i (M.aX i {nd with inbox:=L}) (w.setCell (d,54) v):=by
 subst hg p m;have f:=h.nd i hi;obtain⟨h1,h2⟩:=h.fN hi b (λt c=>by rw[c];exact⟨rfl,by simp⟩) (λk hk=>by rw[o k hk];exact h.hi k (aE b.size hk)) {G.n i with jq:=v} {M.nd i with inbox:=L} rfl (f.pt.NY b hi (λt c=>c) q) 54 [v] (eY (i:=i) (g:=G.n i) (n:=M.nd i) f.pt.kl {G.n i with jq:=v} {M.nd i with inbox:=L} rfl rfl 2 [v] rfl);refine⟨a,_,h1,λj=>?_,h2⟩;by_cases e:j=i
 ·show(if j=i then{G.n i with jq:=v}else G.n j).b=_;rw[ar e,e]
 ·show(if j=i then{G.n i with jq:=v}else G.n j).b=_;rw[ak e]
theorem dB.nodeAt{hH:bI}{W:ax}{c:Nat}{G:Gh}{M:aT}(h:dB hH W c G M):∃b off cap,G.nodes= .slice (b,off) 5 cap/\b<W.heap.size/\(hH b)=(5,1)/\∀i,i<5->W.cell? (b,off+i)=de (ptr (G.n i).b):=by
 have h1:=h.nodes;obtain⟨a,cap,e,-⟩:=h1.shape;rw[e]at h1;obtain⟨b,off,ea,hb,hm,hc⟩:=h1.cell (by decide);refine⟨b,off,cap,by rw[e,ea],hb,hm,λi hi=>?_⟩;rw[hc i (by omega)];simp[hi]
theorem wX{hH:bI}{W:ax}{t i:Nat}{G:Gh}{M:aT}(h:dB hH W t G M)(hi:i<5)(l:dK)(hd:l.dst=(i:Int))(lv:bd)(hl:dG hH W lv l.aV)(H:(M.nd i).inbox.length<1000000000000):
  bl ed 34 #[ptr t,.agg (bP l lv).toArray] W λe W'=>e= .returned (.tuple #[])/\Iw hH W t G i (M.jG l) W':=by
 obtain⟨N,ln,O,rfl⟩:=hl.1.shape;have a0:M.jG l=if(M.nd i).up then M.aX i {M.nd i with inbox:=(M.nd i).inbox++[l]}else M:=by
  unfold aT.jG;rw[hd];rfl
 rw[a0];obtain⟨k,fr,ds,⟨b1,b2⟩,⟨s,⟨x1,x2⟩,⟨c1,X,Y,Z,c5⟩⟩,vo⟩:=l;obtain rfl:ds=(i:Int):=hd;obtain⟨g,hg⟩:=aK (G.n i);obtain⟨nd,x⟩:=aK (M.nd i);obtain⟨j,m⟩:=aK g.b;have d:=h.nd i hi;rw[<-hg,<-x]at d;rw[<-x]at H|-;obtain⟨rb,ro,rc,c,a3,b9,a4⟩:=h.nodeAt;have J:=a4 i hi;rw[<-hg,<-m]at J;have F:=d.dM;rw[<-m]at F;obtain⟨p,r,q,hq⟩:=d.pt.jq.shape;have a6:(aN i g nd)[54]?=de (.slice p r q):=(dj d.pt.kl 2).t (by show de g.jq=_;rw[hq]);obtain⟨u,hu⟩:=aK nd.up;have v1:(aN i g nd)[1]?=de (.bool u):=by rw[hu];rfl
 have K:=h.dM;have i0:(0:Int)<=(i:Int):=by omega
 have i5:(i:Int)<5:=by omega
 rw[<-hu];show bl ed 34 #[.pointer (de ⟨t,0,dl⟩),.agg #[.int .i64 k,.int .i64 fr,.int .i64 i,.int .i64 b1,.int .i64 b2,.int .i64 s,.int .i64 x1,.int .i64 x2,.int .i64 c1,.int .i64 X,.int .i64 Y,.int .i64 Z,.int .i64 c5,.slice N ln O]] W _;have B:=ae h;have HL:=ae hl;have HN:=ae H;have R:=ae hg;have S:=ae x;have a7:=ae m;have A:=ae F;have V1:=ae v1;have C:=ae a6;have HQ:=ae hq;have T:=ae J;have b3:=ae a3;have HU:=ae hu;have w0:W.cell? (t,0)=de (.slice (rb,ro) 5 rc):=by rw[<-c];exact(aR K 0).t rfl
 have W0:=ae w0;have b7:=ae (hF K);have a5:hH j=(i,0):=by rw[m];exact d.tb
 have b6:=ae a5;clear h hl H hg x m F v1 a6 d c a3 b9 a4 J hq K a0 w0 hu a5;unfold ptr at T;go_enter func34,ntmps34
 go_wp2_with fail
 generalize E:World.alloc _ _=w1;have n:=eZ E rfl;have v:=ae (gv E);clear E;obtain⟨xb,L⟩:=aK W.heap.size;rw[<-L]at n|-;have U:=ae (hF n);have m0:=EW v.o b7.o W0.o;have m1:=EW v.o b3.o T.o;have m2:=od U.o (ej n 2 rfl);have b8:=ae n;have c0:=ae L;clear n L;refine ct (by kernel_rfl) (by kernel_rfl) ?_;repeat (go_big_quiet_step (fail))
 refine bt ?_;rintro _ ⟨P,rfl⟩;obtain⟨b,D⟩:=aK P.o;have Q:=ae (show dd w1.heap.size w1 b by rw[D];exact P.kj);rw[<-D];clear D m0 m1 m2 P;have f:=ae (v.o.t (Q.o.m v.o.size));have w:=(f.o.block j (hF A.o)).t A.o;have q1:b.cell? (j,1)=de (.bool u):=(aR w 1).t V1.o;cases u with
 |false=>
  go_wp2_with fail
  refine jH rfl rfl ⟨rfl,?_⟩;exact⟨hH,G,B.o.below f.o,λ_=>rfl,cG.below f.o⟩
 |true=>
  go_wp2_with fail
  have a:=(Q.o.block xb U.o).t b8.o;have y0:=ej a 0 rfl;have y1:=ej a 1 rfl;have y2:=ej a 2 rfl;have y3:=ej a 3 rfl;have y4:=ej a 4 rfl;have y5:=ej a 5 rfl;have y6:=ej a 6 rfl;have y7:=ej a 7 rfl;have y8:=ej a 8 rfl;have y9:=ej a 9 rfl;have c6:=ej a 10 rfl;have c7:=ej a 11 rfl;have c8:=ej a 12 rfl;have c9:=ej a 13 rfl;have c3:b.cell? (j,54)=de (.slice p r q):=(aR w 54).t C.o;have c4:∀o,(b.alloc o).cell? (j,54)=de (.slice p r q):=gV w 54 C.o;have y:∀o,cG hH W hH (b.drew.alloc o) (λ_=>False):=λo=>cG.below (f.o.t (((aj b.heap.size b).drew.alloc (ag _) o).m f.o.size));have V:=ae y;have c:∀o,jA hH (i,5) (b.drew.alloc o) (.slice p r q) nd.inbox:=λo=>by
   have h1:=(B.o.nd i hi).pt.jq;rw[<-R.o,<-S.o,HQ.o]at h1;exact h1.cB (y o) (λ_ h=>h.elim) id
  have b4:=ae c;have vy:∀o,dG hH (b.drew.alloc o) (.slice N ln O) vo:=λo=>HL.o.cB (y o) (λ_ h=>h.elim);have VY:=ae vy;have a2:((i,5):Nat×Nat).1≠6:=by show i≠6;omega
  have a9:=ae a2;clear w a y c vy a2 q1;go_region_law (first
   |(refine vY rfl (.tmp 21) (.tmp 23) rfl (.slice p r q) nd.inbox b.heap.size ⟨k,fr,i,(b1,b2),⟨s,(x1,x2),⟨c1,X,Y,Z,c5⟩⟩,vo⟩ (.slice N ln O) rfl rfl (b4.o _) a9.o (aL b.drew _) (VY.o _) HN.o ?_;intro va vn vc w' c2 c I a1;have z:=I.at (V.o _|>.at A.o id) (by rw[b6.o];simp);have d1:=(aR z 54).t C.o;have df:=aO z;have XW:=ae z;have b5:=ae c;have b0:=ae (((V.o _).m (λ_ h=>h.elim)).t I);have a8:=ae a1;clear z c I a1))
  all_goals (
   refine jH rfl rfl ⟨rfl,?_⟩;rw[ar rfl];exact GW B.o hi R.o S.o a7.o b0.o a8.o b5.o)
theorem Ai{hH:bI}{W:ax}{b i:Nat}{G:Gh}{M:aT}(h:dB hH W b G M)(hi:i<5)(l:dK)(hd:l.dst=(i:Int))(a:bd)(hl:dG hH W a l.aV)(f:(M.nd i).inbox.length<1000000000000):
  bl ed 34 #[ptr b,.agg (bP l a).toArray] W λe c=>e= .returned (.tuple #[])/\aW hH W b G i (M.jG l) c:=by
 exact(wX h hi l hd a hl f).m λe c ⟨e1,k,d,r,g,n⟩=>⟨e1,k,d,r,g,n.m (λt j=>by rw[j];omega)⟩
set_option maxHeartbeats 400000
theorem tF:∀(L:List dK) (vs:List bd),vs.length=L.length->∀i,i<L.length->∀q,q<14->((List.zipWith bP L vs).flatten)[i*14+q]?=(bP (L.getD i dK.zero) (vs.getD i (.slice dl 0 0)))[q]?
 |[],_,_,i,hi,_,_=>absurd hi (lu _)
 |l::L,[],h,_,_,_,_=>by simp at h
 |l::L,v::vs,h,0,_,q,hq=>by
  rw[mv,jI,Nat.zero_mul,ca,bU (by show q<14;exact hq)];rfl
 |l::L,v::vs,h,i+1,hi,q,hq=>by
  rw[mv,jI,bF (by show 14<=_;omega)];have e:(i+1)*14+q-(bP l v).length=i*14+q:=by show(i+1)*14+q-14=_;omega
  rw[e,tF L vs (by simpa using h) i (by simpa using hi) q hq];rfl
theorem pB:∀(L:List dK) (vs:List bd) (i:Nat),vs.length=L.length->i<L.length->(List.zipWith bP (L.eraseIdx i) (vs.eraseIdx i)).flatten=((List.zipWith bP L vs).flatten).take (i*14)++((List.zipWith bP L vs).flatten).drop ((i+1)*14)
 |[],_,_,_,hi=>absurd hi (lu _)
 |l::L,[],_,h,_=>by simp at h
 |l::L,v::vs,0,h,_=>by
  simp only[List.eraseIdx_cons_zero,mv,jI,Nat.zero_mul,cQ,cK];have e:(0+1)*14=(bP l v).length:=rfl;rw[e,List.drop_left]
 |l::L,v::vs,i+1,h,hi=>by
  have hl:(bP l v).length=14:=rfl;simp only[List.eraseIdx_cons_succ,mv,jI];rw[pB L vs i (by simpa using h) (by simpa using hi),show(i+1)*14=(bP l v).length+i*14 by rw[hl];omega,show(i+1+1)*14=(bP l v).length+(i+1)*14 by rw[hl];omega,List.take_length_add_append,List.drop_length_add_append,bJ,hl,show 14+i*14=(i+1)*14 by omega]
section
variable{hH:bI}{tg:Nat×Nat}{W:ax}
theorem jA.at{b off n c:Nat}{L:List dK}(h:jA hH tg W (.slice (b,off) n c) L)(i:Nat)(hi:i<L.length):
  ∃d,dG hH W d (L.getD i dK.zero).aV/\b<W.heap.size/\hH b=tg/\∀q,q<14->W.cell? (b,off+i*14+q)=(bP (L.getD i dK.zero) d)[q]?:=by
 obtain⟨vs,h1,h2,h3⟩:=h;refine⟨vs.getD i (.slice dl 0 0),h3 i hi,?_⟩;obtain⟨a,cap,e,-⟩:=h2.shape;injection e with e1 e2 e3;subst e1 e2 e3;obtain⟨f,g,e,hb,hm,hc⟩:=h2.cell (by omega);injection e with e;injection e with e1 e2;subst e1 e2;refine⟨hb,hm,λq hq=>?_⟩;rw[<-tF L vs h1 i hi q hq,eI];exact hc _ (by omega)
theorem jA.one{v:bd}{L:List dK}{vs:List bd}(h1:vs.length=L.length)(h3:∀j,j<L.length->dG hH W (vs.getD j (.slice dl 0 0)) (L.getD j dK.zero).aV):∀u∈(List.zipWith bP L vs).flatten,u.oneCell'=dE:=by
 intro u hu;obtain⟨cs,b,hu⟩:=np.1 hu;obtain⟨j,hj,e⟩:=List.mem_iff_getElem.1 b;rw[List.length_zipWith]at hj;rw[List.getElem_zipWith]at e;obtain⟨a,n,c,d⟩:=(h3 j (by omega)).1.shape;have e2:vs[j]'(by omega)= .slice a n c:=by
  rw[<-d];simp[au,show j<vs.length by omega]
 rw[<-e,e2]at hu;exact GD _ a n c u hu
theorem Ce{v:bd}{L:List dK}(h:jA hH tg W v L)(f:tg.1≠6)(i:Nat)(hi:i<L.length):
  bl ed 57 #[v,i,(i+1:Int)] W λe b=>∃a n c,e= .returned (.slice a n c)/\jA hH tg b (.slice a n c) (L.eraseIdx i)/\cG hH W hH b (·=tg)/\b.heap.size=W.heap.size:=by
 obtain⟨vs,h1,h2,h3⟩:=h;refine(Ho h2 (jA.one (v:=v) h1 h3) i hi).m ?_;rintro e w' ⟨a,c,rfl,hr,d,hs⟩;have g:Fair (·=tg):=λt k=>by rw[k];exact f
 have hl:(L.eraseIdx i).length=L.length-1:=fK hi;refine⟨a,_,c,rfl,⟨vs.eraseIdx i,?_,?_,λj hj=>?_⟩,d,hs⟩
 ·rw[fK (by omega),hl,h1]
 ·rw[hl,pB L vs i h1 hi];exact hr
 ·rw[hl]at hj;have e1:(vs.eraseIdx i).getD j (.slice dl 0 0)=vs.getD (if j<i then j else j+1) (.slice dl 0 0):=by
   rw[au,List.getElem?_eraseIdx,au];split<;>rfl
  have e2:(L.eraseIdx i).getD j dK.zero=L.getD (if j<i then j else j+1) dK.zero:=by
   rw[au,List.getElem?_eraseIdx,au];split<;>rfl
  rw[e1,e2];exact(h3 _ (by split<;>omega)).cB d g
theorem pJ:∀(L:List bk) (i:Nat),i<L.length->(L.eraseIdx i).flatMap aQ=(L.flatMap aQ).take (i*5)++(L.flatMap aQ).drop ((i+1)*5)
 |[],_,hi=>absurd hi (lu _)
 |l::L,0,_=>by
  simp only[List.eraseIdx_cons_zero,gC,Nat.zero_mul,cQ,cK];have e:(0+1)*5=(aQ l).length:=rfl;rw[e,List.drop_left]
 |l::L,i+1,hi=>by
  have hl:(aQ l).length=5:=rfl;simp only[List.eraseIdx_cons_succ,gC];rw[pJ L i (by simpa using hi),show(i+1)*5=(aQ l).length+i*5 by rw[hl];omega,show(i+1+1)*5=(aQ l).length+(i+1)*5 by rw[hl];omega,List.take_length_add_append,List.drop_length_add_append,bJ,hl,show 5+i*5=(i+1)*5 by omega]
theorem Ad{v:bd}{L:List bk}(h:jf hH tg W v L)(i:Nat)(hi:i<L.length):
  bl ed 129 #[v,i,(i+1:Int)] W λe b=>∃a n c,e= .returned (.slice a n c)/\jf hH tg b (.slice a n c) (L.eraseIdx i)/\cG hH W hH b (·=tg)/\b.heap.size=W.heap.size:=by
 refine(Hr h (λu hu=>?_) i hi).m ?_
 ·obtain⟨c,-,hc⟩:=List.mem_flatMap.1 hu;exact CD c u hc
 ·rintro e w' ⟨a,c,rfl,hr,d,hs⟩;refine⟨a,_,c,rfl,?_,d,hs⟩;unfold jf;rw[fK hi,pJ L i hi];exact hr
end
set_option maxHeartbeats 1000000
theorem dB.LZ{hH a:bI}{W w':ax}{b:Nat}{G:Gh}{M:aT}(h:dB hH W b G M){v:bd}{d:List dK}(m:jA a (5,2) w' v d)(c:cG hH W a w' (·=(5,2)))(j:∀k,w'.heap.size<=k->a k=hH k):
  dB a (w'.setCell (b,1) v) b {G with cz:=v} {M with cz:=d}/\cG hH W a (w'.setCell (b,1) v) (λt=>t=(5,0)\/t=(5,2)):=by
 have hb:=c.at h.dM (by rw[h.tw];decide);have hm:a b=(5,0):=(c.mark h.dM).t h.tw;have k2:cG a w' a (w'.setCell (b,1) v) (·=(5,0)):=⟨rfl,rfl,rfl,by simp[World.setCell],λq hq l=>aA _ _ (λe=>l (by rw[e];exact hm)),λ_ _=>rfl⟩
 have k:=(c.m (T':=λt=>t=(5,0)\/t=(5,2)) (λ_ h=>.inr h)).t (k2.m (λ_ h=>.inl h));have i:Fair (·=((5,0):Nat×Nat)):=λt f e=>by rw[f]at e;cases e
 refine⟨h.world k (λt f=>by rcases f with rfl|rfl<;>rfl) (by decide) (λq hq=>?_) (M':={M with cz:=d}) (told:=G.told) rfl ?_ ?_ ?_,k⟩
 ·have g:w'.heap.size<=q:=by simpa[World.setCell]using hq
  rw[j q g];exact h.hi q (aE c.size g)
 ·rw[aB hb];rfl
 ·exact m.cB k2 i (by decide)
 ·exact(h.told.cB c (by decide)).cB k2 (by decide)
theorem Eg{hH:bI}{W:ax}{b:Nat}{G:Gh}{M:aT}(h:dB hH W b G M)(k:Nat)(comes stays:Bool)(d:M.cz=[]):
  bl ed 33 #[ptr b,k,.bool comes,.bool stays] W λe g=>e= .returned (.tuple #[])/\aW hH W b G 0 (M.iC k comes stays) g:=by
 have hp:M.iC k comes stays=M:=by unfold aT.iC;rw[if_pos d]
 rw[hp];obtain⟨a,n,c,hv⟩:=h.cz.shape;have i:n=0:=by
  obtain⟨vs,h1,h2,h3⟩:=h.cz;obtain⟨a',j,e,-⟩:=h2.shape;rw[hv]at e;injection e with _ e _;rw[e,d];rfl
 subst i;have l:W.cell? (b,1)=de (.slice a 0 c):=by rw[<-hv];exact(aR h.dM 1).t rfl
 have f:=ae h;clear h hv d hp;unfold ptr;go_enter func33,ntmps33
 go_wp2_with fail
 refine aH (dY rfl _ _ _) rfl ⟨rfl,?_⟩;exact⟨hH,G,f.o,λ_=>rfl,cG.refl _ _ _⟩
theorem Ef{hH:bI}{W:ax}{o:Nat}{G:Gh}{M:aT}(h:dB hH W o G M)(k:Nat)(hk:k<1000000000000)(comes stays:Bool)(F:M.cz≠[])(hlen:M.cz.length<1000000000000){j:Nat}(hj:j<5)(hd:(M.cz.getD (k%M.cz.length) dK.zero).dst=(j:Int))(Y:(M.nd j).inbox.length<1000000000000):
  bl ed 33 #[ptr o,k,.bool comes,.bool stays] W λe W'=>e= .returned (.tuple #[])/\aW hH W o G j (M.iC k comes stays) W':=by
 obtain⟨a,n,c,hv⟩:=h.cz.shape;have r:n=M.cz.length/\n<=c:=by
  obtain⟨vs,h1,h2,h3⟩:=h.cz;obtain⟨a',c',e,h5,h6⟩:=h2.shape;rw[hv]at e;injection e with _ e e3;exact⟨e,by omega⟩
 obtain⟨r,d0⟩:=r;have Z:0<M.cz.length:=dw.2 F;obtain⟨i,hi⟩:=aK (k%M.cz.length);have X:i<M.cz.length:=by rw[hi];exact fm _ Z
 have v:=h.cz;rw[hv]at v;obtain⟨b,off,ha⟩:∃b off,a=de ⟨b,off,dl⟩:=by
  obtain⟨vs,h1,h2,h3⟩:=v;obtain⟨a',c',e,h5,h6⟩:=h2.shape;injection e with e1 e2 e3;subst e1 e2 e3;obtain⟨b,off,e,-⟩:=h2.cell Z;exact⟨b,off,e⟩
 subst ha;obtain⟨lv,w,hb,hm,hc⟩:=v.at i X;rw[<-hi]at hd;obtain⟨l,hl⟩:=aK (M.cz.getD i dK.zero);rw[<-hl]at w hc hd;have w1:W.cell? (o,1)=de (.slice (b,off) n c):=by rw[<-hv];exact(aR h.dM 1).t rfl
 have hp:M.iC k comes stays=if comes then(if stays then M else{M with cz:=M.cz.eraseIdx i}).jG l else(if stays then M else{M with cz:=M.cz.eraseIdx i}):=by
  unfold aT.iC;rw[if_neg F,<-hi,<-hl]
 rw[hp];obtain⟨J,ln,K,rfl⟩:=w.1.shape;obtain⟨L,D,ds,⟨b1,b2⟩,⟨s,⟨P,Q⟩,⟨c1,A,B,C,c5⟩⟩,vo⟩:=l;obtain rfl:ds=(j:Int):=hd;have z0:W.cell? (b,off+i*14)=L:=hc 0 (by decide);have z1:W.cell? (b,off+i*14+1)=D:=hc 1 (by decide);have z2:W.cell? (b,off+i*14+2)=j:=hc 2 (by decide);have z3:W.cell? (b,off+i*14+3)=b1:=hc 3 (by decide);have z4:W.cell? (b,off+i*14+4)=b2:=hc 4 (by decide);have z5:W.cell? (b,off+i*14+5)=s:=hc 5 (by decide);have z6:W.cell? (b,off+i*14+6)=P:=hc 6 (by decide);have z7:W.cell? (b,off+i*14+7)=Q:=hc 7 (by decide);have z8:W.cell? (b,off+i*14+8)=c1:=hc 8 (by decide);have z9:W.cell? (b,off+i*14+9)=A:=hc 9 (by decide);have b8:W.cell? (b,off+i*14+10)=B:=hc 10 (by decide);have b9:W.cell? (b,off+i*14+11)=C:=hc 11 (by decide);have c0:W.cell? (b,off+i*14+12)=c5:=hc 12 (by decide);have c2:W.cell? (b,off+i*14+13)=de (.slice J ln K):=hc 13 (by decide);have y:=ae h;have HL:=ae w;have c3:=ae hl;have S:=ae Y;have HN:=ae r;have a7:=ae hv;have b0:k%n=i:=by rw[r,<-hi]
 have c8:(k:Int)%(n:Int)=(i:Int):=by rw[<-b0];rfl
 have c9:((n:Int)==0)=dT:=by rw[aJ];omega
 have c7:(i:Int)<(n:Int):=by omega
 have c6:(0:Int)<=(i:Int):=by omega
 have d2:¬(n:Int)=0:=by omega
 clear h w hl Y r hi hc hp hv v F;unfold ptr;go_enter func33,ntmps33
 go_upto_region 3 with fail
 generalize p:World.alloc _ _=wA;have I:=eZ p rfl;have m:=ae (gv p);clear p z0 z1 z2 z3 z4 z5 z6 z7 z8 z9 b8 b9 c0 c2;obtain⟨xb,a3⟩:=aK W.heap.size;rw[<-a3]at I|-;have RA:=ae (y.o.below m.o);have U:=ae (HL.o.cB (cG.below (T:=λ_=>False) m.o) (λ_ h=>h.elim));have X6:Hid ((hH xb).1=6):=ae (y.o.hi xb (by omega));have q1:=cZ m.o (hF y.o.dM) w1;have d:=ae I;clear I a3 w1;cases stays with
 |true=>
  cases comes with
  |false=>
   go_wp2_with fail
   refine jH rfl rfl ⟨rfl,?_⟩;exact⟨hH,G,RA.o,λ_=>rfl,cG.below m.o⟩
  |true=>
   have x:=ae (Ai RA.o hj ⟨L,D,(j:Int),(b1,b2),⟨s,(P,Q),⟨c1,A,B,C,c5⟩⟩,vo⟩ rfl (.slice J ln K) U.o S.o);have y0:=ej d.o 0 rfl;have y1:=ej d.o 1 rfl;have y2:=ej d.o 2 rfl;have y3:=ej d.o 3 rfl;have y4:=ej d.o 4 rfl;have y5:=ej d.o 5 rfl;have y6:=ej d.o 6 rfl;have y7:=ej d.o 7 rfl;have y8:=ej d.o 8 rfl;have y9:=ej d.o 9 rfl;have b4:=ej d.o 10 rfl;have b5:=ej d.o 11 rfl;have b6:=ej d.o 12 rfl;have b7:=ej d.o 13 rfl;go_wp2_with (go_at_call 34;refine x.o.m ?_;rintro e w4 ⟨rfl,g⟩;have z:=ae (g.pre (j:=j) m.o);clear g)
   exact gw (dY rfl _ _ _) rfl ⟨rfl,z.o⟩
 |false=>
  have E:=RA.o.cz;rw[a7.o]at E;have a4:=ae (Ce (W:=wA) E (by decide) i X);have a2:=RA.o.dM;have a8:=ae a2;clear E a2;go_upto_region 5 with(go_at_call 57;refine a4.o.m ?_;rintro e w5 ⟨a5,n5,c4,rfl,a0,H,a1⟩;have R:=H.at a8.o (by rw[RA.o.tw];decide);have d1:=(aR R 1).t (show _=de G.cz from rfl);have df:=aO R;have R5:=ae a0;have a9:=ae H;have S5:=ae a1;clear a0 H a1 R)
  obtain⟨O,N⟩:=RA.o.LZ R5.o a9.o (λk hk=>rfl);generalize p:World.setCell w5 _ _=w8 at O N|-;have u:=ae N;have V:=ae O;have f:=u.o.at d.o (by intro g;have:=X6.o;rcases g with e|e<;>rw[e]at this<;>cases this);clear p O N d1 df;have T8:=ae (show aW hH W o G j {M with cz:=M.cz.eraseIdx i} w8 from⟨hH,_,V.o,λ_=>rfl,(cG.below (T:=λt=>t.1<6) m.o).t (u.o.m (λt g=>by rcases g with rfl|rfl<;>decide))⟩);cases comes with
  |false=>
   go_wp2_with fail
   exact gw (dY rfl _ _ _) rfl ⟨rfl,T8.o⟩
  |true=>
   have a6:=U.o.cB u.o (λt g e=>by rcases g with rfl|rfl<;>cases e);have x:=ae (Ai V.o hj ⟨L,D,(j:Int),(b1,b2),⟨s,(P,Q),⟨c1,A,B,C,c5⟩⟩,vo⟩ rfl (.slice J ln K) a6 S.o);have y0:=ej f 0 rfl;have y1:=ej f 1 rfl;have y2:=ej f 2 rfl;have y3:=ej f 3 rfl;have y4:=ej f 4 rfl;have y5:=ej f 5 rfl;have y6:=ej f 6 rfl;have y7:=ej f 7 rfl;have y8:=ej f 8 rfl;have y9:=ej f 9 rfl;have b4:=ej f 10 rfl;have b5:=ej f 11 rfl;have b6:=ej f 12 rfl;have b7:=ej f 13 rfl;go_wp2_with (go_at_call 34;refine x.o.m ?_;rintro e w9 ⟨rfl,b3,G9,u1,u2,u3⟩;have z:=ae (show aW hH W o G j _ w9 from⟨b3,G9,u1,λq=>u2 q,((cG.below (T:=λt=>t.1<6) m.o).t (u.o.m (λt g=>by rcases g with rfl|rfl<;>decide))).t u3⟩);clear u1 u2 u3)
   exact gw (dY rfl _ _ _) rfl ⟨rfl,z.o⟩
set_option maxHeartbeats 400000
theorem JQ:(prog.info? 137).map (λi=>(i.zero,i.size,i.bytes))=de (de (.agg #[(0:Int),(0:Int),(0:Int),(0:Int),(0:Int)]),5,40):=by kernel_rfl
theorem Lu(c:vj):∀u∈ee c,u.oneCell'=dE:=by
 intro u hu;simp[ee]at hu;rcases hu with h|h|h|h|h<;>subst h<;>rfl
section
variable{hH:bI}{tg:Nat×Nat}{W:ax}
theorem rQ{ops:Array Oper}{o:Oper}{a:Act}{K:Act->ax->Prop}{Q:Exit->Act->ax->Prop}{E:Prop}(hg:o.guard=dl)(s x:Operand)(ho:o.op= .call {callee:= .builtin .append,args:=#[s,x],argTypes:=#[32,32]})
  (v:bd)(L:List vj)(g:Nat)(l:vj)(hs:a.eval s=v)(hx:a.eval x= .slice (g,0) 1 1)(h:ev hH tg 137 5 W v L.length (L.flatMap ee))(j:W.heap[g]?=de (.cells (ee l).toArray 137 (0,0)))(q:L.length<1000000000000)
  (hK:∀d f e b c,ev c tg 137 5 b (.slice d f e) (L++[l]).length ((L++[l]).flatMap ee)->cG hH W c b (·=tg)->(∀k,b.heap.size<=k->c k=hH k)->K (a.put o.dst (.slice d f e)) b):if Region.wanted o (yielded ops a.tmps)=dE then Oper.wp ed o a W K Q else E:=by
 have hw:Region.wanted o (yielded ops a.tmps)=dE:=by simp[Region.wanted,hg]
 rw[ar hw];obtain⟨i,hi,n,m,hb⟩:=gD JQ;obtain⟨p,b,c,hr,h2,h3,h4⟩:=nt h Tryz.underlying32 hi n m hb rfl (by decide) g (ee l) rfl j (Lu l) (by unfold maxLen;omega) (by omega) o.type;have h5:ev c tg 137 5 b p (L++[l]).length ((L++[l]).flatMap ee):=by
  rw[aD,dP];simpa using h2
 obtain⟨d,e,rfl,-⟩:=h5.shape;exact gJ W s x _ _ ho _ _ hs hx _ b hr (hK d _ e b c h5 h3 h4)
end
theorem dB.CH{hH a:bI}{W w':ax}{b:Nat}{G:Gh}{M:aT}(h:dB hH W b G M){v:bd}{f:List vj}(n:ev a (5,3) 137 5 w' v f.length (f.flatMap ee))(c:cG hH W a w' (·=(5,3)))(l:∀k,w'.heap.size<=k->a k=hH k):
  dB a (w'.setCell (b,14) v) b {G with told:=v} {M with told:=f}/\cG hH W a (w'.setCell (b,14) v) (λt=>t=(5,0)\/t=(5,3)):=by
 have hb:=c.at h.dM (by rw[h.tw];decide);have hm:a b=(5,0):=(c.mark h.dM).t h.tw;have k2:cG a w' a (w'.setCell (b,14) v) (·=(5,0)):=⟨rfl,rfl,rfl,by simp[World.setCell],λq hq m=>aA _ _ (λe=>m (by rw[e];exact hm)),λ_ _=>rfl⟩
 have k:=(c.m (T':=λt=>t=(5,0)\/t=(5,3)) (λ_ h=>.inr h)).t (k2.m (λ_ h=>.inl h));have i:Fair (·=((5,0):Nat×Nat)):=λt d e=>by rw[d]at e;cases e
 have j:Fair (·=((5,3):Nat×Nat)):=λt d e=>by rw[d]at e;cases e
 refine⟨h.world k (λt d=>by rcases d with rfl|rfl<;>rfl) (by decide) (λq hq=>?_) (M':={M with told:=f}) (cz:=G.cz) (told:=v) rfl ?_ ?_ ?_,k⟩
 ·have g:w'.heap.size<=q:=by simpa[World.setCell]using hq
  rw[l q g];exact h.hi q (aE c.size g)
 ·rw[aB hb];rfl
 ·exact(h.cz.cB c j (by decide)).cB k2 i (by decide)
 ·exact n.cB k2 (by decide)
theorem zr{α β:Type}(f:α->β)(m:List (Int×α))(k:Int)(v:α):di (m.map λp=>(p.1,f p.2)) k (f v)=(di m k v).map λp=>(p.1,f p.2):=by
 induction m with
 |nil=>rfl
 |cons p m a=>
  unfold di;simp only[dm];split
  ·rfl
  ·rw[a];rfl
theorem dB.GK{hH:bI}{W:ax}{f i:Nat}{G:Gh}{M:aT}(h:dB hH W f G M)(hi:i<5)(s:Int)(c:bk):
  ∃d,(Instr.mapUpdate 78 (.map (de (G.n i).kn)) s (eG c)).run ed W= .ok () d/\aW hH W f G i (M.aX i {M.nd i with known:=di (M.nd i).known s c}) d/\d.heap.size=W.heap.size:=by
 have a:=h.nd i hi;obtain⟨o,hr,hm⟩:=lU (P:=ed) a.pt.kn Tryz.underlying78 Tryz.underlying3 s (eG c);rw[zr]at hm;obtain⟨hp,hk⟩:=a.pt.Ox hi hm;refine⟨_,hr,⟨hH,_,h.node hi (hk.m (T':=λt=>t.1=i) (λt b=>by rw[b])) (λt b=>b) (λq hq=>h.hi q (by simpa using hq)) (g:=G.n i) rfl ⟨?_,a.tb,hp⟩,λj=>?_,hk.m (λt b=>by rw[b];show i<6;omega)⟩,by simp⟩
 ·have:=hk.at a.dM (by rw[a.tb];simp);exact this
 ·by_cases e:j=i
  ·show(if j=i then G.n i else G.n j).b=_;rw[ar e,e]
  ·show(if j=i then G.n i else G.n j).b=_;rw[ak e]
section
variable{hH ix:bI}{W W1:ax}{wb i:Nat}{G:Gh}{M:aT}{T:Nat×Nat->Prop}
theorem dB.jc(h:dB hH W wb G M)(hi:i<5)(k:cG hH W ix W1 T)(b:∀t,T t->t.1=i/\t.2≠0)(c:∀k,W1.heap.size<=k->ix k=hH k)(g':GN)(a:dZ)(hg:g'.b=(G.n i).b)(hp:xu ix W1 wb i g' a)
  (o:Nat)(vs:List bd)(hc:vE (aN i (G.n i) (M.nd i)) o vs=aN i g' a):aW hH W wb G i (M.aX i a) (W1.setCells (G.n i).b o vs):=by
 obtain⟨h1,h2⟩:=h.fN hi k b (λq hq=>by rw[c q hq];exact h.hi q (aE k.size hq)) g' a hg hp o vs hc;refine⟨ix,_,h1,λj=>?_,h2.m (λt d=>by rw[d];omega)⟩;by_cases e:j=i
 ·show(if j=i then g' else G.n j).b=_;rw[ar e,e,hg]
 ·show(if j=i then g' else G.n j).b=_;rw[ak e]
theorem dB.LN(h:dB hH W wb G M)(hi:i<5)(k:cG hH W ix W1 (·=(i,2)))(b:∀k,W1.heap.size<=k->ix k=hH k){v:bd}{L:List bk}(c:jf ix (i,2) W1 v L):aW hH W wb G i (M.aX i {M.nd i with log:=L}) (W1.setCell ((G.n i).b,11) v):=
 h.jc hi k (λt a=>by rw[a];exact⟨rfl,by simp⟩) b {G.n i with log:=v} {M.nd i with log:=L} rfl ((h.nd i hi).pt.NR k hi (λt a=>a) c) 11 [v] rfl
theorem dB.LB(h:dB hH W wb G M)(hi:i<5)(k:cG hH W ix W1 (·=(i,3)))(b:∀k,W1.heap.size<=k->ix k=hH k){v:bd}{L:List bk}(c:jf ix (i,3) W1 v L):aW hH W wb G i (M.aX i {M.nd i with queue:=L}) (W1.setCell ((G.n i).b,52) v):=
 h.jc hi k (λt a=>by rw[a];exact⟨rfl,by simp⟩) b {G.n i with ja:=v} {M.nd i with queue:=L} rfl ((h.nd i hi).pt.Nb k hi (λt a=>a) c) 52 [v] (eY (i:=i) (g:=G.n i) (n:=M.nd i) (h.nd i hi).pt.kl {G.n i with ja:=v} {M.nd i with queue:=L} rfl rfl 0 [v] rfl)
theorem dB.FA(h:dB hH W wb G M)(hi:i<5)(k:cG hH W ix W1 (·=(i,4)))(b:∀k,W1.heap.size<=k->ix k=hH k){v:bd}{L:List bk}(c:jf ix (i,4) W1 v L):aW hH W wb G i (M.aX i {M.nd i with wait:=L}) (W1.setCell ((G.n i).b,53) v):=
 h.jc hi k (λt a=>by rw[a];exact⟨rfl,by simp⟩) b {G.n i with mO:=v} {M.nd i with wait:=L} rfl ((h.nd i hi).pt.NI k hi (λt a=>a) c) 53 [v] (eY (i:=i) (g:=G.n i) (n:=M.nd i) (h.nd i hi).pt.kl {G.n i with mO:=v} {M.nd i with wait:=L} rfl rfl 1 [v] rfl)
theorem dB.Lv(h:dB hH W wb G M)(hi:i<5){s:dA}(hs:s.Ok):aW hH W wb G i (M.aX i {M.nd i with store:=s}) (W.setCells (G.n i).b 12 s.cells):=
 have hp:=(h.nd i hi).pt
 h.jc hi (cG.refl hH W (λ_=>False)) (λt a=>a.elim) (λ_ _=>rfl) (G.n i) {M.nd i with store:=s} rfl ⟨hs,hp.kn,hp.tk,hp.mg,hp.gO,hp.log,hp.ja,hp.mO,hp.jq,hp.rg,hp.lO⟩ 12 s.cells (sK hp.kl s hs)
end
theorem lN{α:Type}(p:Int×α)(m:List (Int×α))(k:Int)(v:α):di (p::m) k v=if p.1=k then(k,v)::m else p::di m k v:=rfl
theorem Ea{α:Type}(m:List (Int×α))(k:Int)(v u:α):di (di m k v) k u=di m k u:=by
 induction m with
 |nil=>simp[di]
 |cons p m a=>
  rw[lN,lN];by_cases h:p.1=k
  ·rw[ar h,ar h,lN,ar rfl]
  ·rw[ak h,ak h,lN,ak h,a]
theorem tX{α:Type}(f:Int->bd)(m:List (Int×α))(k:Int)(v:α)(u:bd)(a:(m.map (·.1)).Nodup):di (m.map λp=>(p.1,f p.1)) k u=((di m k v).map λp=>(p.1,if p.1=k then u else f p.1)):=by
 induction m with
 |nil=>simp[di]
 |cons p m b=>
  rw[dm,gG]at a;rw[dm,lN,lN];by_cases h:p.1=k
  ·rw[ar h,ar h,dm];simp only[if_true];congr 1;apply kJ;intro q hq;have:q.1≠k:=λe=>a.1 (by rw[h,<-e];exact cH.2 ⟨q,hq,rfl⟩);rw[ak this]
  ·rw[ak h,ak h,dm];simp only[ak h];rw[b a.2]
theorem BG{α β:Type}(f:Int->bd)(m:List (Int×α))(n:List (Int×β))(h:m.map (·.1)=n.map (·.1)):(m.map λp=>(p.1,f p.1))=n.map λp=>(p.1,f p.1):=by
 have e1:(m.map λp=>(p.1,f p.1))=(m.map (·.1)).map λk=>(k,f k):=by rw[List.map_map];rfl
 have e2:(n.map λp=>(p.1,f p.1))=(n.map (·.1)).map λk=>(k,f k):=by rw[List.map_map];rfl
 rw[e1,e2,h]
theorem Gk(m:List Int)(k:Int)(b:m.Nodup):di (m.map λx=>(x,Value.agg #[])) k (.agg #[])=(iA m k).map λx=>(x,Value.agg #[]):=by
 unfold iA;by_cases h:k∈m
 ·rw[ar h];clear b;induction m with
  |nil=>cases h
  |cons x m a=>
   simp only[dm];unfold di;by_cases e:x=k
   ·rw[ar e,e]
   ·rw[ak e,a ((dF.1 h).resolve_left (λe2=>e e2.symm))]
 ·rw[ak h,du];clear b;induction m with
  |nil=>rfl
  |cons x m a=>
   simp only[dm,List.cons_append];unfold di;have e:x≠k:=λe=>h (e▸bO ..);rw[ak e,a (λhm=>h (bw _ hm))];rfl
theorem nW{α:Type}{m:List (Int×α)}{k:Int}{v:α}(h:(m.map (·.1)).Nodup)(hm:(k,v)∈m):cd m k=de v:=by
 induction m with
 |nil=>cases hm
 |cons p m a=>
  rw[dm,gG]at h;unfold cd;rcases dF.1 hm with e|hm
  ·rw[<-e,ar rfl]
  ·have:p.1≠k:=λe=>h.1 (by rw[e];exact cH.2 ⟨_,hm,rfl⟩);rw[ak this];exact a h.2 hm
section
variable{hH ix:bI}{W W1:ax}{wb i:Nat}{G:Gh}{M:aT}{gr gr':GR}{r r':eW}
theorem dB.zj{T:Nat×Nat->Prop}(h:dB hH W wb G M)(hi:i<5)(hp:(M.nd i).cI=dl)(hg:(G.n i).rg=de gr)(hr:(M.nd i).rg=de r)(k:cG hH W ix W1 T)(c:∀t,T t->t.1=i/\6<=t.2)(l:∀k,W1.heap.size<=k->(ix k).1=6)(hb:gr'.b=gr.b)(n:jt ix W1 i gr' r'):
  ∃d,dB ix W1 wb d (M.aX i {M.nd i with rg:=de r'})/\(∀j,(d.n j).b=(G.n j).b)/\(d.n i).rg=de gr'/\cG hH W ix W1 (λt=>t.1<6):=by
 have b:=h.nd i hi;have f:Fair T:=λt a e=>by have:=(c t a).1;omega
 have hm:∀m,m<6->¬T (i,m):=λm hm a=>by have:=(c _ a).2;simp at this;omega
 refine⟨_,h.node hi k (λt a=>(c t a).1) l (g:={G.n i with rg:=de gr'}) rfl ⟨?_,(k.mark b.dM).t b.tb,?_⟩,λj=>?_,?_,k.m (λt a=>by have:=(c t a).1;omega)⟩
 ·have:=k.at b.dM (by rw[b.tb];exact hm 0 (by omega));have e:aN i {G.n i with rg:=de gr'} {M.nd i with rg:=de r'}=aN i (G.n i) (M.nd i):=by
   unfold aN lF nC;simp[hg,hb]
  show W1.heap[(G.n i).b]?=de (.cells (aN i {G.n i with rg:=de gr'} {M.nd i with rg:=de r'}).toArray _ _);rw[e];exact this
 ·have hq:=b.pt;have o:(G.n i).lO= .nilFunc:=by
   have:=hq.lO;unfold eO at this;rw[hp]at this;exact this
  exact⟨hq.kl,hq.kn.cB k (by rw[hq.tk];exact hm 1 (by omega)),(hq.kn.mark k).t hq.tk,hq.mg.cB k f,hq.gO.cB k f,hq.log.cB k (hm 2 (by omega)),hq.ja.cB k (hm 3 (by omega)),hq.mO.cB k (hm 4 (by omega)),hq.jq.cB k f (hm 5 (by omega)),n,by
   unfold eO;show match(M.nd i).cI with|none=>_|some q=>_
   rw[hp];exact o⟩
 ·by_cases e:j=i
  ·show(if j=i then{G.n i with rg:=de gr'}else G.n j).b=_;rw[ar e,e]
  ·show(if j=i then{G.n i with rg:=de gr'}else G.n j).b=_;rw[ak e]
 ·show(if i=i then{G.n i with rg:=de gr'}else G.n i).rg=_;rw[ar rfl]
theorem dB.wo(h:dB hH W wb G M)(hi:i<5)(hr:(M.nd i).rg=de r):∃gr,(G.n i).rg=de gr/\jt hH W i gr r:=by
 have h1:=(h.nd i hi).pt.rg;rw[hr]at h1;cases e:(G.n i).rg with
 |none=>rw[e]at h1;exact h1.elim
 |some gr=>rw[e]at h1;exact⟨gr,rfl,h1⟩
theorem qC{b m:Nat}{o:Obj}(hb:hH b=(i,m)):cG hH W hH {W with heap:=W.heap.setIfInBounds b o} (·=(i,m)):=⟨rfl,rfl,rfl,by simp,λq hq a=>by
 rw[cV (λe=>a (by rw[<-e];exact hb))],λ_ _=>rfl⟩
theorem dB.CP(h:dB hH W wb G M)(hi:i<5)(hp:(M.nd i).cI=dl)(hg:(G.n i).rg=de gr)(hr:(M.nd i).rg=de r)(s:(r.prom.map (·.1)).Nodup)(k:Int)(c:bd)(l:List cF)(hl:dG hH W c l):
  ∃n,(Instr.mapUpdate 140 (.map (de gr.prom)) k c).run ed W= .ok () n/\aW hH W wb G i (M.aX i {M.nd i with rg:=de {r with prom:=di r.prom k l}}) n:=by
 obtain⟨z,d,a⟩:=h.wo hi hr;rw[hg]at d;injection d with d;subst d;obtain⟨o,y,hm⟩:=lU (P:=ed) a.prom Tryz.underlying140 Tryz.underlying3 k c;have b:cG hH W hH {W with heap:=W.heap.setIfInBounds gr.prom o} (·=(i,7)):=qC a.tm;have g:Fair (·=(i,7)):=λt j e=>by rw[j]at e;simp at e;omega
 have f:∀m,m≠7->¬(i,m)=(i,7):=λm hm e=>by injection e with _ e;exact hm e
 have hk:=tX gr.pv r.prom k l c s;rw[hk]at hm;refine(λv=>by
  obtain⟨u,h1,h2,h3,h4⟩:=h.zj hi hp hg hr b (λt j=>by rw[j];exact⟨rfl,by simp⟩) (λq hq=>h.hi q (by simpa using hq)) (gr':={gr with pv:=λx=>if x=k then c else gr.pv x}) (r':={r with prom:=di r.prom k l}) rfl v;exact⟨_,y,hH,u,h1,h2,h4⟩) (show jt hH {W with heap:=W.heap.setIfInBounds gr.prom o} i {gr with pv:=λx=>if x=k then c else gr.pv x} {r with prom:=di r.prom k l}from⟨b.at a.dM (by rw[a.tb];exact f 6 (by omega)),a.tb,hm,a.tm,a.dD.cB b (by rw[a.tp];exact f 8 (by omega)),a.tp,a.ps.cB b (by rw[a.tv];exact f 9 (by omega)),a.tv,λp hp=>⟨(a.kG p hp).1.cB b (by rw[(a.kG p hp).2];exact f _ (by omega)),(a.kG p hp).2⟩,λp hp=>?_⟩)
 ·show dG hH _ (if p.1=k then c else gr.pv p.1) p.2;rcases lX hp with rfl|w
  ·rw[ar rfl];exact hl.cB b g
  ·by_cases e:p.1=k
   ·have h5:=km s k l;have h6:cd (di r.prom k l) p.1=de p.2:=nW h5 hp;rw[e]at h6;rw[fw,ar rfl]at h6;injection h6 with h6;rw[ar e,<-h6];exact hl.cB b g
   ·rw[ak e];exact(a.pv p w).cB b g
theorem dB.Ln(h:dB hH W wb G M)(hi:i<5)(hp:(M.nd i).cI=dl)(hg:(G.n i).rg=de gr)(hr:(M.nd i).rg=de r)(s:(r.aV.map (·.1)).Nodup)(k:Int)(hk:cd r.aV k=dl):
  ∃n w d,(Instr.mapUpdate 141 (.map (de gr.ps)) k (.map (de W.heap.size))).run ed (W.alloc (.map #[] 0))= .ok () n/\dB w n wb d (M.aX i {M.nd i with rg:=de {r with aV:=di r.aV k []}})/\(∀j,(d.n j).b=(G.n j).b)/\(d.n i).rg=de {gr with kG:=λx=>if x=k then W.heap.size else gr.kG x}/\cG hH W w n (λt=>t.1<6):=by
 obtain⟨F,l,A⟩:=h.wo hi hr;rw[hg]at l;injection l with l;subst l;obtain⟨ix,ho⟩:∃ix:bI,ix=λq=>if q=W.heap.size then(i,100+k.toNat)else hH q:=⟨_,rfl⟩
 have v:cG hH W ix (W.alloc (.map #[] 0)) (λ_=>False):=⟨rfl,rfl,rfl,by rw[cp];exact Nat.le_succ _,λq hq _=>eF W _ q hq,λq hq=>by rw[ho];exact ak (by omega)⟩
 have z:Fair (λ_=>False):=λt g=>g.elim;have a:=A.cB v z (λ_ _=>id);have u:ix W.heap.size=(i,100+k.toNat):=by rw[ho];exact ar rfl
 obtain⟨o,E,hm⟩:=lU (P:=ed) a.ps Tryz.underlying141 Tryz.underlying3 k (.map (de W.heap.size));have c:cG ix (W.alloc (.map #[] 0)) ix {(W.alloc (.map #[] 0))with heap:=(W.alloc (.map #[] 0)).heap.setIfInBounds gr.ps o} (·=(i,9)):=qC a.tv;have f:∀m,m≠9->¬(i,m)=(i,9):=λm hm e=>by injection e with _ e;exact hm e
 have y:Fair (·=(i,9)):=λt g e=>by rw[g]at e;simp at e;omega
 have C:=tX (λx=>.map (de (gr.kG x))) r.aV k [] (.map (de W.heap.size)) s;rw[C]at hm;have k2:cG hH W ix {(W.alloc (.map #[] 0))with heap:=(W.alloc (.map #[] 0)).heap.setIfInBounds gr.ps o} (·=(i,9)):=(v.m (λ_ h=>h.elim)).t c;have D:((di r.aV k []).map λp=>(p.1,if p.1=k then Value.map (de W.heap.size)else .map (de (gr.kG p.1))))=(di r.aV k []).map λp=>(p.1,.map (de (if p.1=k then W.heap.size else gr.kG p.1))):=by
  apply kJ;intro p _;split<;>rfl
 rw[D]at hm;refine(λB=>by
  obtain⟨d,h1,h2,h3,h4⟩:=h.zj hi hp hg hr k2 (λt g=>by rw[g];exact⟨rfl,by simp⟩) (λq hq=>by
   have H:W.heap.size+1<=q:=by simpa using hq
   rw[ho];show(if q=W.heap.size then _ else hH q).1=6;rw[ak (by omega)];exact h.hi q (by omega)) (gr':={gr with kG:=λx=>if x=k then W.heap.size else gr.kG x}) (r':={r with aV:=di r.aV k []}) rfl B
  exact⟨_,ix,d,E,h1,h2,h3,h4⟩) (show jt ix {(W.alloc (.map #[] 0))with heap:=(W.alloc (.map #[] 0)).heap.setIfInBounds gr.ps o} i {gr with kG:=λx=>if x=k then W.heap.size else gr.kG x} {r with aV:=di r.aV k []}from⟨c.at a.dM (by rw[a.tb];exact f 6 (by omega)),a.tb,a.prom.cB c (by rw[a.tm];exact f 7 (by omega)),a.tm,a.dD.cB c (by rw[a.tp];exact f 8 (by omega)),a.tp,hm,a.tv,λp b=>?_,λp b=>(a.pv p b).cB c y⟩)
 ·show dO _ (if p.1=k then W.heap.size else gr.kG p.1) _/\ix (if p.1=k then W.heap.size else gr.kG p.1)=_;rcases lX b with rfl|b
  ·rw[ar rfl];exact⟨(dO.new W).cB c (by rw[u];exact f _ (by omega)),u⟩
  ·have hpk:p.1≠k:=λe=>by
    have:=nW s (show(p.1,p.2)∈r.aV from b);rw[e,hk]at this;cases this
   rw[ak hpk];exact⟨(a.kG p b).1.cB c (by rw[(a.kG p b).2];exact f _ (by omega)),(a.kG p b).2⟩
theorem dB.Lm(h:dB hH W wb G M)(hi:i<5)(hp:(M.nd i).cI=dl)(hg:(G.n i).rg=de gr)(hr:(M.nd i).rg=de r)(C:(r.aV.map (·.1)).Nodup)(h0:∀p∈r.aV,0<=p.1)(s:Int)(ks:List Int)(hs:cd r.aV s=de ks)(B:ks.Nodup)(k:Int):
  ∃d,(Instr.mapUpdate 185 (.map (de (gr.kG s))) k (.agg #[])).run ed W= .ok () d/\aW hH W wb G i (M.aX i {M.nd i with rg:=de {r with aV:=di r.aV s (iA ks k)}}) d/\dO d (gr.kG s) ((iA ks k).map λx=>(x,.agg #[]))/\(∃c,(c.n i).rg=de gr/\dB hH d wb c (M.aX i {M.nd i with rg:=de {r with aV:=di r.aV s (iA ks k)}})/\(∀j,(c.n j).b=(G.n j).b)/\cG hH W hH d (λt=>t.1<6)):=by
 obtain⟨H,f,a⟩:=h.wo hi hr;rw[hg]at f;injection f with f;subst f;have u:=kQ hs;obtain⟨z,w⟩:=a.kG _ u;obtain⟨o,E,hm⟩:=lU (P:=ed) z Tryz.underlying185 Tryz.underlying3 k (.agg #[]);rw[Gk ks k B]at hm;have b:cG hH W hH {W with heap:=W.heap.setIfInBounds (gr.kG s) o} (·=(i,100+s.toNat)):=qC w;have g:∀m,m<100->¬(i,m)=(i,100+s.toNat):=λm hm e=>by injection e with _ e;omega
 have y:Fair (·=(i,100+s.toNat)):=λt v e=>by rw[v]at e;simp at e;omega
 have F:(((di r.aV s (iA ks k)).map λp=>(p.1,Value.map (de (gr.kG p.1)))):List (Int×bd))=r.aV.map λp=>(p.1,.map (de (gr.kG p.1))):=by
  refine BG (λx=>.map (de (gr.kG x))) _ _ ?_;rw[wu,ar (cH.2 ⟨_,u,rfl⟩)]
 refine(λA=>by
  obtain⟨c,h1,h2,h3,h4⟩:=h.zj hi hp hg hr b (λt v=>by rw[v];exact⟨rfl,by show 6<=100+s.toNat;omega⟩) (λq hq=>h.hi q (by simpa using hq)) (gr':=gr) (r':={r with aV:=di r.aV s (iA ks k)}) rfl A;exact⟨_,E,⟨hH,c,h1,h2,h4⟩,hm,c,h3,h1,h2,h4⟩) (show jt hH {W with heap:=W.heap.setIfInBounds (gr.kG s) o} i gr {r with aV:=di r.aV s (iA ks k)}from⟨b.at a.dM (by rw[a.tb];exact g 6 (by omega)),a.tb,a.prom.cB b (by rw[a.tm];exact g 7 (by omega)),a.tm,a.dD.cB b (by rw[a.tp];exact g 8 (by omega)),a.tp,by
   show dO _ _ ((di r.aV s (iA ks k)).map λp=>(p.1,Value.map (de (gr.kG p.1))));rw[F];exact a.ps.cB b (by rw[a.tv];exact g 9 (by omega)),a.tv,λp l=>?_,λp l=>(a.pv p l).cB b y⟩)
 ·by_cases e:p.1=s
  ·have h6:cd (di r.aV s (iA ks k)) p.1=de p.2:=nW (km C _ _) l;rw[e]at h6;rw[fw,ar rfl]at h6;injection h6 with h6;rw[e,<-h6];exact⟨hm,w⟩
  ·have n:=(lX l).resolve_left (λe2=>e (by rw[e2]));have D:¬(i,100+p.1.toNat)=(i,100+s.toNat):=λe3=>by
    injection e3 with _ e3;have h5:=h0 _ n;have h6:=h0 _ u;dsimp only at h6;omega
   exact⟨(a.kG p n).1.cB b (by rw[(a.kG p n).2];exact D),(a.kG p n).2⟩
end
def tK(t:Int)(l:List cF):Int:=l.foldl (λt v=>max t v.slot) t
theorem rN(t:Int)(l m:List cF):tK t (l++m)=tK (tK t l) m:=by
 unfold tK;rw[List.foldl_append]
theorem DD(t:Int)(l:List cF)(v:cF):tK t (l++[v])=max (tK t l) v.slot:=rN t l [v]
theorem Je{t:Int}{l:List cF}{B:Int}(h:t<=B)(hl:∀v∈l,v.slot<=B):tK t l<=B:=by
 induction l generalizing t with
 |nil=>exact h
 |cons v l a=>
  have h1:=hl v (bO ..);exact a (show max t v.slot<=B by omega) (λx hx=>hl x (bw _ hx))
theorem Jf(t:Int)(l:List cF):t<=tK t l:=by
 induction l generalizing t with
 |nil=>exact jZ _
 |cons v l a=>exact Int.le_trans (show t<=max t v.slot by omega) (a _)
theorem mW(s:Int):∀(ls:List (List cF)) (b:cF),ls.foldl (dJ s) b=dJ s b ls.flatten
 |[],b=>rfl
 |l::ls,b=>by
  rw[dH,jI,lH,mW s ls]
theorem uF{α:Type}(f:Int->bd)(m:List (Int×α))(k:Int):cd (m.map λp=>(p.1,f p.1)) k=(cd m k).map λ_=>f k:=by
 induction m with
 |nil=>rfl
 |cons p m a=>
  unfold cd;simp only[dm];split
  ·rename_i e;rw[e];rfl
  ·exact a
def pF(a:GR)(r:eW)(m:Nat):bd:=((cd r.prom (m:Int)).map λ_=>a.pv (m:Int)).getD (.slice dl 0 0)
theorem Fx(w:ax):(zeroValue 74).run ed w= .ok (.slice dl 0 0) w:=Tryz.zeroValue74 w
theorem Es{W:ax}{a:GR}{r:eW}(h:dO W a.prom (r.prom.map λp=>(p.1,a.pv p.1)))(m:Nat):
  (Instr.lookup 140 (.map (de a.prom)) (m:Int) dT).run ed W= .ok (pF a r m) W:=by
 rw[re h Tryz.underlying140 Tryz.underlying3 _ (Fx W) (m:Int),uF];rfl
theorem tY{hH:bI}{W:ax}{i:Nat}{a:GR}{r:eW}(h:jt hH W i a r)(m:Nat)(hm:m<5):fz W (pF a r m) (r.lists.getD m []):=by
 have e:r.lists.getD m []=(cd r.prom (m:Int)).getD []:=by
  unfold eW.lists;rw[au,fL,List.getElem?_range hm];rfl
 rw[e];unfold pF;cases hg:cd r.prom (m:Int)with
 |none=>exact⟨⟨dl,0,rfl,ag _,bX _,λh=>absurd rfl h⟩,.inl rfl⟩
 |some l=>exact(h.pv _ (kQ hg)).1
theorem LU:(prog.info? 74).map (λi=>(i.zero,i.size,i.bytes))=de (de (.slice dl 0 0),1,24):=by kernel_rfl
theorem yM{P:Program}(w:ax){ops:Array Oper}{rest:List Oper}{o:Oper}{a:Act}{Q:Exit->Act->ax->Prop}(c:o.guard=dl)(s x:Operand)(t:TypeId)
  (ho:o.op= .call {callee:= .builtin .append,args:=#[s,x],argTypes:=#[t,t]})(v u:bd)(hs:a.eval s=v)(hx:a.eval x=u){b:bd}{w':ax}
  (hr:(Builtin.append_ #[t,t] o.type #[v,u]).run P w= .ok b w')(h:wpList P ops Q rest (a.put o.dst b) w'):wpList P ops Q (o::rest) a w:=
 wpList_plain c λ_ hK=>gJ w s x t t ho v u hs hx b w' hr (hK _ _ h)
structure sP(W wr:ax)(hH:bI)(v:bd)(L:List bd):Prop where
 row:ev hH (7,7) 74 1 wr v L.length L
 b:dd W.heap.size W wr
 o1:∀k,k<W.heap.size->hH k=(6,0)
 o2:∀k,wr.heap.size<=k->hH k=(6,0)
theorem sP.nil(W wr:ax)(h:dd W.heap.size W wr):sP W wr (λ_=>(6,0)) (.slice dl 0 0) []:=⟨ev.nil _ _ _ _ _,h,λ_ _=>rfl,λ_ _=>rfl⟩
theorem sP.below{W wr w:ax}{hH:bI}{v:bd}{L:List bd}(h:sP W wr hH v L)(hb:dd wr.heap.size wr w):sP W w hH v L:=
 ⟨h.row.stay (λk hk _=>hb.block k hk) (λ_ _=>rfl),h.b.t (hb.m h.b.size),h.o1,λk hk=>h.o2 k (aE hb.size hk)⟩
theorem sP.Lh{W wr:ax}{hH:bI}{v:bd}{L:List bd}(h:sP W wr hH v L)(sa:Option Addr)(n c:Nat)(hl:L.length<1000)(ty:TypeId):
  ∃a w',(Builtin.append_ #[219,219] ty #[v,.slice (wr.heap.size,0) 1 1]).run ed (wr.alloc (.cells #[.slice sa n c] 74 (0,0)))= .ok a w'/\∃d,sP W w' d a (L++[.slice sa n c]):=by
 obtain⟨e,b⟩:=aK (wr.alloc (.cells #[.slice sa n c] 74 (0,0)));have g:dd wr.heap.size wr e:=by rw[b];exact(aj _ _).alloc (ag _) _
 have h1:=h.below g;have hg:e.heap[wr.heap.size]?=de (.cells #[.slice sa n c] 74 (0,0)):=by rw[b];exact aL _ _
 obtain⟨i,hi,l,j,hb⟩:=gD LU;obtain⟨a,f,d,hr,h2,h3,h4⟩:=nt h1.row Tryz.underlying219 hi l j hb rfl (by decide) wr.heap.size [.slice sa n c] rfl hg (λu hu=>by rw[List.mem_singleton.1 hu];rfl) (by unfold maxLen;omega) (by omega) ty;rw[<-b];refine⟨a,f,hr,d,⟨by rw[aD];exact h2,⟨h3.os.t h1.b.os,h3.tape.t h1.b.tape,h3.output.t h1.b.output,aE h1.b.size h3.size,λk hk=>(h3.block k (ai hk h1.b.size) (by rw[h1.o1 k hk];decide)).t (h1.b.block k hk)⟩,λk hk=>(h3.marks k (ai hk h1.b.size)).t (h1.o1 k hk),λk hk=>(h4 k hk).t (h1.o2 k (aE h3.size hk))⟩⟩
theorem wH{P:Program}{ops:Array Oper}{Q:Exit->Act->ax->Prop}{K:Act->ax->Prop}{a:Act}{w w':ax}{i:Nat}{o:Oper}(hi:ops[i]?=de o)(hg:o.guard=dl)(hd:o.dst=dl)(ty:TypeId)(m k x:Operand)(ho:o.op= .mapUpdate ty m k x)
  {c b d:bd}(hm:a.eval m=c)(hk:a.eval k=b)(hx:a.eval x=d)(e:(Instr.mapUpdate ty c b d).run P w= .ok () w')(h:K a w'):wpOp P ops Q i K a w:=by
 refine nN hi hg ?_;unfold Oper.wp execOp;simp only[ho,hm,hk,hx,eu,gW,eX,e];show K _ _;rw[hd];exact h
theorem uk{v:cF}(h:jJ v=dE):0<=v.slot/\v.slot<40:=by
 unfold jJ at h;simp only[aP,ap]at h;exact⟨h.1,h.2.1⟩
theorem vQ.other{w w':ax}{v:bd}{ls:List (List cF)}(h:vQ w v ls)(hs:w.heap.size<=w'.heap.size)(hc:∀a x,w.cell? a=de x->w'.cell? a=de x):vQ w' v ls:=by
 obtain⟨a,c,h0,h1,h2,h3⟩:=h;refine⟨a,c,h0,h1,h2,λhl=>?_⟩;obtain⟨b,off,e,hb,hx⟩:=h3 hl;refine⟨b,off,e,ai hb hs,λi hi=>?_⟩;obtain⟨x,l,a2,f,e2,k1,k2,k3⟩:=hx i hi;refine⟨x,hc _ _ l,a2,f,e2,k1,k2,λk=>?_⟩;obtain⟨b2,m,e3,g,hy⟩:=k3 k;refine⟨b2,m,e3,ai g hs,λj hj p hp=>?_⟩;have hlen:(aS ((ls.getD i []).getD j cF.zero)).length=8:=rfl;have d:=hy j hj p hp;rw[aC (by omega)]at d|-;exact hc _ _ d
theorem sP.lists{W wr:ax}{hH n:bI}{i:Nat}{gr:GR}{r:eW}{f:Option Addr}{k g:Nat}(h:sP W wr hH (.slice f k g) ((List.range 5).map (pF gr r)))(m:jt n W i gr r):k=5/\vQ wr (.slice f k g) r.lists:=by
 have c:r.lists.length=5:=by unfold eW.lists;rw[List.length_map,List.length_range]
 have d:=h.row;rw[aY,List.length_range]at d;obtain⟨a,cap,e,h1,h2⟩:=d.shape;injection e with e1 e2 e3;subst e1 e2 e3;refine⟨rfl,f,g,by rw[c],by rw[c];exact h1,h2,λ_=>?_⟩;obtain⟨b,off,l,hb,-,hc⟩:=d.cell (by omega);refine⟨b,off,l,hb,λj hj=>?_⟩;rw[c]at hj;have h5:=hc j (by omega);rw[fL,List.getElem?_range hj]at h5;exact⟨pF gr r j,h5,((tY m j hj).stay h.b).1⟩
section
variable{hH:bI}{W:ax}{wb i:Nat}{G:Gh}{M:aT}{gr:GR}{r:eW}
theorem dB.CO(h:dB hH W wb G M)(hi:i<5)(hp:(M.nd i).cI=dl)(hg:(G.n i).rg=de gr)(hr:(M.nd i).rg=de r)(s:Int)(c:bk):
  ∃g,(Instr.mapUpdate 78 (.map (de gr.dD)) s (eG c)).run ed W= .ok () g/\(∃f,dB hH g wb f (M.aX i {M.nd i with rg:=de {r with dD:=di r.dD s c}})/\(∀j,(f.n j).b=(G.n j).b)/\(f.n i).rg=de gr/\cG hH W hH g (λt=>t.1<6))/\g.heap.size=W.heap.size/\∀a x,W.cell? a=de x->g.cell? a=de x:=by
 obtain⟨A,k,b⟩:=h.wo hi hr;rw[hg]at k;injection k with k;subst k;obtain⟨o,z,hm⟩:=lU (P:=ed) b.dD Tryz.underlying78 Tryz.underlying3 s (eG c);have d:cG hH W hH {W with heap:=W.heap.setIfInBounds gr.dD o} (·=(i,8)):=qC b.tp;have u:Fair (·=(i,8)):=λt n e=>by rw[n]at e;simp at e;omega
 have l:∀m,m≠8->¬(i,m)=(i,8):=λm hm e=>by injection e with _ e;exact hm e
 have e:di (r.dD.map λp=>(p.1,eG p.2)) s (eG c)=(di r.dD s c).map λp=>(p.1,eG p.2):=zr (λc=>eG c) r.dD s c;rw[e]at hm;have v:jt hH {W with heap:=W.heap.setIfInBounds gr.dD o} i gr {r with dD:=di r.dD s c}:=
  ⟨d.at b.dM (by rw[b.tb];exact l 6 (by omega)),b.tb,b.prom.cB d (by rw[b.tm];exact l 7 (by omega)),b.tm,hm,b.tp,b.ps.cB d (by rw[b.tv];exact l 9 (by omega)),b.tv,λp hp=>⟨(b.kG p hp).1.cB d (by rw[(b.kG p hp).2];exact l _ (by omega)),(b.kG p hp).2⟩,λp hp=>(b.pv p hp).cB d u⟩
 obtain⟨f,h1,h2,h3,h4⟩:=h.zj hi hp hg hr d (λt n=>by rw[n];exact⟨rfl,by simp⟩) (λq hq=>h.hi q (by simpa using hq)) (gr':=gr) (r':={r with dD:=di r.dD s c}) rfl v;refine⟨_,z,⟨f,h1,h2,h3,h4⟩,by simp,λa x hx=>?_⟩;obtain⟨es,ck,hb,-⟩:=b.dD;have y:a.block≠gr.dD:=λe=>by
  simp[World.cell?,e,hb]at hx
 rw[<-hx];exact aw (w:=W) (show(W.heap.setIfInBounds gr.dD o)[a.block]?=_ from cV (λe=>y e.symm))
theorem dB.begun(h:dB hH W wb G M)(hi:i<5)(hp:(M.nd i).cI=dl)(hg:(G.n i).rg=de gr)(hr:(M.nd i).rg=de r):
  ∃d,dB hH (W.setCell (gr.b,3) (.bool dE)) wb d (M.aX i {M.nd i with rg:=de {r with begun:=dE}})/\(∀j,(d.n j).b=(G.n j).b)/\(d.n i).rg=de gr/\cG hH W hH (W.setCell (gr.b,3) (.bool dE)) (λt=>t.1<6):=by
 obtain⟨o,f,a⟩:=h.wo hi hr;rw[hg]at f;injection f with f;subst f;have k:(W.setCell (gr.b,3) (.bool dE)).heap.size=W.heap.size:=by simp[World.setCell]
 have c:cG hH W hH (W.setCell (gr.b,3) (.bool dE)) (·=(i,6)):=⟨rfl,rfl,rfl,by rw[k];exact ag _,λq hq b=>aA _ _ (λe=>b (by rw[e];exact a.tb)),λ_ _=>rfl⟩
 have l:Fair (·=(i,6)):=λt g e=>by rw[g]at e;simp at e;omega
 have b:∀m,m≠6->¬(i,m)=(i,6):=λm hm e=>by injection e with _ e;exact hm e
 have n:jt hH (W.setCell (gr.b,3) (.bool dE)) i gr {r with begun:=dE}:=
  ⟨aB a.dM _,a.tb,a.prom.cB c (by rw[a.tm];exact b 7 (by omega)),a.tm,a.dD.cB c (by rw[a.tp];exact b 8 (by omega)),a.tp,a.ps.cB c (by rw[a.tv];exact b 9 (by omega)),a.tv,λp hp=>⟨(a.kG p hp).1.cB c (by rw[(a.kG p hp).2];exact b _ (by omega)),(a.kG p hp).2⟩,λp hp=>(a.pv p hp).cB c l⟩
 obtain⟨d,h1,h2,h3,h4⟩:=h.zj hi hp hg hr c (λt g=>by rw[g];exact⟨rfl,by simp⟩) (λq hq=>h.hi q (by rw[k]at hq;exact hq)) (gr':=gr) (r':={r with begun:=dE}) rfl n;exact⟨d,h1,h2,h3,h4⟩
end
section
variable{hH ix:bI}{W W1:ax}{wb i:Nat}{G:Gh}{M:aT}
theorem qT.lead{g:Option GR}{b:Nat}{gr':GR}{T:Nat×Nat->Prop}(h:qT hH W i g b)(k:cG hH W ix W1 T)(a:∀m,6<=m->¬T (i,m))(h1:W.heap.size<=gr'.b)(h2:W.heap.size<=gr'.prom):qT ix W1 i (de gr') b:=by
 obtain⟨c0,c1,pm,c,d,c5,m,a1,a2,a3,a4,a5⟩:=h;have j:=hF a1;have l:pm<W.heap.size:=by
  obtain⟨es,ck,hb,-⟩:=a3;exact hF hb
 refine⟨c0,c1,pm,c,d,c5,m,k.at a1 (by rw[a2];exact a 6 (by omega)),(k.mark a1).t a2,a3.cB k (by rw[a4];exact a 7 (by omega)),(a3.mark k).t a4,λf e=>?_⟩;injection e with e;subst e;exact⟨by omega,by omega⟩
theorem eO.lead{g:GN}{n:dZ}{gr':GR}{r':eW}{T:Nat×Nat->Prop}(h:eO hH W wb i g n)(hr:∀r,n.rg=de r->∃c,g.rg=de c/\jt hH W i c r)(k:cG hH W ix W1 T)(a:Fair T)(o:∀m,6<=m->¬T (i,m))(h1:W.heap.size<=gr'.b)(h2:W.heap.size<=gr'.prom)
  (hq:∀q,n.cI=de q->q.tag=3->q.bG≠r'.bG):eO ix W1 wb i {g with rg:=de gr'} {n with rg:=de r'}:=by
 unfold eO at h|-;cases e:n.cI with
 |none=>rw[e]at h;exact h
 |some q=>
  rw[e]at h;obtain⟨s,nb,t,a1,a2,a3,a4⟩:=h;refine⟨s,nb,t,a1.cB k a,a2.cB k a,a3.cB k a,?_⟩;split
  ·rename_i e3;rw[ar e3]at a4;obtain⟨f,E,r,j,k1,k2,k3,k4,w⟩:=a4;refine⟨f,E,r,j,k1,k2.cB k a,k3.cB k a,k4.cB k a,.inr ⟨λp d=>?_,?_⟩⟩
   ·injection d with d;rw[<-d];exact λv=>hq q e e3 v.symm
   ·rcases w with⟨c,p,b1,b2,G,u⟩|⟨b1,b2⟩
    ·obtain⟨H,c1,b⟩:=hr p b2;rw[b1]at c1;injection c1 with c1;subst c1;have ho:qT hH W i dl r:=by
      rw[u];exact⟨_,_,_,_,_,_,_,b.dM,b.tb,b.prom,b.tm,λ_ e=>by cases e⟩
     exact ho.lead k o h1 h2
    ·exact b2.lead k o h1 h2
  ·rename_i e3;rw[ak e3]at a4;obtain⟨yI,F,x,l,y,k1,k2,k3,k4⟩:=a4;refine⟨yI,F,x,l,y,k1.cB k a,k2.cB k a,k3,?_⟩;split
   ·rename_i e1;rw[ar e1]at k4;obtain⟨f,j,z,A,B,C,D⟩:=k4;exact⟨f,j,z,A.cB k a,B.cB k a,C.cB k a,D⟩
   ·rename_i e1;rw[ak e1]at k4;exact⟨k4.1,k4.2.1.cB k a,k4.2.2⟩
theorem dB.Da(h:dB hH W wb G M)(hi:i<5)(r1:Int)(hq:∀q,(M.nd i).cI=de q->q.tag=3->q.bG.1<r1)(d:dd W.heap.size W W1){b b1 b2 a:Nat}(p:W.heap.size<=b)(z:b<b1)(A:b1<b2)(B:b2<a)(C:a<W1.heap.size)(v:dO W1 b [])(w:dO W1 b1 [])(y:dO W1 b2 [])
  (x:W1.heap[a]?=de (.cells #[r1,i,.map (de b),.bool dT,.map (de b1),.map (de b2)] 143 (0,0))):
  aW hH W wb G i (M.aX i {M.nd i with rg:=de ⟨(r1,(i:Int)),[],dT,[],[]⟩}) (W1.setCell ((G.n i).b,9) (a,0)):=by
 obtain⟨ix,ho⟩:∃ix:bI,ix=λq=>if q=b then(i,7)else if q=b1 then(i,8)else if q=b2 then(i,9)else if q=a then(i,6)else hH q:=⟨_,rfl⟩
 have k:cG hH W ix W1 (λ_=>False):=⟨d.os,d.tape,d.output,d.size,λq hq _=>d.block q hq,λq hq=>by
  rw[ho];show(if q=b then _ else if q=b1 then _ else if q=b2 then _ else if q=a then _ else hH q)=_;rw[ak (by omega),ak (by omega),ak (by omega),ak (by omega)]⟩
 have j:Fair (λ_=>False):=λ_ h=>h.elim;have hp:=(h.nd i hi).pt;have c:=hp.cB k j (λ_ _=>id);have l:ix b=(i,7):=by rw[ho];exact ar rfl
 have e1:ix b1=(i,8):=by rw[ho];exact(ak (by omega)).t (ar rfl)
 have e2:ix b2=(i,9):=by rw[ho];exact(ak (by omega)).t ((ak (by omega)).t (ar rfl))
 have e3:ix a=(i,6):=by rw[ho];exact(ak (by omega)).t ((ak (by omega)).t ((ak (by omega)).t (ar rfl)))
 obtain⟨gr',f⟩:∃g:GR,g=⟨a,b,b1,b2,λ_=>0,λ_=>.slice dl 0 0⟩:=⟨_,rfl⟩
 have o:jt ix W1 i gr' ⟨(r1,(i:Int)),[],dT,[],[]⟩:=by
  rw[f];exact⟨x,e3,v,l,w,e1,y,e2,λ_ h=>(nomatch h),λ_ h=>(nomatch h)⟩
 have s:∀q,W1.heap.size<=q->ix q=hH q:=λq hq=>by
  rw[ho];show(if q=b then _ else if q=b1 then _ else if q=b2 then _ else if q=a then _ else hH q)=_;rw[ak (by omega),ak (by omega),ak (by omega),ak (by omega)]
 refine h.jc hi k (λt u=>u.elim) s {G.n i with rg:=de gr'} {M.nd i with rg:=de ⟨(r1,(i:Int)),[],dT,[],[]⟩} rfl
  ⟨c.kl,c.kn,c.tk,c.mg,c.gO,c.log,c.ja,c.mO,c.jq,o,?_⟩ 9 [(a,0)] (by rw[f];rfl)
 refine hp.lO.lead (λr hr=>?_) k j (λ_ _=>id) (by rw[f];show _<=a;omega) (by rw[f];exact p) (λq e e3 m=>?_)
 ·have h1:=hp.rg;rw[hr]at h1;cases e:(G.n i).rg with
  |none=>rw[e]at h1;exact h1.elim
  |some n=>rw[e]at h1;exact⟨n,rfl,h1⟩
 ·have:=hq q e e3;rw[m]at this;exact absurd this (Int.lt_irrefl _)
end
end Go.Proofs.YtcdmenphjilnnaaGreatDoor
