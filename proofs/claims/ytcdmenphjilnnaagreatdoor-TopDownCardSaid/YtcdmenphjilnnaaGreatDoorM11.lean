/-
  Parts of the proofs of the laws of the whole (what the functions compute, and plain laws of it); no conditions.
-/
import Derived.Test.YtcdmenphjilnnaaGreatDoorM6
import Derived.Test.YtcdmenphjilnnaaGreatDoorM8
import Derived.Test.YtcdmenphjilnnaaGreatDoorM9
set_option linter.unusedVariables false
set_option linter.unusedSimpArgs false
set_option maxRecDepth 100000
set_option maxHeartbeats 1000000
open Go.Proofs.Tryz
open Go renaming World->ax,Value->bd,Calls->bl
open Go.RowKit renaming Below->dd
open Option renaming some->de,none->dl
open Bool renaming true->dE,false->dT
open Go.Proofs.Tryz renaming prog->ed
namespace Go.Proofs.YtcdmenphjilnnaaGreatDoor
open Go.RowKit Go.Con
theorem uc(v:bd)(l:List UInt8)(w:ax)(hv:Rd w v l)(hl:l.length<=1099511627776):
  bl ed 93 #[v] w (mX w (Sea.pad l)):=by
 obtain⟨n,e⟩:∃n,l.length=n:=⟨_,rfl⟩
 obtain⟨a,c,rfl,_,_⟩:=hv.fB n e;have r:n<=1099511627776:=by omega
 have p:=ae hv;have d:=ae e;clear hv hl e;go_enter func93,ntmps93
 go_wp2_with (first
  |(at_builtin;refine uZ rfl (.const (.slice dl 0 0)) (.tmp 3) rfl w.heap.size _ _ [] l rfl (Own.nil _ _) rfl p.o (by rw[d.o];simp;omega) (ag _) ?_;intro v2 s j g;have f:=ae j;have b:=ae g;clear j g)
  |(at_builtin;refine OI rfl (.tmp 4) (.tmp 9) rfl w.heap.size _ _ rfl f.o ((16-n%16)%16) _ rfl (by omega) (by rw[cK,d.o];omega) b.o.size ?_;intro v3 w3 m i;have q:=ae m;have o:=ae i;clear m i))
 go_ret
 refine⟨_,rfl,?_,((aj w.heap.size w).grown b.o (ag _) (λk hk=>by cases hk)).grown o.o b.o.size (λk hk=>(f.o.lt k hk).1)⟩;have h:=q.o;rw[cK,<-d.o]at h;exact h
theorem EV(n k j:Nat)(hj:j=8*k):(n:Int)/2^j%256=((UInt8.ofNat (n/256^k)).toNat:Int):=by
 subst hj;rw[bM,show(256:Nat)=2^8 from rfl,<-Nat.pow_mul];rw[show((2:Int)^(8*k))=((2^(8*k):Nat):Int) by rw[Int.natCast_pow];rfl];omega
theorem uz(n:Nat)(w:ax)(l:n<=1099511627776):
  bl ed 94 #[n] w (mX w (Pol.qU 8 n)):=by
 go_enter func94,ntmps94
 go_wp2
 go_loopw [3,4] (λv i wr=>∃k j:Nat,k<=8/\Hid (j=8*k)/\j<=64/\i= .int .i64 j/\Own wr w.heap.size v (Pol.qU k n)/\dd w.heap.size w wr) (λ_ i _=>72-(intOf i).toNat)
 case atStart=>exact⟨0,0,by omega,ae rfl,by omega,rfl,Own.nil _ _,aj _ _⟩
 case round=>
  obtain⟨k,j,hk,b,hj,rfl,ho,hb⟩:=hrel;have c:=ae ho;have a:=ae hb;clear ho hb;by_cases hlt:j<64
  ·have hd:decide ((j:Int)<64)=dE:=by rw[ap];omega
   have d:k<8:=by have:=b.o;omega
   go_wp2_with (at_builtin;refine uZ rfl (.tmp 9) (.tmp 14) rfl w.heap.size _ _ (Pol.qU k n) [UInt8.ofNat (n/256^k)] rfl (c.o.alloc _) rfl (zF _ _ _ (EV n k j b.o)) (by rw[Pol.jy];simp;omega) (by have:=a.o.size;simp;omega) ?_;intro v3 w3 f e;have h:=ae f;have g:=ae e;clear f e)
   go_roundw
   case rel=>
    refine⟨k+1,j+8,by omega,ae (by rw[b.o];omega),by have:=b.o;omega,by go_num,?_,(a.o.alloc a.o.size _).grown g.o (by have:=a.o.size;simp;omega) (λi hi=>(c.o.lt i hi).1)⟩;rw[Pol.uB];exact h.o
   case measure=>simp[intOf];omega
  ·have hd:decide ((j:Int)<64)=dT:=by rw[ah];omega
   have d:k=8:=by have:=b.o;omega
   rw[d]at c;clear d;go_wp2_with fail
   go_ret
   exact⟨_,rfl,c.o,a.o⟩
theorem zg(j l T sv:bd)(key c known a:List UInt8)(w:ax)(hk:Rd w j key)(C:Rd w l c)(x:Rd w T known)(hs:Rd w sv a)(hkl:key.length=32)(E:c.length=12)(b8:known.length<=256)(b9:a.length<=2000):
  bl ed 68 #[j,l,T,sv] w (mX w (Sea.tag key c known a)):=by
 obtain⟨B,i⟩:=aK (Cha.block key (UInt32.ofNat 0) c);have U:B.length=64:=by rw[i];exact Cha.oe _ _ _
 have A:=λj l w h1 h2=>Fu j l key c 0 0 w h1 h2 hkl E (by decide) rfl;rw[<-i]at A;obtain⟨p,hp⟩:=aK (Sea.pad known);obtain⟨q,hq⟩:=aK (Sea.pad a);have hpl:p.length<=300:=by rw[hp,Sea.ud];omega
 have a8:q.length<=2100:=by rw[hq,Sea.ud];omega
 have H:=λv w h=>uc v known w h (by omega);have I:=λv w h=>uc v a w h (by omega);rw[<-hp]at H;rw[<-hq]at I;have J:Sea.tag key c known a=Pol.tag (B.take 32) (((p++q)++Pol.qU 8 known.length)++Pol.qU 8 a.length):=by rw[i,hp,hq];rfl
 obtain⟨n,D⟩:∃n,known.length=n:=⟨_,rfl⟩
 obtain⟨m,hm⟩:∃m,a.length=m:=⟨_,rfl⟩
 rw[D,hm]at J;obtain⟨aa,ac,rfl,_,_⟩:=x.fB n D;obtain⟨sa,sc,rfl,_,_⟩:=hs.fB m hm;have c5:n<=256:=by omega
 have c4:m<=2000:=by omega
 obtain⟨ka,kc,rfl,_,_⟩:=hk.fB 32 hkl;obtain⟨na,nc,rfl,_,_⟩:=C.fB 12 E;have b5:=ae hk;have b6:=ae C;have b3:=ae x;have b7:=ae hs;have o:=ae U;have a9:=ae A;have d:=ae hpl;have f:=ae a8;have b0:=ae H;have b1:=ae I;have b2:=ae J;clear hk C x hs hkl E b8 b9 i U A hp hq hpl a8 H I J D hm;go_enter func68,ntmps68
 go_wp2_with fail
 refine(a9.o _ _ _ b5.o b6.o).m ?_;rintro e K ⟨vb,rfl,G,V⟩;obtain⟨bb,bo,bc,c0,c1,c3⟩:=G.rd.gL 64 o.o (by decide);subst c0;have b:=ae V;have b4:=ae G.rd;have c2:(32:Int)<=(bc:Int):=by omega
 clear G V;go_wp2_with fail
 refine(b0.o _ _ (b3.o.stay b.o)).m ?_;rintro e w2 ⟨v2,rfl,a1,W⟩;have r:=ae W;have L:=ae a1;clear a1 W;go_wp2_with fail
 refine(b1.o _ _ (b7.o.stay (b.o.t (r.o.m b.o.size)))).m ?_;rintro e w3 ⟨v3,rfl,a2,y⟩;have s:=ae (r.o.t (y.m r.o.size));have M:=ae (L.o.below y (λk hk=>(L.o.lt k hk).2));have O3:=ae a2;clear y a2;go_wp2_with (at_builtin;refine uZ rfl (.tmp 21) (.tmp 23) rfl K.heap.size _ _ p q rfl M.o rfl O3.o.rd (by have:=d.o;have:=f.o;omega) s.o.size ?_;intro v4 w4 a3 Y;have N:=ae a3;have G4:=ae Y;clear a3 Y)
 have R:=ae (s.o.grown G4.o s.o.size (λk hk=>(M.o.lt k hk).1));refine(uz n _ (by omega)).m ?_;rintro e w5 ⟨v5,rfl,a4,hb5⟩;have t:=ae (R.o.t (hb5.m R.o.size));have O:=ae (N.o.below hb5 (λk hk=>(N.o.lt k hk).2));have O5:=ae a4;clear hb5 a4;go_wp2_with (at_builtin;refine uZ rfl (.tmp 25) (.tmp 28) rfl K.heap.size _ _ (p++q) _ rfl O.o rfl O5.o.rd (by have:=d.o;have:=f.o;rw[aD,Pol.jy];omega) t.o.size ?_;intro v6 w6 a5 Z;have P:=ae a5;have G6:=ae Z;clear a5 Z)
 have S:=ae (t.o.grown G6.o t.o.size (λk hk=>(O.o.lt k hk).1));refine(uz m _ (by omega)).m ?_;rintro e w7 ⟨v7,rfl,a6,z⟩;have u:=ae (S.o.t (z.m S.o.size));have Q:=ae (P.o.below z (λk hk=>(P.o.lt k hk).2));have O7:=ae a6;clear z a6;go_wp2_with (at_builtin;refine uZ rfl (.tmp 29) (.tmp 32) rfl K.heap.size _ _ ((p++q)++Pol.qU 8 n) _ rfl Q.o rfl O7.o.rd (by have:=d.o;have:=f.o;rw[aD,aD,Pol.jy,Pol.jy];omega) u.o.size ?_;intro v8 w8 a7 a0;have O8:=ae a7;have G8:=ae a0;clear a7 a0)
 have g:=ae (u.o.grown G8.o u.o.size (λk hk=>(Q.o.lt k hk).1));refine(Mt _ _ (B.take 32) _ _ ((b4.o.stay g.o).pre 32 (by rw[o.o];decide)) O8.o.rd (by rw[aM,o.o];rfl) (by have:=d.o;have:=f.o;simp only[aD,Pol.jy];omega)).m ?_;rintro e w9 ⟨v9,rfl,F,X⟩;rw[<-b2.o]at F;have O9:=ae F;have U9:=ae (g.o.t (X.m g.o.size));clear X F;go_wp2_with fail
 go_ret
 exact⟨_,rfl,O9.o.m (aE b.o.size g.o.size),b.o.t (U9.o.m b.o.size)⟩
theorem xE(b d a sa:Option Addr)(c f ac g n m lG:Nat)(w:ax)(i:n<=256)(hm:m<=lG):
  bl ed 66 #[.slice b 32 c,.slice d 12 f,.slice a n ac,.slice sa m g,lG] w λe w'=>e= .returned (0:Int)/\w=w':=by
 have h1:decide ((256:Int)<(n:Int))=dT:=by rw[ah];omega
 have h2:decide ((lG:Int)<(m:Int))=dT:=by rw[ah];omega
 have h:decide (lG<m)=dT:=by rw[ah];omega
 go_enter func66,ntmps66
 go_wp2
 go_ret
 exact⟨rfl,rfl⟩
def Kw(w:ax)(key a known b tg:List UInt8)(e:Ending)(w':ax):Prop:=
 (Sea.tag key a known b=tg/\mM w (Cha.KR key 1 a b) 0 e w')\/(Sea.tag key a known b≠tg/\e= .returned (.tuple #[.slice dl 0 0,(6:Int)])/\dd w.heap.size w w')
theorem IG(i j k dv:bd)(key c known d:List UInt8)(n:Nat)(w:ax)(hk:Rd w i key)(x:Rd w j c)(v:Rd w k known)(hd:Rd w dv d)(hkl:key.length=32)(o:c.length=12)(I:known.length<=256)(N:d.length=n+16)(b5:n<=2000):
  bl ed 97 #[i,j,k,dv] w (Kw w key c known (d.take n) (d.drop n)):=by
 obtain⟨s,hs⟩:=aK (d.take n);obtain⟨g,hg⟩:=aK (d.drop n);have a8:s.length=n:=by rw[hs,aM];omega
 have a5:g.length=16:=by rw[hg,cO];omega
 rw[<-hs,<-hg];have P:=λi j pv w h1 h2 h3=>KA i j pv key c s 1 1 w h1 h2 h3 hkl o (by decide) (by omega) rfl;have T:=λi j k sv w h1 h2 h3 h4=>zg i j k sv key c known s w h1 h2 h3 h4 hkl o I (by omega);obtain⟨t,B⟩:=aK (Sea.tag key c known s==g);have A:=λa b w h1 h2=>oD a b (Sea.tag key c known s) g w h1 h2;rw[<-B]at A;obtain⟨q,hq⟩:∃q,known.length=q:=⟨_,rfl⟩
 obtain⟨aa,ac,rfl,_,_⟩:=v.fB q hq;have a7:q<=256:=by omega
 obtain⟨db,a3,l,rfl,a4,a9⟩:=hd.gL (n+16) N (by omega);obtain⟨ka,kc,rfl,_,_⟩:=hk.fB 32 hkl;obtain⟨na,nc,rfl,_,_⟩:=x.fB 12 o;have z:=hd.pre n (by omega);have y:=hd.tail n 16 (by omega) (by omega);rw[<-hs]at z;rw[<-hg]at y;have hc:=λw=>xE ka na aa (db,a3) kc nc ac l q (n+16) 2016 w a7 (by omega);have F:=ae hk;have G:=ae x;have a1:=ae v;have H:=ae z;have a2:=ae y;have X:=ae P;have a0:=ae T;have Z:=ae A;have D:=ae B;have C:=ae hc;obtain⟨m,hm⟩:∃m,n+16=m:=⟨_,rfl⟩
 rw[hm]at a4 C|-;have a6:(m:Int)-16=(n:Int):=by omega
 have b3:IntKind.i64.wrap ((m:Int)-16)=(n:Int):=by rw[a6];exact IntWalk.i64_in _ (by omega)
 have b4:decide ((n:Int)<0)=dT:=by rw[ah];omega
 have b7:(n:Int)<=(m:Int):=by omega
 have b6:(n:Int)<=(l:Int):=by omega
 have b1:(m:Int)<=(l:Int):=by omega
 have b0:¬(l=n):=by omega
 have b2:m-n=16:=by omega
 clear hk x v hd hkl o I N hs hg a8 a5 P T B A hq z y hc;go_enter func97,ntmps97
 go_wp2_with fail
 refine(C.o _).m ?_;rintro e _ ⟨rfl,rfl⟩;go_wp2_with fail
 go_region_with (first
  |(go_at_call 68;refine(a0.o _ _ _ _ _ (F.o.drewN 1) (G.o.drewN 1) (a1.o.drewN 1) (H.o.drewN 1)).m ?_;rintro e w1 ⟨v1,rfl,R,J⟩;have E:=ae R;have u:=ae J;clear R J)
  |(go_at_call 61;refine(Z.o _ _ _ E.o.rd ((a2.o.drewN 1).stay u.o)).m ?_;rintro e w2 ⟨rfl,M⟩))
 all_goals
  have K:dd w.heap.size w w2:=by obtain⟨r,rfl⟩:=M;exact below_drewN (((below_drewN (aj w.heap.size w) 1).t u.o)) r
  have f:=ae K;clear M K u E;by_cases p:t=dE
  ·have O:Sea.tag key c known s=g:=by have h:=D.o;rw[p]at h;simpa using h.symm
   have W:=ae O;subst p;clear O;go_wp2_with fail
   refine(X.o _ _ _ _ (F.o.stay f.o) (G.o.stay f.o) (H.o.stay f.o)).m ?_;rintro e w3 ⟨v3,rfl,S,L⟩;have O3:=ae S;have V:=ae (f.o.t (L.m f.o.size));have s2:=f.o.size;clear S L;go_wp2_with fail
   go_ret2
   exact .inl ⟨W.o,_,rfl,O3.o.m s2,V.o⟩
  ·have U:t=dT:=by simpa using p
   have Q:Sea.tag key c known s≠g:=by have h:=D.o;rw[U]at h;intro e;rw[e]at h;simp at h
   have Y:=ae Q;subst U;clear p Q;go_wp2
   go_ret2
   exact .inr ⟨Y.o,rfl,f.o⟩
set_option maxHeartbeats 400000
section
variable{ops:Array Oper}{rest:List Oper}{o:Oper}{a:Act}{Q:Exit->Act->ax->Prop}{w:ax}
end
set_option maxHeartbeats 1000000
theorem ER(a:Addr)(n c:Nat)(l:List UInt8)(w:ax)(hv:Rd w (.slice (de a) n c) l)(d:l.length=n)(hl:n<=1099511627776):
  bl ed 59 #[.slice (de a) n c] w (mX w l):=by
 have j:=λ(w:ax)=>im (P:=ed) w 24 5 (de a) n c 0 0 Tryz.underlying24;have h:=ae hv;have g:=ae d;clear hv d;go_enter func59,ntmps59
 go_wp2_with (at_builtin;refine uZ rfl (.tmp 5) (.tmp 6) rfl w.heap.size (.slice (de ⟨w.heap.size,0,dl⟩) 0 0) _ [] l rfl (xK w _ [] 0 rfl (ag _) (by decide)) rfl (h.o.alloc _) (by rw[g.o];simp;omega) (by simp) ?_;intro v2 m e b;have i:=ae e;have f:=ae b;clear e b)
 go_ret
 exact⟨_,rfl,i.o,((aj _ _).alloc (ag _) _).grown f.o (by simp) (λk hk=>by injection hk with hk;subst hk;exact ag _)⟩
def kS(a:bd)(s t:Int)(f:Nat->Bool):List bd:=[a,s,t,.bool (f 0),.bool (f 1),.bool (f 2),.bool (f 3),.bool (f 4),.bool (f 5),.bool (f 6),.bool (f 7)]
theorem gz:(prog.info? 94).map (λx=>x.size)=de 11:=by kernel_rfl
theorem Dj(a:bd)(s t:Int)(f:Nat->Bool)(hk:a.oneCell'=dE):(kS a s t f).toArray.all (·.oneCell')=dE:=by
 simp[kS,hk];exact⟨rfl,rfl,rfl,rfl,rfl,rfl,rfl,rfl,rfl,rfl⟩
theorem jU(a:bd)(s t:Int)(b b1 b2 c d e f g:Bool)(hk:a.oneCell'=dE):(#[a,s,t,.bool b,.bool b1,.bool b2,.bool c,.bool d,.bool e,.bool f,.bool g]:Array bd).all (·.oneCell')=dE:=by
 simp[hk];exact⟨rfl,rfl,rfl,rfl,rfl,rfl,rfl,rfl,rfl,rfl⟩
theorem Own.ul{w w':ax}{base:Nat}{v:bd}{l:List UInt8}(h:Own w base v l)(b:∀k,v.ownBlock=de k->w'.heap[k]?=w.heap[k]?):Own w' base v l:=by
 obtain⟨h1,h2⟩:=h;refine⟨h1,?_⟩;rcases h2 with h2|⟨g,cap,a,rfl,hg,c,r⟩
 ·exact .inl h2
 ·exact .inr ⟨g,cap,a,rfl,hg,by rw[b g rfl];exact c,r⟩
theorem Own.one{w:ax}{base:Nat}{v:bd}{l:List UInt8}(h:Own w base v l):v.oneCell'=dE:=by
 rcases h.2 with⟨rfl,_⟩|⟨g,cap,a,rfl,_⟩<;>rfl
theorem JB(a:Addr)(c:Nat)(key:List UInt8)(s t:Int)(d b1 b2 f g i j l:Bool)(w:ax)(hv:Rd w (.slice (de a) 32 c) key)(C:key.length=32):
  bl ed 48 #[.agg #[.slice (de a) 32 c,s,t,.bool d,.bool b1,.bool b2,.bool f,.bool g,.bool i,.bool j,.bool l]] w
   λe w'=>∃y,e= .returned (.agg #[y,s,t,.bool d,.bool b1,.bool b2,.bool f,.bool g,.bool i,.bool j,.bool l])/\Own w' w.heap.size y key/\dd w.heap.size w w':=by
 have I:=ae hv;have r:=ae C;clear hv C;go_enter func48,ntmps48
 go_wp2_with fail
 refine(ER _ 32 c key _ ((I.o.alloc _).alloc _) r.o (by decide)).m ?_;rintro e E ⟨y,rfl,x,p⟩;obtain⟨n,m,B,_,_,_,_⟩:=x.shape (by intro h;have:=r.o;rw[h]at this;cases this);rw[r.o]at B;subst B;have q:=(p.block w.heap.size (by simp;omega)).t (gT w (.cells #[.slice (de a) 32 c,s,t,.bool d,.bool b1,.bool b2,.bool f,.bool g,.bool i,.bool j,.bool l] 94) _);have z:=(p.block (w.heap.size+1) (by simp)).t (gl w _ (.cells #[.slice dl 0 0,(0:Int),(0:Int),.bool dT,.bool dT,.bool dT,.bool dT,.bool dT,.bool dT,.bool dT,.bool dT] 94));have G:=ae ((((aj w.heap.size w).alloc (ag _) _).alloc (by simp) _).t (p.m (by simp;omega)));have u:=ae x;have N:=hF z;have M:=ae p.size;have c0:=ej q 0 rfl;have f0:=aO q 0;have F:=aB (o:=0) q (.slice (n,0) 32 m);have hrg:=bu (cs:=[.slice (n,0) 32 m,s,t,.bool d,.bool b1,.bool b2,.bool f,.bool g,.bool i,.bool j,.bool l]) F;have A:=(aA 0 (.slice (n,0) 32 m) (w:=E) (b:=w.heap.size) (k:=w.heap.size+1) (by omega)).t z;have D:(E.setCell (w.heap.size,0) (.slice (n,0) 32 m)).there (w.heap.size+1) 0 11:=dr A rfl;have H:=ae D;have J:=ae A;clear x p q z F A D;go_wp2_with (first
  |(refine cM rfl 94 (.tmp 1) rfl w.heap.size 0 rfl [.slice (n,0) 32 m,s,t,.bool d,.bool b1,.bool b2,.bool f,.bool g,.bool i,.bool j,.bool l] _ hrg Tryz.underlying94 rfl gz ?_)
  |(refine bz rfl 94 (.tmp 2) (.tmp 7) rfl (w.heap.size+1) 0 #[.slice (n,0) 32 m,s,t,.bool d,.bool b1,.bool b2,.bool f,.bool g,.bool i,.bool j,.bool l] rfl rfl H.o gz (jU _ _ _ _ _ _ _ _ _ _ _ u.o.one) ?_))
 have L:=dI (vs:=[.slice (n,0) 32 m,s,t,.bool d,.bool b1,.bool b2,.bool f,.bool g,.bool i,.bool j,.bool l]) J.o rfl;have hl:=aU (P:=ed) _ (w.heap.size+1) 0 94 _ _ (bu L) Tryz.underlying94 rfl gz;refine aH (v:= .agg #[.slice (n,0) 32 m,s,t,.bool d,.bool b1,.bool b2,.bool f,.bool g,.bool i,.bool j,.bool l]) (lM Tryz.results48 rfl hl) rfl ⟨_,rfl,?_,?_⟩
 ·refine(u.o.ul (λk hk=>?_)).m (by simp;omega);have K:=(u.o.lt k hk).1;simp at K;rw[bE (by omega),aA _ _ (by omega)]
 ·exact bp (by omega) _ _ _ (G.o.setCell (ag _) _)
def kr(h:List UInt8):List UInt8:=List.replicate 8 0++h
theorem vG(v:bd)(l:List UInt8)(w:ax)(hv:Rd w v l)(hl:l.length=4):
  bl ed 47 #[v] w (mX w (kr l)):=by
 obtain⟨a,c,rfl,_,_⟩:=hv.fB 4 hl;have h:=ae hv;have f:=ae hl;have hmk:∀W:ax,(Instr.makeSlice 24 (8:Int) (12:Int)).run ed W= .ok (.slice (W.heap.size,0) 8 12) (W.alloc (.cells (Array.replicate 12 (.int .u8 0)) 5)):=λ_=>by kernel_rfl
 have ho:Own (w.alloc (.cells (Array.replicate 12 (.int .u8 0)) 5)) w.heap.size (.slice (w.heap.size,0) 8 12) (List.replicate 8 0):=
  ⟨by simp,.inr ⟨w.heap.size,12,_,by simp,ag _,aL w _,by simp,by decide,by simp,rfl⟩⟩
 have g:=ae ho;clear hv hl ho;go_enter func47,ntmps47
 go_wp2_with (at_builtin;refine uZ rfl (.tmp 3) (.tmp 4) rfl w.heap.size (.slice (w.heap.size,0) 8 12) _ (List.replicate 8 0) l rfl g.o rfl (h.o.alloc _) (by rw[f.o];decide) (by simp) ?_;intro v2 j d b;have i:=ae d;have e:=ae b;clear d b)
 go_ret
 exact⟨_,rfl,i.o,((aj _ _).alloc (ag _) _).grown e.o (by simp) (λk hk=>by injection hk with hk;subst hk;exact ag _)⟩
end Go.Proofs.YtcdmenphjilnnaaGreatDoor
namespace Go.Con
structure qj(t:Nat)(f:Nat->Bool):Prop where
 low:∀i,i<8->f i=dE->8<=t+i
 top:0<t->f 7=dE
end Go.Con
namespace Go.Proofs.YtcdmenphjilnnaaGreatDoor
open Go.RowKit Go.Con
theorem Di(f:Nat->Bool)(k:Nat)(hk:k<8)(W:ax):(Instr.index 83 (.agg #[.bool (f 0),.bool (f 1),.bool (f 2),.bool (f 3),.bool (f 4),.bool (f 5),.bool (f 6),.bool (f 7)]) k).run ed W= .ok (.bool (f k)) W:=by
 have a:k=0\/k=1\/k=2\/k=3\/k=4\/k=5\/k=6\/k=7:=by omega
 rcases a with rfl|rfl|rfl|rfl|rfl|rfl|rfl|rfl<;>(show _=_;kernel_rfl)
theorem qF(a:Option Addr)(c s t:Nat)(f:Nat->Bool)(w:ax)(hs:s<=1073741824)(I:t<=1073741824)(q:qj t f):
  bl ed 44 #[.agg #[.slice a 32 c,s,t,.bool (f 0),.bool (f 1),.bool (f 2),.bool (f 3),.bool (f 4),.bool (f 5),.bool (f 6),.bool (f 7)]] w λe w'=>e= .returned (0:Int)/\dd w.heap.size w w':=by
 have d1:decide ((s:Int)<0)=dT:=by rw[ah];omega
 have d2:decide ((1073741824:Int)<(s:Int))=dT:=by rw[ah];omega
 have d3:decide ((t:Int)<0)=dT:=by rw[ah];omega
 have d4:decide ((1073741824:Int)<(t:Int))=dT:=by rw[ah];omega
 have h:=ae (λk hk W=>Di f k hk W);have g:=ae q;obtain⟨fn,z⟩:∃fn:Nat->bd,fn=λk=>.bool (f k):=⟨_,rfl⟩
 obtain⟨C,j⟩:=aK (f 0);obtain⟨b1,l⟩:=aK (f 1);obtain⟨b2,m⟩:=aK (f 2);obtain⟨D,n⟩:=aK (f 3);obtain⟨E,o⟩:=aK (f 4);obtain⟨F,hb5⟩:=aK (f 5);obtain⟨G,p⟩:=aK (f 6);obtain⟨u,d⟩:=aK (f 7);rw[<-j,<-l,<-m,<-n,<-o,<-hb5,<-p,<-d]at h|-;have r:=ae d;clear q z j l m n o hb5 p d;go_enter func44,ntmps44
 go_wp2_with fail
 go_loop [31] (λi=>∃k:Nat,k<=8/\i= .int .i64 k) (λi=>8-(intOf i).toNat)
 case atStart=>exact⟨0,by omega,rfl⟩
 case round=>
  obtain⟨k,hk,rfl⟩:=hrel;by_cases hlt:k<8
  ·have y:decide ((k:Int)<8)=dE:=by rw[ap];omega
   have A:=h.o k hlt;obtain⟨b,hb⟩:=aK (f k);rw[<-hb]at A;cases b with
   |false=>
    clear hb;go_wp2_with fail
    go_round
    case rel=>exact⟨k+1,by omega,by go_num⟩
    case measure=>simp[intOf];omega
   |true=>
    have hl:=g.o.low k hlt hb.symm;have H:decide ((t:Int)-8+(k:Int)<0)=dT:=by rw[ah];omega
    clear hb;go_wp2_with fail
    go_round
    case rel=>exact⟨k+1,by omega,by go_num⟩
    case measure=>simp[intOf];omega
  ·have y:decide ((k:Int)<8)=dT:=by rw[ah];omega
   by_cases h0:0<t
   ·have x:decide ((0:Int)<(t:Int))=dE:=by rw[ap];omega
    have v:u=dE:=by rw[r.o];exact g.o.top h0
    subst v;go_wp2
    go_ret
    exact⟨rfl,(aj _ _).alloc (ag _) _⟩
   ·have x:decide ((0:Int)<(t:Int))=dT:=by rw[ah];omega
    have B:t=0:=by omega
    subst B;go_wp2
    go_ret
    exact⟨rfl,(aj _ _).alloc (ag _) _⟩
end Go.Proofs.YtcdmenphjilnnaaGreatDoor
namespace Go.Con
def pw(t n:Nat)(f:Nat->Bool):Bool:=decide (n+8<t)||(decide (n<t)&&f (n+8-t))
def lz(t n:Nat)(f:Nat->Bool):Nat->Bool:=λk=>(decide (k+(max t (n+1)-t)<8)&&f (k+(max t (n+1)-t)))||decide (k+max t (n+1)=n+8)
structure dB(t:Nat)(f:Nat->Bool)(T:Nat->Bool):Prop where
 Om:∀i,i<8->f i=(decide (8<=t+i)&&T (t+i-8))
 lt:∀m,T m=dE->m<t
 top:0<t->T (t-1)=dE
theorem dB.ok{t:Nat}{f T:Nat->Bool}(h:dB t f T):qj t f:=
 ⟨λi hi a=>by rw[h.Om i hi]at a;simp at a;exact a.1,λh0=>by
  rw[h.Om 7 (by decide),show t+7-8=t-1 by omega,h.top h0];simp;omega⟩
theorem dB.none:dB 0 (λ_=>dT) (λ_=>dT):=⟨λi hi=>by simp,λm hm=>by simp at hm,λh=>by omega⟩
def EA(g:Nat->Bool)(k:Nat):Nat->Bool:=λj=>if j=k then dE else g j
end Go.Con
namespace Go.Proofs.YtcdmenphjilnnaaGreatDoor
open Go.RowKit Go.Con
theorem zK(c:bd)(s:Int)(t n:Nat)(f:Nat->Bool)(w:ax)(hk:c.oneCell'=dE)(q:t<=1073741824)(p:n<=4294967296):
  bl ed 96 #[.agg #[c,s,t,.bool (f 0),.bool (f 1),.bool (f 2),.bool (f 3),.bool (f 4),.bool (f 5),.bool (f 6),.bool (f 7)],n] w λe w'=>e= .returned (.bool (pw t n f))/\dd w.heap.size w w':=by
 by_cases h1:n+8<t
 ·have e:pw t n f=dE:=by simp[pw,h1]
  rw[e];have d1:decide ((n:Int)<(t:Int)-8)=dE:=by rw[ap];omega
  go_enter func96,ntmps96
  go_wp2
  go_ret
  exact⟨rfl,(aj _ _).alloc (ag _) _⟩
 ·have d1:decide ((n:Int)<(t:Int)-8)=dT:=by rw[ah];omega
  by_cases h2:n<t
  ·have d2:decide ((n:Int)<(t:Int))=dE:=by rw[ap];omega
   have d:decide (n<t)=dE:=by rw[ap];omega
   obtain⟨k,hk⟩:=aK (n+8-t);have e:pw t n f=f k:=by simp[pw,h1,h2,hk]
   rw[e];have hx:(n:Int)-((t:Int)-8)=(k:Int):=by omega
   have o:IntKind.i64.wrap ((n:Int)-((t:Int)-8))=(k:Int):=by rw[hx];exact IntWalk.i64_in _ (by omega)
   have m:k<8:=by omega
   have i:n-(t-8)=k\/t<8:=by omega
   have a:∀(W:ax),(W.alloc (.cells #[c,s,t,.bool (f 0),.bool (f 1),.bool (f 2),.bool (f 3),.bool (f 4),.bool (f 5),.bool (f 6),.bool (f 7)] 94)).cell? (W.heap.size,3+k)=de (.bool (f k)):=λW=>by
    refine ej (aL W _) (3+k) ?_;have g:k=0\/k=1\/k=2\/k=3\/k=4\/k=5\/k=6\/k=7:=by omega
    rcases g with h|h|h|h|h|h|h|h<;>(rw[h];rfl)
   have hc:=a w;have j:=ae a;have l:=ae hx;obtain⟨b,hb⟩:=aK (f k);rw[<-hb]at hc|-;clear a e hk i hb;go_enter func96,ntmps96
   go_wp2_with fail
   go_ret
   exact⟨rfl,(aj _ _).alloc (ag _) _⟩
  ·have d2:decide ((n:Int)<(t:Int))=dT:=by rw[ah];omega
   have d:decide (n<t)=dT:=by rw[ah];omega
   have e:pw t n f=dT:=by simp[pw,h1,h2]
   rw[e];go_enter func96,ntmps96
   go_wp2
   go_ret
   exact⟨rfl,(aj _ _).alloc (ag _) _⟩
theorem Eh{f wr W:ax}{base b c a n d:Nat}{key:List UInt8}(h:Own f base (.slice (a,0) n d) key)(hb:dd b f wr)(hk:a<b)(hc:a≠c)(g:∀k,k≠b->k≠c->W.heap[k]?=wr.heap[k]?):Own W base (.slice (a,0) n d) key:=
 h.ul (λk i=>by
  have e:a=k:=fT i;rw[<-e,g a (by omega) hc];exact hb.block a hk)
theorem Dd(a:bd)(s t:Int)(g:Nat->Bool)(k:Nat)(hk:k<8):(kS a s t g).toArray.setIfInBounds (3+k) (.bool dE)=(kS a s t (EA g k)).toArray:=by
 have b:k=0\/k=1\/k=2\/k=3\/k=4\/k=5\/k=6\/k=7:=by omega
 rcases b with rfl|rfl|rfl|rfl|rfl|rfl|rfl|rfl<;>rfl
theorem xT(a:Addr)(c:Nat)(key:List UInt8)(s t n:Nat)(f:Nat->Bool)(w:ax)(hv:Rd w (.slice (de a) 32 c) key)(hkl:key.length=32)(ht:t<=1073741824)(hn:n<=4294967296)(e8:¬n+8<t):
  bl ed 98 #[.agg #[.slice (de a) 32 c,s,t,.bool (f 0),.bool (f 1),.bool (f 2),.bool (f 3),.bool (f 4),.bool (f 5),.bool (f 6),.bool (f 7)],n] w
   λe w'=>∃Y,e= .returned (.agg (kS Y s (max t (n+1):Nat) (lz t n f)).toArray)/\Own w' w.heap.size Y key/\dd w.heap.size w w':=by
 have a0:=ae (λk hk W=>Di f k hk W);obtain⟨T,S⟩:=aK (max t (n+1));obtain⟨d,hd⟩:=aK (T-t);have e1:t<=T:=by omega
 have e0:n+1<=T:=by omega
 have C:T=t+d:=by omega
 have d1:T=t\/T=n+1:=by omega
 have b7:∀k,k<8->lz t n f k=((decide (k+d<8)&&f (k+d))||decide (k+T=n+8)):=λk hk=>by unfold lz;rw[<-S,<-hd]
 rw[<-S];have HV:=ae hv;have N:=ae hkl;have c1:=ae b7;have b9:=ae C;obtain⟨f0,a2⟩:=aK (f 0);obtain⟨f1,a3⟩:=aK (f 1);obtain⟨f2,a4⟩:=aK (f 2);obtain⟨f3,a5⟩:=aK (f 3);obtain⟨f4,a6⟩:=aK (f 4);obtain⟨f5,a7⟩:=aK (f 5);obtain⟨f6,a8⟩:=aK (f 6);obtain⟨f7,a9⟩:=aK (f 7);rw[<-a2,<-a3,<-a4,<-a5,<-a6,<-a7,<-a8,<-a9]at a0|-;clear hv hkl b7 S hd C a2 a3 a4 a5 a6 a7 a8 a9;go_enter func98,ntmps98
 go_wp2_with fail
 refine(JB a c key s t f0 f1 f2 f3 f4 f5 f6 f7 _ ((HV.o.alloc _).alloc _) N.o).m ?_;rintro e l ⟨Y,rfl,V,J⟩;obtain⟨u,x,b4,_,_,_,_⟩:=V.shape (by intro h;have:=N.o;rw[h]at this;cases this);rw[N.o]at b4;subst b4;have m:=(J.block w.heap.size (by simp;omega)).t (gT w (.cells #[.slice (de a) 32 c,s,t,.bool f0,.bool f1,.bool f2,.bool f3,.bool f4,.bool f5,.bool f6,.bool f7] 94) _);have Z:=(J.block (w.heap.size+1) (by simp)).t (gl w _ (.cells #[.slice dl 0 0,(0:Int),(0:Int),.bool dT,.bool dT,.bool dT,.bool dT,.bool dT,.bool dT,.bool dT,.bool dT] 94));have M:=ae ((((aj w.heap.size w).alloc (ag _) _).alloc (by simp) _).t (J.m (by simp;omega)));have Q:=ae V;have z1:=hF Z;have X1:=ae m;have Y1:=ae Z;have d2:∀o,(l.alloc o).cell? (w.heap.size,2)=t:=λo=>(((aj l.heap.size l).alloc (ag _) o).cell (p:=(w.heap.size,2)) (hF m)).t (ej m 2 rfl);have d3:∀o,(l.alloc o).cell? (w.heap.size,3)=de (.bool f0):=λo=>(((aj l.heap.size l).alloc (ag _) o).cell (p:=(w.heap.size,3)) (hF m)).t (ej m 3 rfl);have d4:∀o,(l.alloc o).cell? (w.heap.size,4)=de (.bool f1):=λo=>(((aj l.heap.size l).alloc (ag _) o).cell (p:=(w.heap.size,4)) (hF m)).t (ej m 4 rfl);have d5:∀o,(l.alloc o).cell? (w.heap.size,5)=de (.bool f2):=λo=>(((aj l.heap.size l).alloc (ag _) o).cell (p:=(w.heap.size,5)) (hF m)).t (ej m 5 rfl);have d6:∀o,(l.alloc o).cell? (w.heap.size,6)=de (.bool f3):=λo=>(((aj l.heap.size l).alloc (ag _) o).cell (p:=(w.heap.size,6)) (hF m)).t (ej m 6 rfl);have d7:∀o,(l.alloc o).cell? (w.heap.size,7)=de (.bool f4):=λo=>(((aj l.heap.size l).alloc (ag _) o).cell (p:=(w.heap.size,7)) (hF m)).t (ej m 7 rfl);have d8:∀o,(l.alloc o).cell? (w.heap.size,8)=de (.bool f5):=λo=>(((aj l.heap.size l).alloc (ag _) o).cell (p:=(w.heap.size,8)) (hF m)).t (ej m 8 rfl);have d9:∀o,(l.alloc o).cell? (w.heap.size,9)=de (.bool f6):=λo=>(((aj l.heap.size l).alloc (ag _) o).cell (p:=(w.heap.size,9)) (hF m)).t (ej m 9 rfl);have d10:∀o,(l.alloc o).cell? (w.heap.size,10)=de (.bool f7):=λo=>(((aj l.heap.size l).alloc (ag _) o).cell (p:=(w.heap.size,10)) (hF m)).t (ej m 10 rfl);clear V J m Z;have U:=(Q.o.lt u rfl)
 have c5:=ae (show w.heap.size+1<u by have h:=U.1;simp at h;omega);have b8:∀(y:ax),y=l.alloc (.cells #[.slice (u,0) 32 x,s,T,.bool dT,.bool dT,.bool dT,.bool dT,.bool dT,.bool dT,.bool dT,.bool dT] 94)->
   y.heap[l.heap.size]?=de (.cells (kS (.slice (u,0) 32 x) s T (λ_=>dT)).toArray 94 (0,0))/\y.heap[w.heap.size]?=de (.cells #[.slice (de a) 32 c,s,t,.bool f0,.bool f1,.bool f2,.bool f3,.bool f4,.bool f5,.bool f6,.bool f7] 94 (0,0))/\y.heap[w.heap.size+1]?=de (.cells #[.slice dl 0 0,(0:Int),(0:Int),.bool dT,.bool dT,.bool dT,.bool dT,.bool dT,.bool dT,.bool dT,.bool dT] 94 (0,0))/\dd w.heap.size w y/\Own y w.heap.size (.slice (u,0) 32 x) key:=λy G=>by
  rw[G];exact⟨aL l _,(bC _ _ _ (by omega)).t X1.o,(bC _ _ _ z1).t Y1.o,M.o.alloc M.o.size _,(Q.o.alloc _).m (by simp;omega)⟩
 have c4:=ae b8;have b3:u<l.heap.size:=U.2;have c9:w.heap.size+1<l.heap.size:=z1;clear b8 U z1 X1 Y1 M Q;by_cases e5:(t:Int)<(n:Int)+1
 case' pos=>
  have E:(n:Int)+1=(T:Int):=by omega
  have O:=ae E;clear E;go_wp2_with fail
  rw[O.o]
 case' neg=>
  have E:(T:Int)=(t:Int):=by omega
  have O:=ae E;clear E;go_wp2_with fail
  rw[show l.alloc (.cells #[.slice (u,0) 32 x,s,t,.bool dT,.bool dT,.bool dT,.bool dT,.bool dT,.bool dT,.bool dT,.bool dT] 94)=l.alloc (.cells #[.slice (u,0) 32 x,s,T,.bool dT,.bool dT,.bool dT,.bool dT,.bool dT,.bool dT,.bool dT,.bool dT] 94) by rw[O.o]]
 all_goals
  obtain⟨y,G⟩:=aK (l.alloc (.cells #[.slice (u,0) 32 x,s,T,.bool dT,.bool dT,.bool dT,.bool dT,.bool dT,.bool dT,.bool dT,.bool dT] 94));rw[<-G];have k2:=c4.o y G;obtain⟨b,hb⟩:=aK l.heap.size;rw[<-hb]at k2 b3 c9|-;have D:=ae k2;clear k2 G hb d2 d3 d4 d5 d6 d7 d8 d9 d10;go_loopw [21] (λi wr=>∃(k:Nat) (g:Nat->Bool),k<=8/\Hid (∀j,j<8->g j=(decide (j+d<k)&&f (j+d)))/\i= .int .i64 k/\wr.heap[b]?=de (.cells (kS (.slice (u,0) 32 x) s T g).toArray 94 (0,0))/\dd b y wr) (λi _=>8-(intOf i).toNat)
  case atStart=>exact⟨0,λ_=>dT,by omega,ae (λj hj=>by simp),rfl,D.o.1,aj _ _⟩
  case round=>
   obtain⟨k,g,hk,H,rfl,hx,z⟩:=hrel;have I:=ae hx;have A:=ae z;have F:=(z.block w.heap.size (by omega)).t D.o.2.1;by_cases hlt:k<8
   ·have c6:decide ((k:Int)<8)=dE:=by rw[ap];omega
    have c7:=a0.o k hlt;obtain⟨v,hv⟩:=aK (f k);rw[<-hv]at c7;have c2:=ej F 2 rfl;have e2:wr.cell? (b,2)=(T:Int):=ej hx 2 rfl;have L:∀j,j<8->wr.cell? (b,3+j)=de (.bool (g j)):=λj hj=>by
     have R:j=0\/j=1\/j=2\/j=3\/j=4\/j=5\/j=6\/j=7:=by omega
     rcases R with h|h|h|h|h|h|h|h<;>(rw[h];exact ej hx _ rfl)
    have C:=b9.o;by_cases e4:d<=k
    ·obtain⟨j,hj⟩:=aK (k-d);have e3:(t:Int)+(k:Int)-(T:Int)=(j:Int):=by omega
     have b1:j<8:=by omega
     have cj:=L j b1;have fj:=aO hx (3+j);have HJ:=ae hj;have a1:=ae hv;cases v with
     |false=>
      have r:∀i,i<8->g i=(decide (i+d<k+1)&&f (i+d)):=λi hi=>by
       rw[H.o i hi];by_cases K:i+d=k
       ·rw[K,<-a1.o];simp
       ·rw[show decide (i+d<k+1)=decide (i+d<k) by rw[decide_eq_decide];omega]
      have B:=ae r;clear hx z F hv L hj r C;go_wp2_with fail
      go_roundw
      case rel=>exact⟨k+1,g,by omega,B,by go_num,I.o,A.o⟩
      case measure=>simp[intOf];omega
     |true=>
      have r:∀i,i<8->EA g j i=(decide (i+d<k+1)&&f (i+d)):=λi hi=>by
       unfold EA;by_cases K:i=j
       ·have:i+d=k:=by omega
        rw[ar K,this,<-a1.o];simp
       ·rw[ak K,H.o i hi,show decide (i+d<k+1)=decide (i+d<k) by rw[decide_eq_decide];omega]
      have B:=ae r;clear hx z F hv L hj r C;go_wp2_with fail
      go_roundw
      case rel=>
       refine⟨k+1,EA g j,by omega,B,by go_num,?_,A.o.setCell (ag _) _⟩;rw[<-Dd _ _ _ _ _ b1];exact aB I.o _
      case measure=>simp[intOf];omega
    ·have r:∀i,i<8->g i=(decide (i+d<k+1)&&f (i+d)):=λi hi=>by
      rw[H.o i hi,show decide (i+d<k+1)=decide (i+d<k) by rw[decide_eq_decide];omega]
     have B:=ae r;have e6:decide ((0:Int)<=(t:Int)+(k:Int)-(T:Int))=dT:=by rw[ah];omega
     have e7:decide ((T:Int)<=(t:Int)+(k:Int))=dT:=by rw[ah];omega
     clear hx z F hv L r C;cases v with
     |false=>
      go_wp2_with fail
      go_roundw
      case rel=>exact⟨k+1,g,by omega,B,by go_num,I.o,A.o⟩
      case measure=>simp[intOf];omega
     |true=>
      go_wp2_with fail
      go_roundw
      case rel=>exact⟨k+1,g,by omega,B,by go_num,I.o,A.o⟩
      case measure=>simp[intOf];omega
   ·have c6:decide ((k:Int)<8)=dT:=by rw[ah];omega
    have b2:k=8:=by omega
    obtain⟨q,hq⟩:=aK (n+8-T);have e9:(n:Int)-((T:Int)-8)=(q:Int):=by omega
    have c8:q<8:=by omega
    have e2:wr.cell? (b,2)=(T:Int):=ej hx 2 rfl;have cq:wr.cell? (b,3+q)=de (.bool (g q)):=by
     have R:q=0\/q=1\/q=2\/q=3\/q=4\/q=5\/q=6\/q=7:=by omega
     rcases R with h|h|h|h|h|h|h|h<;>(rw[h];exact ej hx _ rfl)
    have fq:=aO hx (3+q);have r:∀i,i<8->EA g q i=lz t n f i:=λi hi=>by
     rw[c1.o i hi];unfold EA;by_cases b0:i=q
     ·have:i+T=n+8:=by omega
      rw[ar b0];simp[this]
     ·have:¬(i+T=n+8):=by omega
      rw[ak b0,H.o i hi,b2];simp[this]
    have b5:(wr.setCell (b,3+q) (.bool dE)).heap[b]?=de (.cells (kS (.slice (u,0) 32 x) s T (lz t n f)).toArray 94 (0,0)):=by
     have h:=aB (o:=3+q) hx (.bool dE);rw[Dd _ _ _ _ _ c8]at h;rw[h];unfold kS;rw[r 0 (by decide),r 1 (by decide),r 2 (by decide),r 3 (by decide),r 4 (by decide),r 5 (by decide),r 6 (by decide),r 7 (by decide)]
    have hrg:=bu b5;have hz:=(z.block (w.heap.size+1) (by omega)).t D.o.2.2.1;have X:=(aA (3+q) (.bool dE) (w:=wr) (b:=b) (k:=w.heap.size+1) (by omega)).t hz;have b6:(wr.setCell (b,3+q) (.bool dE)).there (w.heap.size+1) 0 11:=dr X rfl;have c0:=ae b6;have c3:=ae X;have HQ:=ae hq;clear hx z F b2 r b5 hz X b6 hq;go_wp2_with (first
     |(refine cM rfl 94 (.tmp 5) rfl b 0 rfl (kS (.slice (u,0) 32 x) s T (lz t n f)) _ hrg Tryz.underlying94 rfl gz ?_)
     |(refine bz rfl 94 (.tmp 4) (.tmp 48) rfl (w.heap.size+1) 0 (kS (.slice (u,0) 32 x) s T (lz t n f)).toArray rfl rfl c0.o gz (Dj _ _ _ _ rfl) ?_))
    have d0:=dI (vs:=kS (.slice (u,0) 32 x) s T (lz t n f)) c3.o rfl;have hl:=aU (P:=ed) _ (w.heap.size+1) 0 94 _ _ (bu d0) Tryz.underlying94 rfl gz;refine aH (v:= .agg (kS (.slice (u,0) 32 x) s T (lz t n f)).toArray) (lM Tryz.results98 rfl hl) rfl ⟨_,rfl,?_,?_⟩
    ·exact Eh (c:=w.heap.size+1) D.o.2.2.2.2 A.o b3 (by have:=c5.o;omega) (λk h1 h2=>by rw[bE h2,aA _ _ h1])
    ·exact bp (by omega) _ _ _ ((D.o.2.2.2.1.t (A.o.m (by omega))).setCell (by show w.heap.size<=b;omega) _)
set_option maxHeartbeats 400000
theorem Kg{w:ax}{c b o k:Nat}{v:bd}(h:c≠b):(w.setCell (c,o) v).cell? (b,k)=w.cell? (b,k):=
 aw (w:=w) (aA o v (λe=>h e.symm))
theorem LR{W:ax}{c b:Nat}{g i k l m n o p q r j v0 v1 v2 v3 v4 a v6 d e f v10:bd}(s:c≠b)(h:W.cell? (b,0)=de g/\W.cell? (b,1)=de i/\W.cell? (b,2)=de k/\W.cell? (b,3)=de l/\W.cell? (b,4)=de m/\W.cell? (b,5)=de n/\W.cell? (b,6)=de o/\W.cell? (b,7)=de p/\W.cell? (b,8)=de q/\W.cell? (b,9)=de r/\W.cell? (b,10)=de j):
  (((((((((((W.setCell (c,0) v0).setCell (c,1) v1).setCell (c,2) v2).setCell (c,3) v3).setCell (c,4) v4).setCell (c,5) a).setCell (c,6) v6).setCell (c,7) d).setCell (c,8) e).setCell (c,9) f).setCell (c,10) v10).cell? (b,0)=de g/\(((((((((((W.setCell (c,0) v0).setCell (c,1) v1).setCell (c,2) v2).setCell (c,3) v3).setCell (c,4) v4).setCell (c,5) a).setCell (c,6) v6).setCell (c,7) d).setCell (c,8) e).setCell (c,9) f).setCell (c,10) v10).cell? (b,1)=de i/\(((((((((((W.setCell (c,0) v0).setCell (c,1) v1).setCell (c,2) v2).setCell (c,3) v3).setCell (c,4) v4).setCell (c,5) a).setCell (c,6) v6).setCell (c,7) d).setCell (c,8) e).setCell (c,9) f).setCell (c,10) v10).cell? (b,2)=de k/\(((((((((((W.setCell (c,0) v0).setCell (c,1) v1).setCell (c,2) v2).setCell (c,3) v3).setCell (c,4) v4).setCell (c,5) a).setCell (c,6) v6).setCell (c,7) d).setCell (c,8) e).setCell (c,9) f).setCell (c,10) v10).cell? (b,3)=de l/\(((((((((((W.setCell (c,0) v0).setCell (c,1) v1).setCell (c,2) v2).setCell (c,3) v3).setCell (c,4) v4).setCell (c,5) a).setCell (c,6) v6).setCell (c,7) d).setCell (c,8) e).setCell (c,9) f).setCell (c,10) v10).cell? (b,4)=de m/\(((((((((((W.setCell (c,0) v0).setCell (c,1) v1).setCell (c,2) v2).setCell (c,3) v3).setCell (c,4) v4).setCell (c,5) a).setCell (c,6) v6).setCell (c,7) d).setCell (c,8) e).setCell (c,9) f).setCell (c,10) v10).cell? (b,5)=de n/\(((((((((((W.setCell (c,0) v0).setCell (c,1) v1).setCell (c,2) v2).setCell (c,3) v3).setCell (c,4) v4).setCell (c,5) a).setCell (c,6) v6).setCell (c,7) d).setCell (c,8) e).setCell (c,9) f).setCell (c,10) v10).cell? (b,6)=de o/\(((((((((((W.setCell (c,0) v0).setCell (c,1) v1).setCell (c,2) v2).setCell (c,3) v3).setCell (c,4) v4).setCell (c,5) a).setCell (c,6) v6).setCell (c,7) d).setCell (c,8) e).setCell (c,9) f).setCell (c,10) v10).cell? (b,7)=de p/\(((((((((((W.setCell (c,0) v0).setCell (c,1) v1).setCell (c,2) v2).setCell (c,3) v3).setCell (c,4) v4).setCell (c,5) a).setCell (c,6) v6).setCell (c,7) d).setCell (c,8) e).setCell (c,9) f).setCell (c,10) v10).cell? (b,8)=de q/\(((((((((((W.setCell (c,0) v0).setCell (c,1) v1).setCell (c,2) v2).setCell (c,3) v3).setCell (c,4) v4).setCell (c,5) a).setCell (c,6) v6).setCell (c,7) d).setCell (c,8) e).setCell (c,9) f).setCell (c,10) v10).cell? (b,9)=de r/\(((((((((((W.setCell (c,0) v0).setCell (c,1) v1).setCell (c,2) v2).setCell (c,3) v3).setCell (c,4) v4).setCell (c,5) a).setCell (c,6) v6).setCell (c,7) d).setCell (c,8) e).setCell (c,9) f).setCell (c,10) v10).cell? (b,10)=de j:=by
 simp only[Kg s];exact h
theorem fW{P:Program}{fn:Func}{tmps:Array bd}{w:ax}{a b c:Nat}{t:TypeId}{ad:Addr}{v:bd}(hr:fn.results=#[.cell a t,.tmp b,.tmp c])(d:tmps.getD a undef= .pointer (de ad))
  (hl:(loadVar t ad).run P w= .ok v w):(results fn tmps).run P w= .ok (.tuple #[v,tmps.getD b undef,tmps.getD c undef]) w:=by
 unfold results;rw[hr];simp only[bB]at d;generalize loadVar=L at hl|-;simp[d,hl,go_sem]
end Go.Proofs.YtcdmenphjilnnaaGreatDoor
namespace Go.Con
def sN(l:List UInt8):Nat:=(l.getD 0 0).toNat*16777216+(l.getD 1 0).toNat*65536+(l.getD 2 0).toNat*256+(l.getD 3 0).toNat
theorem Mg(l:List UInt8):sN l<4294967296:=by
 have h0:=(l.getD 0 0).toNat_lt;have h1:=(l.getD 1 0).toNat_lt;have h2:=(l.getD 2 0).toNat_lt;have h3:=(l.getD 3 0).toNat_lt;unfold sN;omega
end Go.Con
namespace Go.Proofs.YtcdmenphjilnnaaGreatDoor
open Go.RowKit Go.Con
def vt(w:ax)(key:List UInt8)(s:Nat)(T:Nat)(g:Nat->Bool)(p:List UInt8)(e:Ending)(w':ax):Prop:=
 ∃a pv,e= .returned (.tuple #[.agg (kS a (s:Nat) T g).toArray,pv,(0:Int)])/\Own w' w.heap.size a key/\Own w' w.heap.size pv p/\dd w.heap.size w w'
def rK(w:ax)(c:Int)(e:Ending)(w':ax):Prop:=e= .returned (.tuple #[.agg #[.slice dl 0 0,(0:Int),(0:Int),.bool dT,.bool dT,.bool dT,.bool dT,.bool dT,.bool dT,.bool dT,.bool dT],.slice dl 0 0,c])/\dd w.heap.size w w'
theorem vp(a:Addr)(c:Nat)(rv:bd)(key r:List UInt8)(s t q:Nat)(f:Nat->Bool)(w:ax)(hv:Rd w (.slice (de a) 32 c) key)(hr:Rd w rv r)(hkl:key.length=32)(c3:r.length=q+20)(hq:q<=2000)(hs:s<=1073741824)(ht:t<=1073741824)(hf:qj t f)(Z:Ending->ax->Prop)(c4:(1073741824<=sN (r.take 4)/\Z=rK w 2)\/(sN (r.take 4)<1073741824/\pw t (sN (r.take 4)) f=dE/\Z=rK w 7)\/(sN (r.take 4)<1073741824/\pw t (sN (r.take 4)) f=dT/\Sea.tag key (kr (r.take 4)) (r.take 4) ((r.drop 4).take q)≠(r.drop 4).drop q/\Z=rK w 6)\/(sN (r.take 4)<1073741824/\pw t (sN (r.take 4)) f=dT/\Sea.tag key (kr (r.take 4)) (r.take 4) ((r.drop 4).take q)=(r.drop 4).drop q/\Z=vt w key s (max t (sN (r.take 4)+1)) (lz t (sN (r.take 4)) f) (Cha.KR key 1 (kr (r.take 4)) ((r.drop 4).take q)))):
  bl ed 69 #[.agg #[.slice (de a) 32 c,.int .i64 s,.int .i64 t,.bool (f 0),.bool (f 1),.bool (f 2),.bool (f 3),.bool (f 4),.bool (f 5),.bool (f 6),.bool (f 7)],rv] w Z:=by
 obtain⟨m,hm⟩:∃m,q+20=m:=⟨_,rfl⟩
 obtain⟨H,U⟩:=aK (r.take 4);obtain⟨N,G⟩:=aK (kr H);obtain⟨D,T⟩:=aK (r.drop 4);have hHl:H.length=4:=by rw[U,aM,c3];omega
 have d3:N.length=12:=by rw[G,kr,aD,hHl];rfl
 have d2:D.length=q+16:=by rw[T,cO,c3];omega
 obtain⟨K,ro,rc,rfl,i1,i4⟩:=hr.gL m (by omega) (by omega);have c2:=hr.pre 4 (by omega);rw[<-U]at c2;have o:Rd w (.slice (de ⟨K,ro,dl⟩) 4 4) H:=by
  obtain⟨a',c',e,h1,h2,h3,h4⟩:=c2;injection e with e1 e2 e3;subst e1;exact⟨_,4,by rw[hHl],by omega,by decide,(λh=>by cases h),h4⟩
 have c1:=hr.tail 4 (q+16) (by omega) (by omega);rw[<-T]at c1;obtain⟨n,hn⟩:=aK (sN H);have i0:n<4294967296:=by rw[hn];exact Mg _
 rw[<-U,<-G,<-T,<-hn]at c4;have R:=ae c4;have g9:=ae hf;have e8:=ae (show N=kr H/\N.length=12 from⟨G,d3⟩);have d4:=λw=>qF (de a) c s t f w hs ht hf;have c7:=ae d4;have b9:=λv w h=>vG v H w h hHl;rw[<-G]at b9;have x0:=cellOf o 0 (by rw[hHl];decide);have u:=cellOf o 1 (by rw[hHl];decide);have d:=cellOf o 2 (by rw[hHl];decide);have x3:=cellOf o 3 (by rw[hHl];decide);obtain⟨h0,b3⟩:=aK (H.getD 0 0);obtain⟨h1,b4⟩:=aK (H.getD 1 0);obtain⟨h2,b5⟩:=aK (H.getD 2 0);obtain⟨h3,b6⟩:=aK (H.getD 3 0);have d7:n=h0.toNat*16777216+h1.toNat*65536+h2.toNat*256+h3.toNat:=by rw[hn,sN,b3,b4,b5,b6]
 rw[<-b3]at x0;rw[<-b4]at u;rw[<-b5]at d;rw[<-b6]at x3;have b:=ae (And.intro x0 (And.intro u (And.intro d x3)));obtain⟨f0,a3⟩:=aK (f 0);obtain⟨f1,a4⟩:=aK (f 1);obtain⟨f2,a5⟩:=aK (f 2);obtain⟨f3,a6⟩:=aK (f 3);obtain⟨f4,a7⟩:=aK (f 4);obtain⟨f5,a8⟩:=aK (f 5);obtain⟨f6,a9⟩:=aK (f 6);obtain⟨f7,b0⟩:=aK (f 7);rw[<-a3,<-a4,<-a5,<-a6,<-a7,<-a8,<-a9,<-b0]at c7|-;have HV:=ae hv;have O:=ae hkl;have g1:=ae o;have g0:=ae c1;have e9:=ae b9;have e6:=ae hHl;have e5:=ae d2;have f8:=ae d7;have h5:decide ((2020:Int)<(m:Int))=dT:=by rw[ah];omega
 have d20:decide ((m:Int)<20)=dT:=by rw[ah];omega
 have i2:(4:Int)<=(rc:Int):=by omega
 have i5:(m:Int)<=(rc:Int):=by omega
 have i3:¬(rc=4):=by omega
 have h6:m-4=q+16:=by omega
 have h7:(4:Int)<=(m:Int):=by omega
 have c8:=ae (show f0=f 0/\f1=f 1/\f2=f 2/\f3=f 3/\f4=f 4/\f5=f 5/\f6=f 6/\f7=f 7 from⟨a3,a4,a5,a6,a7,a8,a9,b0⟩);clear hv hr hkl c3 d4 U G T hHl d3 d2 c2 o c1 b9 hn d7 hm hf a3 a4 a5 a6 a7 a8 a9 b0 b3 b4 b5 b6 x0 u d x3 c4;go_enter func69,ntmps69
 go_wp2_with fail
 refine(c7.o _).m ?_;rintro e w1 ⟨rfl,V⟩;have u:=(V.block w.heap.size (by simp;omega)).t (gT w (.cells #[.slice (de a) 32 c,.int .i64 s,.int .i64 t,.bool f0,.bool f1,.bool f2,.bool f3,.bool f4,.bool f5,.bool f6,.bool f7] 94) _);have y1:=(V.block (w.heap.size+1) (by simp)).t (gl w _ (.cells #[.slice dl 0 0,.int .i64 0,.int .i64 0,.bool dT,.bool dT,.bool dT,.bool dT,.bool dT,.bool dT,.bool dT,.bool dT] 94));have b1:=(((aj w.heap.size w).alloc (ag _) _).alloc (by simp) _).t (V.m (by simp;omega));have z1:=hF y1;have X1:=ae u;have Y1:=ae y1;have B1:=ae b1;have u0:=(b1.cell (p:=⟨K,ro+0,dl⟩) (aI w _ b.o.1)).t b.o.1;have u1:=(b1.cell (p:=⟨K,ro+1,dl⟩) (aI w _ b.o.2.1)).t b.o.2.1;have u2:=(b1.cell (p:=⟨K,ro+2,dl⟩) (aI w _ b.o.2.2.1)).t b.o.2.2.1;have u3:=(b1.cell (p:=⟨K,ro+3,dl⟩) (aI w _ b.o.2.2.2)).t b.o.2.2.2;rw[fI]at u0;clear V u y1 b1;go_wp2_with fail
 go_quiet (fail)
 clear u0 u1 u2 u3;rw[ya,<-f8.o];have d:(w1.drewN nq).heap[w.heap.size]?=de (.cells #[.slice (de a) 32 c,.int .i64 s,.int .i64 t,.bool f0,.bool f1,.bool f2,.bool f3,.bool f4,.bool f5,.bool f6,.bool f7] 94 (0,0)):=X1.o;have y2:(w1.drewN nq).heap[w.heap.size+1]?=de (.cells #[.slice dl 0 0,.int .i64 0,.int .i64 0,.bool dT,.bool dT,.bool dT,.bool dT,.bool dT,.bool dT,.bool dT,.bool dT] 94 (0,0)):=Y1.o;have b2:dd w.heap.size w (w1.drewN nq):=below_drewN B1.o nq;generalize g7:w1.drewN nq=w2 at d y2 b2|-;have X2:=ae d;have S:=ae y2;have B2:=ae b2;have e0:=bu (cs:=[.slice (de a) 32 c,.int .i64 s,.int .i64 t,.bool f0,.bool f1,.bool f2,.bool f3,.bool f4,.bool f5,.bool f6,.bool f7]) d;clear d y2 b2 g7;by_cases a2:1073741824<=n
 ·have i:Z=rK w 2:=by rcases R.o with⟨-,e⟩|⟨h,-⟩|⟨h,-⟩|⟨h,-⟩<;>first|exact e|omega
  have g8:decide ((1073741824:Int)<=(n:Int))=dE:=by rw[ap];omega
  clear a2;go_wp2_with (refine bz rfl 94 (.tmp 4) (.tmp 56) rfl (w.heap.size+1) 0 #[.slice dl 0 0,.int .i64 0,.int .i64 0,.bool dT,.bool dT,.bool dT,.bool dT,.bool dT,.bool dT,.bool dT,.bool dT] rfl rfl (dr S.o rfl) gz (jU _ _ _ _ _ _ _ _ _ _ _ rfl) ?_)
  have j:=dI (vs:=[.slice dl 0 0,.int .i64 0,.int .i64 0,.bool dT,.bool dT,.bool dT,.bool dT,.bool dT,.bool dT,.bool dT,.bool dT]) S.o rfl;have hl:=aU (P:=ed) _ (w.heap.size+1) 0 94 _ _ (bu j) Tryz.underlying94 rfl gz;refine aH (v:= .tuple #[.agg #[.slice dl 0 0,.int .i64 0,.int .i64 0,.bool dT,.bool dT,.bool dT,.bool dT,.bool dT,.bool dT,.bool dT,.bool dT],.slice dl 0 0,.int .i64 2]) (fW Tryz.results69 rfl hl) rfl ?_;rw[i];exact⟨rfl,bp (by omega) _ _ _ B2.o⟩
 have g8:decide ((1073741824:Int)<=(n:Int))=dT:=by rw[ah];omega
 obtain⟨mb,b7⟩:=aK (pw t n f);have b8:=λw=>zK (.slice (de a) 32 c) s t n f w rfl ht (by omega);obtain⟨A,e1,e2,e3,B,C,E,F⟩:=c8.o;rw[<-b7,<-A,<-e1,<-e2,<-e3,<-B,<-C,<-E,<-F]at b8;have e7:=ae b8;have Q:=ae b7;have M:=ae a2;clear b8 b7 a2 A e1 e2 e3 B C E F;go_wp2_with (refine cM rfl 94 (.tmp 2) rfl w.heap.size 0 rfl [.slice (de a) 32 c,.int .i64 s,.int .i64 t,.bool f0,.bool f1,.bool f2,.bool f3,.bool f4,.bool f5,.bool f6,.bool f7] _ e0 Tryz.underlying94 rfl gz ?_)
 refine(e7.o _).m ?_;rintro e w3 ⟨rfl,W⟩;have X3:=ae ((W.block w.heap.size (hF X2.o)).t X2.o);have y:=ae ((W.block (w.heap.size+1) (hF S.o)).t S.o);have l:=ae (B2.o.t (W.m B2.o.size));clear W e0;by_cases Y:mb=dE
 ·subst Y;have i:Z=rK w 7:=by rcases R.o with⟨h,-⟩|⟨-,-,e⟩|⟨-,h,-⟩|⟨-,h,-⟩<;>first|exact e|(exact absurd h M.o)|(rw[<-Q.o]at h;cases h)
  go_wp2_with (refine bz rfl 94 (.tmp 4) (.tmp 61) rfl (w.heap.size+1) 0 #[.slice dl 0 0,.int .i64 0,.int .i64 0,.bool dT,.bool dT,.bool dT,.bool dT,.bool dT,.bool dT,.bool dT,.bool dT] rfl rfl (dr y.o rfl) gz (jU _ _ _ _ _ _ _ _ _ _ _ rfl) ?_)
  have j:=dI (vs:=[.slice dl 0 0,.int .i64 0,.int .i64 0,.bool dT,.bool dT,.bool dT,.bool dT,.bool dT,.bool dT,.bool dT,.bool dT]) y.o rfl;have hl:=aU (P:=ed) _ (w.heap.size+1) 0 94 _ _ (bu j) Tryz.underlying94 rfl gz;refine aH (v:= .tuple #[.agg #[.slice dl 0 0,.int .i64 0,.int .i64 0,.bool dT,.bool dT,.bool dT,.bool dT,.bool dT,.bool dT,.bool dT,.bool dT],.slice dl 0 0,.int .i64 7]) (fW Tryz.results69 rfl hl) rfl ?_;rw[i];exact⟨rfl,bp (by omega) _ _ _ l.o⟩
 replace Y:mb=dT:=by simpa using Y
 subst Y;have d6:¬n+8<t:=by
  have h:=Q.o;simp[pw]at h;omega
 obtain⟨P,hP⟩:=aK (Cha.KR key 1 N (D.take q));have d9:=λkv nv av dv w h1 h2 h3 h4=>(IG kv nv av dv key N H D q w h1 h2 h3 h4 O.o e8.o.2 (by rw[e6.o];decide) e5.o hq).m (R':=λe w'=>∃vx ex,e= .returned (.tuple #[vx,.int .i64 ex])/\Hid ((Sea.tag key N H (D.take q)=D.drop q/\ex=0/\Own w' w.heap.size vx P)\/(Sea.tag key N H (D.take q)≠D.drop q/\ex=6))/\dd w.heap.size w w') (λe w' h=>by
  rcases h with⟨ha,h⟩|⟨ha,h⟩
  ·obtain⟨v8,h8,h9,g6⟩:=h;exact⟨v8,0,h8,ae (.inl ⟨ha,rfl,by rw[hP];exact h9⟩),g6⟩
  ·exact⟨_,6,h.1,ae (.inr ⟨ha,rfl⟩),h.2⟩)
 have f9:=ae d9;have c5:=λw h=>xT a c key s t n f w h O.o ht (by have:=M.o;omega) d6;obtain⟨A,e1,e2,e3,B,C,E,F⟩:=c8.o;rw[<-A,<-e1,<-e2,<-e3,<-B,<-C,<-E,<-F]at c5;have g2:=ae c5;have HP:=ae hP;clear d9 c5 d6 hP A e1 e2 e3 B C E F;go_wp2_with fail
 have k0:w3.cell? ⟨w.heap.size,0,dl⟩=de (.slice (de a) 32 c):=ej X3.o 0 rfl;have d1:=ae (g1.o.stay l.o);have g3:=ae (g0.o.stay l.o);have g5:=ae (HV.o.stay l.o);have L3:=ae (hF X3.o);go_region_held3 (λw'=>w'.cell? ⟨w.heap.size,0,dl⟩=de (.slice (de a) 32 c)) (first|exact k0|assumption) (first
  |(go_at_call 47;refine(e9.o _ _ (d1.o.drewN 1)).m ?_;rintro e w4 ⟨vn,rfl,d8,a1⟩;have g4:=ae d8.rd;have g:=ae a1;have k4:w4.cell? ⟨w.heap.size,0,dl⟩=de (.slice (de a) 32 c):=(a1.cell (p:=⟨w.heap.size,0,dl⟩) L3.o).t k0;clear d8 a1)
  |(go_at_call 97;refine(f9.o _ _ _ _ _ ((g5.o.drewN 1).stay g.o) g4.o ((d1.o.drewN 1).stay g.o) ((g3.o.drewN 1).stay g.o)).m ?_;rintro e w5 ⟨vx,ex,rfl,I,hb5⟩;have B5:=ae hb5;have k5:w5.cell? ⟨w.heap.size,0,dl⟩=de (.slice (de a) 32 c):=(hb5.cell (p:=⟨w.heap.size,0,dl⟩) (ai L3.o g.o.size)).t k4;have a0:=I;clear I;clear hb5))
 have L:=ae (show dd w3.heap.size w3 w5 from(below_drewN (aj w3.heap.size w3) 1).t (g.o.t (B5.o.m g.o.size)));have X5:=ae ((L.o.block w.heap.size L3.o).t X3.o);have z:=ae ((L.o.block (w.heap.size+1) (hF y.o)).t y.o);have x:=ae (l.o.t (L.o.m l.o.size));have e4:=bu (cs:=[.slice (de a) 32 c,.int .i64 s,.int .i64 t,.bool f0,.bool f1,.bool f2,.bool f3,.bool f4,.bool f5,.bool f6,.bool f7]) X5.o;clear k0 k4 k5;rcases a0.o with⟨J,rfl,I⟩|⟨J,rfl⟩
 ·have i:Z=vt w key s (max t (n+1)) (lz t n f) P:=by
   rw[HP.o];rcases R.o with⟨h,-⟩|⟨-,h,-⟩|⟨-,-,h,-⟩|⟨-,-,-,e⟩<;>first|exact e|(exact absurd h M.o)|(exact absurd J h)|(rw[<-Q.o]at h;cases h)
  have c9:=ae I;clear I J a0;go_wp2_with (refine cM rfl 94 (.tmp 2) rfl w.heap.size 0 rfl [.slice (de a) 32 c,.int .i64 s,.int .i64 t,.bool f0,.bool f1,.bool f2,.bool f3,.bool f4,.bool f5,.bool f6,.bool f7] _ e4 Tryz.underlying94 rfl gz ?_)
  refine(g2.o _ ((HV.o.stay x.o))).m ?_;rintro e w6 ⟨kv,rfl,c0,X⟩;obtain⟨kg,c6,d5,_,_,_,_⟩:=c0.shape (by intro h;have:=O.o;rw[h]at this;cases this);rw[O.o]at d5;subst d5;have O6:=ae c0;have Y6:=ae ((X.block (w.heap.size+1) (hF z.o)).t z.o);have B6:=ae (x.o.t (X.m x.o.size));have d0:=ae (c9.o.below X (λk hk=>(c9.o.lt k hk).2));have i7:=L.o.size;have i6:w3.heap.size<=w4.heap.size:=g.o.size;have z5:=x.o.size;have i9:=hF z.o;have i8:=hF y.o;clear c0 X e4;go_wp2_with (refine bz rfl 94 (.tmp 4) (.tmp 79) rfl (w.heap.size+1) 0 (kS (.slice (de ⟨kg,0,dl⟩) 32 c6) s (max t (n+1):Nat) (lz t n f)).toArray rfl rfl (dr Y6.o rfl) gz (Dj _ _ _ _ rfl) ?_)
  have j:=dI (vs:=kS (.slice (de ⟨kg,0,dl⟩) 32 c6) s (max t (n+1):Nat) (lz t n f)) Y6.o rfl;have hl:=aU (P:=ed) _ (w.heap.size+1) 0 94 _ _ (bu j) Tryz.underlying94 rfl gz;refine aH (v:= .tuple #[.agg (kS (.slice (de ⟨kg,0,dl⟩) 32 c6) s (max t (n+1):Nat) (lz t n f)).toArray,vx,.int .i64 0]) (fW Tryz.results69 rfl hl) rfl ?_;rw[i];refine⟨_,_,rfl,?_,?_,bp (by omega) _ _ _ B6.o⟩
  ·refine(O6.o.ul (λk hk=>bE ?_ _ _ _)).m z5;have:=(O6.o.lt k hk).1;omega
  ·refine(d0.o.ul (λk hk=>bE ?_ _ _ _)).m (by omega);have:=(d0.o.lt k hk).1;omega
 ·have i:Z=rK w 6:=by rcases R.o with⟨h,-⟩|⟨-,h,-⟩|⟨-,-,-,e⟩|⟨-,-,h,-⟩<;>first|exact e|(exact absurd h M.o)|(exact absurd h J)|(rw[<-Q.o]at h;cases h)
  clear J a0;go_wp2_with (refine bz rfl 94 (.tmp 4) (.tmp 75) rfl (w.heap.size+1) 0 #[.slice dl 0 0,.int .i64 0,.int .i64 0,.bool dT,.bool dT,.bool dT,.bool dT,.bool dT,.bool dT,.bool dT,.bool dT] rfl rfl (dr z.o rfl) gz (jU _ _ _ _ _ _ _ _ _ _ _ rfl) ?_)
  have j:=dI (vs:=[.slice dl 0 0,.int .i64 0,.int .i64 0,.bool dT,.bool dT,.bool dT,.bool dT,.bool dT,.bool dT,.bool dT,.bool dT]) z.o rfl;have hl:=aU (P:=ed) _ (w.heap.size+1) 0 94 _ _ (bu j) Tryz.underlying94 rfl gz;refine aH (v:= .tuple #[.agg #[.slice dl 0 0,.int .i64 0,.int .i64 0,.bool dT,.bool dT,.bool dT,.bool dT,.bool dT,.bool dT,.bool dT,.bool dT],.slice dl 0 0,.int .i64 6]) (fW Tryz.results69 rfl hl) rfl ?_;rw[i];exact⟨rfl,bp (by omega) _ _ _ x.o⟩
theorem Cp(a:Addr)(c:Nat)(b:bd)(key r:List UInt8)(s t q:Nat)(f:Nat->Bool)(w:ax)(hv:Rd w (.slice (de a) 32 c) key)(hr:Rd w b r)(hkl:key.length=32)(h:r.length=q+20)(hq:q<=2000)(hs:s<=1073741824)(i:t<=1073741824)(d:qj t f)(g:1073741824<=sN (r.take 4)):
  bl ed 69 #[.agg #[.slice (de a) 32 c,s,t,.bool (f 0),.bool (f 1),.bool (f 2),.bool (f 3),.bool (f 4),.bool (f 5),.bool (f 6),.bool (f 7)],b] w λe w'=>e= .returned (.tuple #[.agg #[.slice dl 0 0,(0:Int),(0:Int),.bool dT,.bool dT,.bool dT,.bool dT,.bool dT,.bool dT,.bool dT,.bool dT],.slice dl 0 0,(2:Int)])/\dd w.heap.size w w':=by
 exact vp a c b key r s t q f w hv hr hkl h hq hs i d _ (.inl ⟨g,rfl⟩)
theorem Ix(a:Addr)(c:Nat)(b:bd)(key r:List UInt8)(s t q:Nat)(f:Nat->Bool)(w:ax)(hv:Rd w (.slice (de a) 32 c) key)(hr:Rd w b r)(hkl:key.length=32)(i:r.length=q+20)(hq:q<=2000)(hs:s<=1073741824)(j:t<=1073741824)(d:qj t f)(h:sN (r.take 4)<1073741824)(g:pw t (sN (r.take 4)) f=dT)(k:Sea.tag key (kr (r.take 4)) (r.take 4) ((r.drop 4).take q)≠(r.drop 4).drop q):
  bl ed 69 #[.agg #[.slice (de a) 32 c,s,t,.bool (f 0),.bool (f 1),.bool (f 2),.bool (f 3),.bool (f 4),.bool (f 5),.bool (f 6),.bool (f 7)],b] w λe w'=>e= .returned (.tuple #[.agg #[.slice dl 0 0,(0:Int),(0:Int),.bool dT,.bool dT,.bool dT,.bool dT,.bool dT,.bool dT,.bool dT,.bool dT],.slice dl 0 0,(6:Int)])/\dd w.heap.size w w':=by
 exact vp a c b key r s t q f w hv hr hkl i hq hs j d _ (.inr (.inr (.inl ⟨h,g,k,rfl⟩)))
theorem Ku(a:Addr)(c:Nat)(b:bd)(key r:List UInt8)(s t q:Nat)(f:Nat->Bool)(w:ax)(hv:Rd w (.slice (de a) 32 c) key)(hr:Rd w b r)(hkl:key.length=32)(h:r.length=q+20)(hq:q<=2000)(hs:s<=1073741824)(i:t<=1073741824)(d:qj t f)(g:sN (r.take 4)<1073741824)(e:pw t (sN (r.take 4)) f=dT)(j:Sea.tag key (kr (r.take 4)) (r.take 4) ((r.drop 4).take q)=(r.drop 4).drop q):
  bl ed 69 #[.agg #[.slice (de a) 32 c,s,t,.bool (f 0),.bool (f 1),.bool (f 2),.bool (f 3),.bool (f 4),.bool (f 5),.bool (f 6),.bool (f 7)],b] w (vt w key s (max t (sN (r.take 4)+1)) (lz t (sN (r.take 4)) f) (Cha.KR key 1 (kr (r.take 4)) ((r.drop 4).take q))):=by
 exact vp a c b key r s t q f w hv hr hkl h hq hs i d _ (.inr (.inr (.inr ⟨g,e,j,rfl⟩)))
theorem vr(a C:Addr)(c m A s t:Nat)(ro:Option Addr)(f:Nat->Bool)(w:ax)(hm:m<20)(hs:s<=1073741824)(z:t<=1073741824)(i:qj t f):
  bl ed 69 #[.agg #[.slice (de a) 32 c,s,t,.bool (f 0),.bool (f 1),.bool (f 2),.bool (f 3),.bool (f 4),.bool (f 5),.bool (f 6),.bool (f 7)],.slice ro m A] w λe w'=>e= .returned (.tuple #[.agg #[.slice dl 0 0,(0:Int),(0:Int),.bool dT,.bool dT,.bool dT,.bool dT,.bool dT,.bool dT,.bool dT,.bool dT],.slice dl 0 0,(13:Int)])/\dd w.heap.size w w':=by
 have d20:decide ((m:Int)<20)=dE:=by rw[ap];omega
 have B:decide ((2020:Int)<(m:Int))=dT:=by rw[ah];omega
 have h:=λw=>qF (de a) c s t f w hs z i;have d:=ae h;obtain⟨f0,j⟩:=aK (f 0);obtain⟨f1,k⟩:=aK (f 1);obtain⟨f2,l⟩:=aK (f 2);obtain⟨f3,n⟩:=aK (f 3);obtain⟨f4,o⟩:=aK (f 4);obtain⟨f5,p⟩:=aK (f 5);obtain⟨f6,q⟩:=aK (f 6);obtain⟨f7,r⟩:=aK (f 7);rw[<-j,<-k,<-l,<-n,<-o,<-p,<-q,<-r]at d|-;clear h i j k l n o p q r;go_enter func69,ntmps69
 go_wp2_with fail
 refine(d.o _).m ?_;rintro e D ⟨rfl,b⟩;have u:=(b.block (w.heap.size+1) (by simp)).t (gl w _ (.cells #[.slice dl 0 0,(0:Int),(0:Int),.bool dT,.bool dT,.bool dT,.bool dT,.bool dT,.bool dT,.bool dT,.bool dT] 94));have b1:=(((aj w.heap.size w).alloc (ag _) _).alloc (by simp) _).t (b.m (by simp;omega));skip;have g:=ae u;have x:=ae b1;clear b u b1;go_wp2_with (refine bz rfl 94 (.tmp 4) (.tmp 28) rfl (w.heap.size+1) 0 #[.slice dl 0 0,(0:Int),(0:Int),.bool dT,.bool dT,.bool dT,.bool dT,.bool dT,.bool dT,.bool dT,.bool dT] rfl rfl (dr g.o rfl) gz (jU _ _ _ _ _ _ _ _ _ _ _ rfl) ?_)
 have y:=dI (vs:=[.slice dl 0 0,(0:Int),(0:Int),.bool dT,.bool dT,.bool dT,.bool dT,.bool dT,.bool dT,.bool dT,.bool dT]) g.o rfl;have hl:=aU (P:=ed) _ (w.heap.size+1) 0 94 _ _ (bu y) Tryz.underlying94 rfl gz;exact aH (v:= .tuple #[.agg #[.slice dl 0 0,(0:Int),(0:Int),.bool dT,.bool dT,.bool dT,.bool dT,.bool dT,.bool dT,.bool dT,.bool dT],.slice dl 0 0,(13:Int)]) (fW Tryz.results69 rfl hl) rfl ⟨rfl,bp (by omega) _ _ _ x.o⟩
set_option maxHeartbeats 400000
abbrev Cells(w:ax)(b:Nat)(a c e f g h i j k l d:bd):Prop:=
 w.cell? (b,0)=de a/\w.cell? (b,1)=de c/\w.cell? (b,2)=de e/\w.cell? (b,3)=de f/\w.cell? (b,4)=de g/\w.cell? (b,5)=de h/\w.cell? (b,6)=de i/\w.cell? (b,7)=de j/\w.cell? (b,8)=de k/\w.cell? (b,9)=de l/\w.cell? (b,10)=de d
theorem Cells.drew{w:ax}{b:Nat}{a c e f g i j k l m d:bd}(h:Cells w b a c e f g i j k l m d):Cells w.drew b a c e f g i j k l m d:=h
theorem Cells.alloc{w:ax}{b:Nat}{a c f g i j l m n q d:bd}(h:Cells w b a c f g i j l m n q d)(o:Obj):Cells (w.alloc o) b a c f g i j l m n q d:=by
 have hb:=aI w _ h.1;have e:∀k,(w.alloc o).cell? ⟨b,k,dl⟩=w.cell? ⟨b,k,dl⟩:=λk=>((aj w.heap.size w).alloc (ag _) o).cell (p:=⟨b,k,dl⟩) hb;unfold Cells;simp only[e];exact h
theorem Cells.set{w:ax}{b c:Nat}{a d f g i j k l m n e v0 v1 v2 v3 v4 p v6 q r s v10:bd}(o:c≠b)(h:Cells w b a d f g i j k l m n e):
  Cells (((((((((((w.setCell (c,0) v0).setCell (c,1) v1).setCell (c,2) v2).setCell (c,3) v3).setCell (c,4) v4).setCell (c,5) p).setCell (c,6) v6).setCell (c,7) q).setCell (c,8) r).setCell (c,9) s).setCell (c,10) v10) b a d f g i j k l m n e:=
 LR o h
theorem Rd.grownBy{w w':ax}{b off n c:Nat}{l:List UInt8}{row:Option Nat}(h:Rd w (.slice (b,off) n c) l)(hg:w.grownBy w' row)(k:row≠de b):Rd w' (.slice (b,off) n c) l:=by
 obtain⟨a',f,he,h1,h2,h0,h3⟩:=h;refine⟨a',f,he,h1,h2,h0,λhl=>?_⟩;obtain⟨d,m,a,hc⟩:=h3 hl;refine⟨d,m,a,λi hi=>?_⟩;injection he with e1 e2 e3;rw[a]at e1;injection e1 with g;injection g with j o;subst j;have h4:=hc i hi;rw[<-h4];have hlt:=aI w _ h4;exact aw (w:=w) (hg.block _ hlt (λe=>k e.symm))
end Go.Proofs.YtcdmenphjilnnaaGreatDoor
