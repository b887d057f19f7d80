/-
  Parts of the proofs of the laws of the whole (what the functions compute, and plain laws of it); no conditions.
-/
import Derived.Test.YtcdmenphjilnnaaGreatDoorM3
import Derived.Test.YtcdmenphjilnnaaGreatDoorM4
import Derived.Laws.OwnMore
import Derived.Deep.RegionWith
import Derived.Deep.DeepMust
set_option linter.unusedVariables false
set_option linter.unusedSimpArgs false
set_option maxRecDepth 100000
set_option maxHeartbeats 1000000
open Go.Proofs.Tryz
open Go renaming World->ax,Value->bd,Calls->bl
open Go.RowKit renaming Below->dd
open Option renaming some->de,none->dl
open Bool renaming true->dE,false->dT
open Go.Proofs.Tryz renaming prog->ed
namespace Go.Con
open Go.RowKit
theorem Bm(x y:Nat)(hx:x<18446744073709551616)(hy:y<18446744073709551616):bits .or .u64 (x:Int) (y:Int)=((x|||y:Nat):Int):=by
 show IntKind.u64.wrap ((BitVec.ofInt 64 (x:Int)|||BitVec.ofInt 64 (y:Int)).toNat:Int)=_;have a:(x|||y)<2^64:=Nat.or_lt_two_pow hx hy;rw[iy,iy,BitVec.toNat_or,jl,jl,ft (by omega),ft (by omega)];exact IntWalk.u64_in _ (by omega)
theorem Ko(x y:Nat)(hx:x<18446744073709551616)(hy:y<18446744073709551616):bits .and .u64 (x:Int) (y:Int)=((x&&&y:Nat):Int):=by
 show IntKind.u64.wrap ((BitVec.ofInt 64 (x:Int)&&&BitVec.ofInt 64 (y:Int)).toNat:Int)=_;have a:(x&&&y)<2^64:=jk Nat.and_le_left (by omega);rw[iy,iy,BitVec.toNat_and,jl,jl,ft (by omega),ft (by omega)];exact IntWalk.u64_in _ (by omega)
theorem sg(x:Nat)(h:x<18446744073709551616):bits .and .u64 (x:Int) 67108863=((x%67108864:Nat):Int):=by
 have h1:=Ko x 67108863 h (by decide);rw[show((67108863:Nat):Int)=67108863 from rfl]at h1;rw[h1,show(67108863:Nat)=2^26-1 from rfl,Nat.and_two_pow_sub_one_eq_mod]
theorem Bn(a b i:Nat)(h:b<2^i):(a*2^i|||b)=a*2^i+b:=by
 have:=Nat.shiftLeft_add_eq_or_of_lt h a;rw[nl]at this;exact this.symm
theorem KO(a b:Nat)(c:a<72057594037927936)(hb:b<256):bits .or .u64 ((a:Int)*256) (b:Int)=((b+256*a:Nat):Int):=by
 rw[show((a:Int)*256)=((a*256:Nat):Int) by omega,Bm _ _ (by omega) (by omega)];have:=Bn a b 8 hb;rw[show(2:Nat)^8=256 from rfl]at this;rw[this];omega
def kd(n:Nat):bd:= .int .u64 n
def ky(w:ax)(b:Nat)(t:TypeId)(s:List Nat):Prop:=w.heap[b]?=de (.cells (s.map kd).toArray t (0,0))
theorem ky.cell{w:ax}{b:Nat}{t:TypeId}{s:List Nat}(h:ky w b t s)(k:Nat)(hk:k<s.length):w.cell? (b,k)=de (.int .u64 (s.getD k 0)):=
 ej h k (by simp[hk,kd])
theorem ky.set{w:ax}{b:Nat}{t:TypeId}{s:List Nat}(h:ky w b t s)(k x:Nat):ky (w.setCell (b,k) (.int .u64 x)) b t (s.set k x):=by
 have h1:=aB (o:=k) h (.int .u64 x);rw[ky,h1];simp[kd,List.map_set]
theorem ky.drewN{w:ax}{b:Nat}{t:TypeId}{s:List Nat}(h:ky w b t s)(n:Nat):ky (w.drewN n) b t s:=h
theorem ky.kept{w w':ax}{b B:Nat}{t:TypeId}{s:List Nat}{S:Nat->Prop}(h:ky w b t s)(hk:Kept B S w w')(hb:b<B)(hs:¬S b):ky w' b t s:=(hk.block b hb hs).t h
theorem ky.stay{w w':ax}{b:Nat}{t:TypeId}{s:List Nat}(h:ky w b t s)(hk:dd w.heap.size w w'):ky w' b t s:=(hk.block b (hF h)).t h
theorem ky.other{w:ax}{b:Nat}{t:TypeId}{s:List Nat}(h:ky w b t s)(a k:Nat)(v:bd)(hb:b≠a):ky (w.setCell (a,k) v) b t s:=(aA k v hb).t h
def mT(f:Nat->UInt8):Nat->Nat
 |0=>0
 |k+1=>(f (7-k)).toNat+256*mT f k
theorem tj(f:Nat->UInt8):∀k,mT f k<256^k
 |0=>by simp[mT]
 |k+1=>by
  have h:=tj f k;have hb:=(f (7-k)).toNat_lt;rw[mT,mu];omega
theorem CM(f:Nat->UInt8)(k:Nat)(h:k<8):mT f k<72057594037927936:=
 ai (tj f k) (by
  have:(256:Nat)^k<=256^7:=nM (by decide) (by omega);simpa using this)
def cT(x:Pol.L5):List Nat:=[x.a0,x.a1,x.a2,x.a3,x.a4]
theorem Ly(l:List UInt8)(h:16<=l.length)(top:Nat):mT (λi=>l.getD i 0) 8+mT (λi=>l.getD (8+i) 0) 8*18446744073709551616+top*340282366920938463463374607431768211456=Pol.pA (l.take 16)+top*340282366920938463463374607431768211456:=by
 match l,h with
 |a::b1::b2::b::c::d::e::f::c0::c1::g::j::k::c5::m::c7::r,_=>
  show(a.toNat+256*(b1.toNat+256*(b2.toNat+256*(b.toNat+256*(c.toNat+256*(d.toNat+256*(e.toNat+256*(f.toNat+256*0))))))))+(c0.toNat+256*(c1.toNat+256*(g.toNat+256*(j.toNat+256*(k.toNat+256*(c5.toNat+256*(m.toNat+256*(c7.toNat+256*0))))))))*18446744073709551616+_=(a.toNat+256*(b1.toNat+256*(b2.toNat+256*(b.toNat+256*(c.toNat+256*(d.toNat+256*(e.toNat+256*(f.toNat+256*(c0.toNat+256*(c1.toNat+256*(g.toNat+256*(j.toNat+256*(k.toNat+256*(c5.toNat+256*(m.toNat+256*(c7.toNat+256*0))))))))))))))))+_;omega
theorem Eu(p q top:Nat)(hp:p<18446744073709551616)(hq:q<18446744073709551616)(a:top<=1):
  bits .and .u64 (p:Int) 67108863=((Pol.wJ (p+q*18446744073709551616+top*340282366920938463463374607431768211456)).a0:Int)/\
  bits .and .u64 ((p:Int)/67108864) 67108863=((Pol.wJ (p+q*18446744073709551616+top*340282366920938463463374607431768211456)).a1:Int)/\
  bits .and .u64 (bits .or .u64 ((p:Int)/4503599627370496) (IntKind.u64.wrap ((q:Int)*4096))) 67108863=((Pol.wJ (p+q*18446744073709551616+top*340282366920938463463374607431768211456)).a2:Int)/\
  bits .and .u64 ((q:Int)/16384) 67108863=((Pol.wJ (p+q*18446744073709551616+top*340282366920938463463374607431768211456)).a3:Int)/\
  bits .or .u64 ((q:Int)/1099511627776) ((top:Int)*16777216)=((Pol.wJ (p+q*18446744073709551616+top*340282366920938463463374607431768211456)).a4:Int):=by
 simp only[Pol.wJ];refine⟨?_,?_,?_,?_,?_⟩
 ·rw[sg p hp];congr 1;omega
 ·rw[show(p:Int)/67108864=((p/67108864:Nat):Int) by omega,sg _ (by omega)];congr 1;omega
 ·have hw:IntKind.u64.wrap ((q:Int)*4096)=((q%4503599627370496*4096:Nat):Int):=by
   simp only[IntKind.wrap,IntKind.bits,IntKind.signed];simp;omega
  rw[hw,show(p:Int)/4503599627370496=((p/4503599627370496:Nat):Int) by omega,Bm _ _ (by omega) (by omega),Nat.or_comm];have:=Bn (q%4503599627370496) (p/4503599627370496) 12 (by omega);rw[show(2:Nat)^12=4096 from rfl]at this;rw[this,sg _ (by omega)];congr 1;omega
 ·rw[show(q:Int)/16384=((q/16384:Nat):Int) by omega,sg _ (by omega)];congr 1;omega
 ·rw[show(q:Int)/1099511627776=((q/1099511627776:Nat):Int) by omega,show(top:Int)*16777216=((top*16777216:Nat):Int) by omega,Bm _ _ (by omega) (by omega),Nat.or_comm];have:=Bn top (q/1099511627776) 24 (by omega);rw[show(2:Nat)^24=16777216 from rfl]at this;rw[this];congr 1;omega
end Go.Con
namespace Go.Proofs.YtcdmenphjilnnaaGreatDoor
open Go.RowKit Go.Con
theorem Bs(d f n c:Nat)(l:List UInt8)(top:Nat)(w:ax)(H:top<=1)(hl:16<=l.length)(t:l.length=n)(r:Rd w (.slice (d,f) n c) l):
  bl ed 138 #[.slice (d,f) n c,.int .u64 top] w λe w'=>e= .returned (.agg ((cT (Pol.wJ (Pol.pA (l.take 16)+top*340282366920938463463374607431768211456))).map kd).toArray)/\dd w.heap.size w w':=by
 have u:=Ly l hl top;have s:∀W,dd w.heap.size w W->∀i,i<n->W.cell? (d,f+i)=de (.int .u8 (l.getD i 0).toNat):=by
  intro W F i hi;obtain⟨a',R,e,_,_,_,h⟩:=r.stay F;obtain⟨Q,off,g,h2⟩:=h (by intro h;rw[h]at hl;exact absurd hl (by decide));injection e with e1 e2 e3;subst e1;injection g with g;injection g with D E;subst D E;exact h2 i (by rw[t];exact hi)
 have S:16<=n:=by omega
 have o:=ae s;have b:=ae u;clear s u hl t r;go_enter func138,ntmps138
 go_wp2_with fail
 go_loopw [5,6,7] (λP hi i wr=>∃k:Nat,k<=8/\i= .int .i64 (7-(k:Int))/\P= .int .u64 (mT (λi=>l.getD i 0) k)/\hi= .int .u64 (mT (λi=>l.getD (8+i) 0) k)/\wr=w.alloc (.cells #[.int .u64 0,.int .u64 0,.int .u64 0,.int .u64 0,.int .u64 0] 232))
  (λ_ _ i _=>(intOf i+1).toNat)
 case atStart=>exact⟨0,by omega,rfl,rfl,rfl,rfl⟩
 case round=>
  obtain⟨k,hk,rfl,rfl,rfl,rfl⟩:=hrel;have a:dd w.heap.size w (w.alloc (.cells #[.int .u64 0,.int .u64 0,.int .u64 0,.int .u64 0,.int .u64 0] 232)):=(aj _ _).alloc (ag _) _;by_cases hlt:k<8
  ·obtain⟨j,hj⟩:∃j:Nat,(7:Int)-k=j:=⟨7-k,by omega⟩
   have m:j=7-k:=by omega
   have T:j<=7:=by omega
   obtain⟨x,hx⟩:=aK (l.getD j 0);obtain⟨y,hy⟩:=aK (l.getD (8+j) 0);have c1:=o.o _ a j (by omega);have C:=o.o _ a (8+j) (by omega);rw[<-hx]at c1;rw[<-hy]at C;have b1:=CM (λi=>l.getD i 0) k hlt;have b2:=CM (λi=>l.getD (8+i) 0) k hlt;have e1:mT (λi=>l.getD i 0) (k+1)=x.toNat+256*mT (λi=>l.getD i 0) k:=by rw[mT,<-m,hx]
   have e2:mT (λi=>l.getD (8+i) 0) (k+1)=y.toNat+256*mT (λi=>l.getD (8+i) 0) k:=by rw[mT,<-m,hy]
   obtain⟨p,hp⟩:=aK (mT (λi=>l.getD i 0) k);obtain⟨q,hq⟩:=aK (mT (λi=>l.getD (8+i) 0) k);rw[<-hp]at b1 e1|-;rw[<-hq]at b2 e2|-;rw[hj];have z:=ae e1;have A:=ae e2;have B:=ae hj;have I:=x.toNat_lt;have J:=y.toNat_lt;clear hp hq e1 e2 hj m hx hy a;go_wp2
   go_roundw
   case rel=>exact⟨k+1,by omega,by have:=B.o;rw[show(7:Int)-((k+1:Nat):Int)=(j:Int)-1 by omega],by rw[z.o,KO p x.toNat b1 I],by rw[A.o,KO q y.toNat b2 J],by first|rfl|trivial⟩
   case measure=>simp[intOf]<;>omega
  ·have G:k=8:=by omega
   subst G;have b1:mT (λi=>l.getD i 0) 8<18446744073709551616:=tj _ 8;have b2:mT (λi=>l.getD (8+i) 0) 8<18446744073709551616:=tj _ 8;obtain⟨p,hp⟩:=aK (mT (λi=>l.getD i 0) 8);obtain⟨q,hq⟩:=aK (mT (λi=>l.getD (8+i) 0) 8);rw[<-hp]at b1 b|-;rw[<-hq]at b2 b|-;clear hp hq a;go_wp2
   have hv:=Eu p q top b1 b2 H;rw[b.o]at hv;obtain⟨K,L,M,N,O⟩:=hv;rw[K,L,M,N,O];exact aH (v:= .agg ((cT (Pol.wJ (Pol.pA (l.take 16)+top*340282366920938463463374607431768211456))).map kd).toArray) (by simp[results,Tryz.results138,go_sem,cT,kd]) rfl ⟨rfl,(aj _ _).alloc (ag _) _⟩
end Go.Proofs.YtcdmenphjilnnaaGreatDoor
namespace Go.Con.Pol
set_option maxHeartbeats 2000000
def eQ(s:List Nat)(i:Nat):Nat:=s.getD i 0
def sw(s:List Nat)(k:Nat):List Nat:=
 let c:=eQ s k/67108864;let s1:=s.set k (eQ s k%67108864)
 if k<4 then s1.set (k+1) (eQ s1 (k+1)+c)else s1.set 0 (eQ s1 0+5*c)
def ck(s:List Nat):Nat->List Nat
 |0=>s
 |k+1=>sw (ck s k) k
def fin(s:List Nat):List Nat:=
 let s1:=s.set 1 (eQ s 1+eQ s 0/67108864)
 s1.set 0 (eQ s1 0%67108864)
theorem uU(x:L5):fin (ck (cT x) 5)=cT (carry x):=by
 obtain⟨a,b,c,d,e⟩:=x;rfl
theorem yg(s:List Nat)(k:Nat):(sw s k).length=s.length:=by
 unfold sw;dsimp only;split<;>simp
theorem xh(s:List Nat)(k:Nat):(ck s k).length=s.length:=by
 induction k with
 |zero=>rfl
 |succ k a=>rw[ck,yg,a]
theorem iQ(s:List Nat)(i j x:Nat)(hi:i<s.length):eQ (s.set i x) j=if i=j then x else eQ s j:=by
 unfold eQ;by_cases h:i=j
 ·subst h;simp[hi]
 ·simp[h,gB]
theorem Af(s:List Nat)(k B:Nat)(hs:s.length=5)(hk:k<5)(b:1152921504606846976<=B)(c:B<=1729382256910270464)(h:∀j,eQ s j<=B):∀j,eQ (sw s k) j<=B+137438953472:=by
 intro j;have h1:=h k;have h2:=h (k+1);have h3:=h 0;have h4:=h j;unfold sw;dsimp only;by_cases a:k<4
 ·rw[ar a,iQ _ _ _ _ (by rw[cD];omega),iQ s k (k+1) _ (by omega),iQ s k j _ (by omega)];have e:¬(k=k+1):=by omega
  simp only[e,if_false];split
  ·omega
  ·split<;>omega
 ·rw[ak a,iQ _ _ _ _ (by rw[cD];omega),iQ s k 0 _ (by omega),iQ s k j _ (by omega)];have e:¬(k=0):=by omega
  simp only[e,if_false];split
  ·omega
  ·split<;>omega
theorem Al(s:List Nat)(hs:s.length=5)(h:∀j,eQ s j<=1152921504606846976):∀k,k<=5->∀j,eQ (ck s k) j<=1152921504606846976+k*137438953472
 |0,_=>by simpa[ck]using h
 |k+1,hk=>by
  have a:=Al s hs h k (by omega);intro j;have:=Af (ck s k) k (1152921504606846976+k*137438953472) (by rw[xh];exact hs) (by omega) (by omega) (by omega) a j;rw[ck];omega
end Go.Con.Pol
namespace Go.Proofs.YtcdmenphjilnnaaGreatDoor
open Go.RowKit Go.Con
set_option maxHeartbeats 2000000
theorem xo(b:Nat)(t:TypeId)(s:List Nat)(w:ax)(hs:s.length=5)(I:∀j,Pol.eQ s j<=1152921504606846976)(H:ky w b t s):
  bl ed 142 #[(b,0)] w
   λe w'=>e= .returned (.tuple #[])/\ky w' b t (Pol.fin (Pol.ck s 5))/\Kept w.heap.size (λk=>k=b) w w':=by
 have S:=ae H;have R:=ae hs;have O:=ae (Pol.Al s hs I);clear H hs I;go_enter func142,ntmps142
 go_wp2_with fail
 go_loopw [4] (λi wr=>∃k:Nat,k<=5/\i= .int .i64 k/\ky wr b t (Pol.ck s k)/\Kept w.heap.size (λk=>k=b) w wr) (λi _=>5-(intOf i).toNat)
 case atStart=>exact⟨0,by omega,rfl,S.o,Kept.refl _ _ _⟩
 case round=>
  obtain⟨k,hk,rfl,hw,hK⟩:=hrel;have g:=ae hw;have C:=ae hK;clear hw hK;obtain⟨q,hq⟩:=aK (Pol.ck s k);have D:q.length=5:=by rw[hq,Pol.xh];exact R.o
  have r:∀j,Pol.eQ q j<=1152922191801614336:=λj=>by
   have:=O.o k hk j;rw[hq];omega
  have E:Pol.ck s (k+1)=Pol.sw q k:=by rw[hq];rfl
  rw[<-hq]at g;have l:=ae D;have F:=ae r;have G:=ae E;by_cases hlt:k<5
  ·obtain⟨x,hx⟩:=aK (Pol.eQ q k);have c1:=g.o.cell k (by omega);have f1:=aO g.o k;rw[show q.getD k 0=x from hx.symm]at c1;have U:x<=1152922191801614336:=by rw[hx];exact r k
   have n:=ae hx;clear r E D hq hx;have tail:∀(nq:Nat),ky ((wr.drewN nq).setCell (b,k) (.int .u64 (bits .and .u64 (x:Int) 67108863))) b t (q.set k (x%67108864)):=λnq=>by
    rw[sg x (by omega)];exact ky.set (w:=wr.drewN nq) g.o k (x%67108864)
   have o:=ae tail;clear tail;by_cases h4:k<4
   ·obtain⟨y,hy⟩:=aK (Pol.eQ q (k+1));have M:y<=1152922191801614336:=by rw[hy];exact F.o (k+1)
    have h:∀nq,((wr.drewN nq).setCell (b,k) (.int .u64 (bits .and .u64 (x:Int) 67108863))).cell? (b,k+1)=de (.int .u64 y):=λnq=>by
     rw[(o.o nq).cell (k+1) (by rw[cD];have:=l.o;omega)];rw[hy];simp[Pol.eQ,gB]
    have f2:∀nq,((wr.drewN nq).setCell (b,k) (.int .u64 (bits .and .u64 (x:Int) 67108863))).frozen? (b,k+1)=dT:=λnq=>aO (o.o nq) (k+1);have z:=ae hy;clear hy;go_wp2
    refine bQ 8 (by kernel_rfl) (by kernel_rfl) ?_;simp only[bH,cQ,bT,cC];repeat (go_big_quiet_step (fail))
    refine bt ?_;intro B d;obtain⟨nq,rfl⟩:=d;go_wp2_with fail
    have c:=o.o nq;have a:Kept w.heap.size (λk=>k=b) w ((wr.drewN nq).setCell (b,k) (.int .u64 (bits .and .u64 (x:Int) 67108863))):=(C.o.drewN nq).setCell (.inr rfl) _;have p:=h nq;have f3:=f2 nq;generalize A:(wr.drewN nq).setCell (b,k) (.int .u64 (bits .and .u64 (x:Int) 67108863))=u at c a p f3|-;have m:=ae c;have v:=ae a;clear A c a h f2 c1 f1;refine bQ 10 (by kernel_rfl) (by kernel_rfl) ?_;simp only[bH,cQ,bT,cC];repeat (go_big_quiet_step (fail))
    refine bt ?_;intro B d;obtain⟨f,rfl⟩:=d;go_wp2
    go_roundw
    case rel=>
     refine⟨k+1,by omega,by go_num,?_,(v.o.drewN f).setCell (.inr rfl) _⟩;rw[G.o];unfold Pol.sw;dsimp only;rw[ar h4,<-n.o,Pol.iQ q k (k+1) _ (by have:=l.o;omega),ak (by omega),<-z.o];have e:((y:Int)+(x:Int)/67108864)=((y+x/67108864:Nat):Int):=by omega
     first
      |(rw[e];exact ky.set (w:=u.drewN f) m.o (k+1) _)
      |(rw[show IntKind.u64.wrap ((y:Int)+(x:Int)/67108864)=((y+x/67108864:Nat):Int) by rw[e];exact IntWalk.u64_in _ (by omega)];exact ky.set (w:=u.drewN f) m.o (k+1) _)
    case measure=>simp[intOf];omega
   ·have J:k=4:=by omega
    obtain⟨y,hy⟩:=aK (Pol.eQ q 0);have M:y<=1152922191801614336:=by rw[hy];exact F.o 0
    have h:∀nq,((wr.drewN nq).setCell (b,k) (.int .u64 (bits .and .u64 (x:Int) 67108863))).cell? (b,0)=de (.int .u64 y):=λnq=>by
     rw[(o.o nq).cell 0 (by rw[cD];have:=l.o;omega)];rw[hy];simp[Pol.eQ,gB,show¬(k=0) by omega]
    have f2:∀nq,((wr.drewN nq).setCell (b,k) (.int .u64 (bits .and .u64 (x:Int) 67108863))).frozen? (b,0)=dT:=λnq=>aO (o.o nq) 0;have z:=ae hy;have P:=ae J;clear hy J;go_wp2
    refine bQ 8 (by kernel_rfl) (by kernel_rfl) ?_;simp only[bH,cQ,bT,cC];repeat (go_big_quiet_step (fail))
    refine bt ?_;intro B d;obtain⟨nq,rfl⟩:=d;go_wp2_with fail
    have c:=o.o nq;have a:Kept w.heap.size (λk=>k=b) w ((wr.drewN nq).setCell (b,k) (.int .u64 (bits .and .u64 (x:Int) 67108863))):=(C.o.drewN nq).setCell (.inr rfl) _;have p:=h nq;have f3:=f2 nq;generalize A:(wr.drewN nq).setCell (b,k) (.int .u64 (bits .and .u64 (x:Int) 67108863))=u at c a p f3|-;have m:=ae c;have v:=ae a;clear A c a h f2 c1 f1;refine bQ 9 (by kernel_rfl) (by kernel_rfl) ?_;simp only[bH,cQ,bT,cC];repeat (go_big_quiet_step (fail))
    refine bt ?_;intro B d;obtain⟨f,rfl⟩:=d;go_wp2
    go_roundw
    case rel=>
     refine⟨k+1,by omega,by go_num,?_,(v.o.drewN f).setCell (.inr rfl) _⟩;rw[G.o];unfold Pol.sw;dsimp only;rw[ak h4,<-n.o,Pol.iQ q k 0 _ (by have:=l.o;omega),ak (by have:=P.o;omega),<-z.o];have e:((y:Int)+5*((x:Int)/67108864))=((y+5*(x/67108864):Nat):Int):=by omega
     first
      |(rw[e];exact ky.set (w:=u.drewN f) m.o 0 _)
      |(trace_state;fail)
    case measure=>simp[intOf];omega
  ·have K:k=5:=by omega
   have L:q=Pol.ck s 5:=by rw[hq,K]
   obtain⟨x,hx⟩:=aK (Pol.eQ q 0);obtain⟨y,hy⟩:=aK (Pol.eQ q 1);have U:x<=1152922191801614336:=by rw[hx];exact r 0
   have M:y<=1152922191801614336:=by rw[hy];exact r 1
   have c1:=g.o.cell 0 (by omega);have h:=g.o.cell 1 (by omega);have f2:=aO g.o 1;rw[show q.getD 0 0=x from hx.symm]at c1;rw[show q.getD 1 0=y from hy.symm]at h;have n:=ae hx;have z:=ae hy;have Q:=ae L;clear r E D hq hx hy L K;have h2:∀nq,ky ((wr.drewN nq).setCell (b,1) (.int .u64 ((y:Int)+(x:Int)/67108864))) b t (q.set 1 (y+x/67108864)):=λnq=>by
    rw[show((y:Int)+(x:Int)/67108864)=((y+x/67108864:Nat):Int) by omega];exact ky.set (w:=wr.drewN nq) g.o 1 _
   have N:=ae h2;have p:∀nq,((wr.drewN nq).setCell (b,1) (.int .u64 ((y:Int)+(x:Int)/67108864))).cell? (b,0)=de (.int .u64 x):=λnq=>by
    rw[(h2 nq).cell 0 (by rw[cD];have:=l.o;omega)];rw[n.o];simp[Pol.eQ,gB]
   have f3:∀nq,((wr.drewN nq).setCell (b,1) (.int .u64 ((y:Int)+(x:Int)/67108864))).frozen? (b,0)=dT:=λnq=>aO (h2 nq) 0;clear h2;go_wp2
   refine bQ 12 (by kernel_rfl) (by kernel_rfl) ?_;simp only[bH,cQ,bT,cC];repeat (go_big_quiet_step (fail))
   refine bt ?_;intro B d;obtain⟨nq,rfl⟩:=d;go_wp2_with fail
   have c:=N.o nq;have a:Kept w.heap.size (λk=>k=b) w ((wr.drewN nq).setCell (b,1) (.int .u64 ((y:Int)+(x:Int)/67108864))):=(C.o.drewN nq).setCell (.inr rfl) _;have T:=p nq;have f4:=f3 nq;generalize A:(wr.drewN nq).setCell (b,1) (.int .u64 ((y:Int)+(x:Int)/67108864))=u at c a T f4|-;have m:=ae c;have v:=ae a;clear A c a p f3 c1 h f2;refine bQ 7 (by kernel_rfl) (by kernel_rfl) ?_;simp only[bH,cQ,bT,cC];repeat (go_big_quiet_step (fail))
   refine bt ?_;intro B d;obtain⟨f,rfl⟩:=d;go_wp2
   go_end0
   refine⟨rfl,?_,(v.o.drewN f).setCell (.inr rfl) _⟩;rw[sg x (by omega),<-Q.o];unfold Pol.fin;dsimp only;rw[<-n.o,<-z.o,Pol.iQ q 1 0 _ (by have:=l.o;omega),ak (by omega),<-n.o];exact ky.set (w:=u.drewN f) m.o 0 _
end Go.Proofs.YtcdmenphjilnnaaGreatDoor
namespace Go.Con.Pol
set_option maxHeartbeats 2000000
def qD(x y s:List Nat)(i k:Nat):List Nat:=if i+k<5 then s.set (i+k) (eQ s (i+k)+eQ x i*eQ y k)else s.set (i+k-5) (eQ s (i+k-5)+5*eQ x i*eQ y k)
def mk(x y s:List Nat)(i:Nat):Nat->List Nat
 |0=>s
 |k+1=>qD x y (mk x y s i k) i k
def mi(x y s:List Nat):Nat->List Nat
 |0=>s
 |i+1=>mk x y (mi x y s i) i 5
theorem xP(x y s:List Nat)(i k:Nat):(qD x y s i k).length=s.length:=by unfold qD;split<;>simp
theorem rn(x y s:List Nat)(i k:Nat):(mk x y s i k).length=s.length:=by
 induction k with
 |zero=>rfl
 |succ k a=>rw[mk,xP,a]
theorem rp(x y s:List Nat)(i:Nat):(mi x y s i).length=s.length:=by
 induction i with
 |zero=>rfl
 |succ i a=>rw[mi,rn,a]
theorem zG(x y:L5):mi (cT x) (cT y) [0,0,0,0,0] 5=cT (mul x y):=by
 obtain⟨a,b,c,d,e⟩:=x;obtain⟨p,q,r,s,t⟩:=y;simp[mi,mk,qD,eQ,cT,mul]
theorem prod_bound(a b:Nat)(c:a<=134221824)(hb:b<=67108864):a*b<=9007474132647936/\5*a*b<=45037370663239680:=by
 have h:=Nat.mul_le_mul c hb;rw[Nat.mul_assoc];omega
theorem zH(x y s:List Nat)(i k B:Nat)(hs:s.length=5)(hi:i<5)(hk:k<5)(hx:eQ x i<=134221824)(hy:eQ y k<=67108864)(h:∀j,eQ s j<=B):∀j,eQ (qD x y s i k) j<=B+45037370663239680:=by
 intro j;have hp:=prod_bound _ _ hx hy;have h1:=h j;have h2:=h (i+k);have h3:=h (i+k-5);unfold qD;split
 ·rw[iQ _ _ _ _ (by omega)];split<;>omega
 ·rw[iQ _ _ _ _ (by omega)];split<;>omega
theorem uq(x y s:List Nat)(i B:Nat)(hs:s.length=5)(hi:i<5)(hx:∀j,eQ x j<=134221824)(hy:∀j,eQ y j<=67108864)(h:∀j,eQ s j<=B):∀k,k<=5->∀j,eQ (mk x y s i k) j<=B+k*45037370663239680
 |0,_=>by simpa[mk]using h
 |k+1,hk=>by
  have a:=uq x y s i B hs hi hx hy h k (by omega);intro j;have:=zH x y (mk x y s i k) i k (B+k*45037370663239680) (by rw[rn];exact hs) hi (by omega) (hx i) (hy k) a j;rw[mk];omega
theorem ur(x y s:List Nat)(hs:s.length=5)(hx:∀j,eQ x j<=134221824)(hy:∀j,eQ y j<=67108864)(h:∀j,eQ s j<=0):∀i,i<=5->∀j,eQ (mi x y s i) j<=i*225186853316198400
 |0,_=>by simpa[mi]using h
 |i+1,hi=>by
  have a:=ur x y s hs hx hy h i (by omega);intro j;have:=uq x y (mi x y s i) i (i*225186853316198400) (by rw[rp];exact hs) (by omega) hx hy a 5 (by omega) j;rw[mi];omega
end Go.Con.Pol
namespace Go.Proofs.YtcdmenphjilnnaaGreatDoor
open Go.RowKit Go.Con
set_option maxHeartbeats 2000000
theorem GZ(w:ax)(A B C:Obj):(((w.alloc A).alloc B).alloc C).heap[w.heap.size+2]?=de C:=by
 have e:((w.alloc A).alloc B).heap.size=w.heap.size+2:=by simp
 rw[<-e];exact aL _ _
theorem GY(w:ax)(A B C D:Obj):((((w.alloc A).alloc B).alloc C).alloc D).heap[w.heap.size+3]?=de D:=by
 have e:(((w.alloc A).alloc B).alloc C).heap.size=w.heap.size+3:=by simp
 rw[<-e];exact aL _ _
theorem BK(x:Pol.L5)(k:Nat)(hk:k<5)(W:ax):(Instr.index 232 (.agg #[.int .u64 x.a0,.int .u64 x.a1,.int .u64 x.a2,.int .u64 x.a3,.int .u64 x.a4]) k).run ed W= .ok (.int .u64 (Pol.eQ (cT x) k)) W:=by
 have h5:k=0\/k=1\/k=2\/k=3\/k=4:=by omega
 rcases h5 with rfl|rfl|rfl|rfl|rfl<;>(show _=_;kernel_rfl)
theorem qu{w:ax}{b:Nat}{t:TypeId}{s:List Nat}{a:Array bd}(h:w.heap[b]?=de (.cells a t (0,0)))(c:a.size=s.length):ky (w.setCells b 0 (s.map kd)) b t s:=dI h (by simpa using c)
theorem DG(x y:Pol.L5)(w:ax)(hx:∀j,Pol.eQ (cT x) j<=134221824)(hy:∀j,Pol.eQ (cT y) j<=67108864):
  bl ed 139 #[.agg #[.int .u64 x.a0,.int .u64 x.a1,.int .u64 x.a2,.int .u64 x.a3,.int .u64 x.a4],.agg #[.int .u64 y.a0,.int .u64 y.a1,.int .u64 y.a2,.int .u64 y.a3,.int .u64 y.a4]] w
   λe w'=>e= .returned (.agg ((cT (Pol.carry (Pol.mul x y))).map kd).toArray)/\dd w.heap.size w w':=by
 have b1:=λk hk W=>BK x k hk W;have b2:=λk hk W=>BK y k hk W;have a8:=Pol.ur (cT x) (cT y) [0,0,0,0,0] rfl hx hy (by intro j;match j with|0|1|2|3|4=>decide|j+5=>simp[Pol.eQ]);have M:=ae b1;have N:=ae b2;have F:=ae a8;have S:=ae hx;have T:=ae hy;have b3:Pol.fin (Pol.ck (Pol.mi (cT x) (cT y) [0,0,0,0,0] 5) 5)=cT (Pol.carry (Pol.mul x y)):=by rw[Pol.zG,Pol.uU]
 have G:=ae b3;obtain⟨xs,a1⟩:=aK (cT x);obtain⟨b,a2⟩:=aK (cT y);rw[<-a1]at M F S G;rw[<-a2]at N F T G;have f2:=ae a1;have f3:=ae a2;clear b1 b2 a8 hx hy b3 a1 a2;obtain⟨x0,x1,x2,x3,x4⟩:=x;obtain⟨A,B,C,D,E⟩:=y;dsimp only at M N|-;go_enter func139,ntmps139
 go_wp2_with fail
 obtain⟨L,s⟩:=aK ((((w.alloc (.cells #[.int .u64 x0,.int .u64 x1,.int .u64 x2,.int .u64 x3,.int .u64 x4] 232)).alloc (.cells #[.int .u64 A,.int .u64 B,.int .u64 C,.int .u64 D,.int .u64 E] 232)).alloc (.cells #[.int .u64 0,.int .u64 0,.int .u64 0,.int .u64 0,.int .u64 0] 232)).alloc (.cells #[.int .u64 0,.int .u64 0,.int .u64 0,.int .u64 0,.int .u64 0] 232));rw[<-s];have c2:L.heap[w.heap.size+1]?=de (.cells #[.int .u64 A,.int .u64 B,.int .u64 C,.int .u64 D,.int .u64 E] 232):=by rw[s];exact(bC _ _ _ (by simp)).t ((bC _ _ _ (by simp)).t (gl w _ _))
 have b8:Room L (w.heap.size+1+1) 5 232:=⟨_,by rw[s];exact(bC _ _ _ (by simp)).t (GZ w _ _ _),rfl⟩
 have b6:ky L (w.heap.size+1+1+1) 232 [0,0,0,0,0]:=by rw[s];exact GY w _ _ _ _
 have a7:dd w.heap.size w L:=by rw[s];exact((((aj _ _).alloc (ag _) _).alloc (by simp) _).alloc (by simp;omega) _).alloc (by simp;omega) _
 have d3:=ae c2;have d0:=ae b8;have c8:=ae b6;have c3:=ae a7;clear s c2 b8 b6 a7;go_loopw [11] (λi wr=>∃i':Nat,i'<=5/\i= .int .i64 i'/\ky wr (w.heap.size+1+1+1) 232 (Pol.mi xs b [0,0,0,0,0] i')/\wr.heap[w.heap.size+1]?=de (.cells #[.int .u64 A,.int .u64 B,.int .u64 C,.int .u64 D,.int .u64 E] 232)/\Room wr (w.heap.size+1+1) 5 232/\dd w.heap.size w wr) (λi _=>5-(intOf i).toNat)
 case atStart=>exact⟨0,by omega,rfl,c8.o,d3.o,d0.o,c3.o⟩
 case round=>
  obtain⟨i,hi,rfl,ho,hy,hr,hb⟩:=hrel;have d:=ae ho;have t:=ae hy;have n:=ae hr;have l:=ae hb;by_cases hlt:i<5
  ·have f4:decide ((i:Int)<5)=dE:=by rw[ap];omega
   obtain⟨o,f⟩:=aK (Pol.mi xs b [0,0,0,0,0] i);have r:o.length=5:=by rw[f,Pol.rp];rfl
   have b4:=Pol.uq xs b o i (i*225186853316198400) r hlt S.o T.o (by rw[f];exact F.o i hi);have b5:Pol.mi xs b [0,0,0,0,0] (i+1)=Pol.mk xs b o i 5:=by rw[f];rfl
   rw[<-f]at d;have b0:=M.o i hlt;obtain⟨a,J⟩:=aK (Pol.eQ xs i);rw[<-J]at b0;have d5:a<=134221824:=by rw[J];exact S.o i
   have e0:=ej hy 0 rfl;have e1:=ej hy 1 rfl;have e2:=ej hy 2 rfl;have e3:=ej hy 3 rfl;have e4:=ej hy 4 rfl;have O:=ae r;have c6:=ae b4;have c7:=ae b5;have HA:=ae J;clear ho hy hr hb r b4 b5 J f;go_wp2_with fail
   clear e0 e1 e2 e3 e4 b0;go_loopw [16] (λk wr=>∃k':Nat,k'<=5/\k= .int .i64 k'/\ky wr (w.heap.size+1+1+1) 232 (Pol.mk xs b o i k')/\wr.heap[w.heap.size+1]?=de (.cells #[.int .u64 A,.int .u64 B,.int .u64 C,.int .u64 D,.int .u64 E] 232)/\Room wr (w.heap.size+1+1) 5 232/\dd w.heap.size w wr) (λk _=>5-(intOf k).toNat)
   case atStart=>exact⟨0,by omega,rfl,d.o,t.o,n.o,l.o⟩
   case round=>
    obtain⟨k,hk,rfl,ho,hy,hr,hb⟩:=hrel;have d:=ae ho;have t:=ae hy;have n:=ae hr;have l:=ae hb;by_cases e8:k<5
    ·have d9:decide ((k:Int)<5)=dE:=by rw[ap];omega
     obtain⟨q,hq⟩:=aK (Pol.mk xs b o i k);have Y:q.length=5:=by rw[hq,Pol.rn];exact O.o
     have K:∀j,Pol.eQ q j<=1125934266580992000:=λj=>by
      have:=c6.o k hk j;rw[hq];omega
     have Z:Pol.mk xs b o i (k+1)=Pol.qD xs b q i k:=by rw[hq];rfl
     rw[<-hq]at d;obtain⟨c,hc⟩:=aK (Pol.eQ b k);have d7:c<=67108864:=by rw[hc];exact T.o k
     have e6:=N.o k e8;rw[<-hc]at e6;have hp:=Pol.prod_bound a c d5 d7;obtain⟨m,hm⟩:=aK (a*c);obtain⟨m5,u⟩:=aK (5*a*c);have p1:(a:Int)*(c:Int)=(m:Int):=by rw[hm,Int.natCast_mul]
     have p5:(5:Int)*(a:Int)*(c:Int)=(m5:Int):=by rw[u,Int.natCast_mul,Int.natCast_mul];rfl
     have p2:m<=9007474132647936:=by rw[hm];exact hp.1
     have p4:m5<=45037370663239680:=by rw[u];exact hp.2
     have HM:=ae hm;have c5:=ae u;have f0:=ae Y;have a3:=ae Z;have HC:=ae hc;by_cases h5:i+k<5
     ·have d8:decide ((i:Int)+(k:Int)<5)=dE:=by rw[ap];omega
      obtain⟨z,g⟩:=aK (Pol.eQ q (i+k));have e9:z<=1125934266580992000:=by rw[g];exact K _
      have c1:=d.o.cell (i+k) (by omega);have f1:=aO d.o (i+k);rw[show q.getD (i+k) 0=z from g.symm]at c1;have U:=ae g;clear ho hy hr hb hq Y K Z hc hp p5 p4 g hm u;go_wp2
      go_roundw
      case rel=>
       refine⟨k+1,by omega,by go_num,?_,?_,n.o.set,l.o.setCell (by show w.heap.size<=w.heap.size+1+1+1;omega) _⟩
       ·rw[a3.o,Pol.qD,ar h5,<-U.o,<-HA.o,<-HC.o,<-HM.o,<-Int.natCast_add];exact d.o.set _ _
       ·rw[aA _ _ (by omega)];exact t.o
      case measure=>simp[intOf];omega
     ·have d8:decide ((i:Int)+(k:Int)<5)=dT:=by rw[ah];omega
      obtain⟨z,g⟩:=aK (Pol.eQ q (i+k-5));have e9:z<=1125934266580992000:=by rw[g];exact K _
      have c1:=d.o.cell (i+k-5) (by omega);have f1:=aO d.o (i+k-5);rw[show q.getD (i+k-5) 0=z from g.symm]at c1;have U:=ae g;clear ho hy hr hb hq Y K Z hc hp p1 p2 g hm u;go_wp2
      go_roundw
      case rel=>
       refine⟨k+1,by omega,by go_num,?_,?_,n.o.set,l.o.setCell (by show w.heap.size<=w.heap.size+1+1+1;omega) _⟩
       ·rw[a3.o,Pol.qD,ak h5,<-U.o,<-HA.o,<-HC.o,<-c5.o,<-Int.natCast_add];exact d.o.set _ _
       ·rw[aA _ _ (by omega)];exact t.o
      case measure=>simp[intOf];omega
    ·have d9:decide ((k:Int)<5)=dT:=by rw[ah];omega
     have p:k=5:=by omega
     have X:=ho;rw[p,<-c7.o]at X;have H:=ae X;clear ho hy hr hb X p;go_wp2_with fail
     go_roundw
     case rel=>exact⟨i+1,by omega,by go_num,H.o,t.o,n.o,l.o⟩
     case measure=>simp[intOf];omega
  ·have a9:i=5:=by omega
   rw[a9]at ho;obtain⟨o,f⟩:=aK (Pol.mi xs b [0,0,0,0,0] 5);have r:o.length=5:=by rw[f,Pol.rp];rfl
   have b7:∀j,Pol.eQ o j<=1152921504606846976:=λj=>by
    have:=F.o 5 (by decide) j;rw[f];omega
   rw[<-f]at ho G;have H:=ae ho;have O:=ae r;have c9:=ae b7;clear ho hy hr hb f r b7 a9;go_wp2_with fail
   refine(xo _ _ o _ O.o c9.o H.o).m ?_;rintro e w5 ⟨rfl,a0,p⟩;rw[G.o]at a0;have f5:=hF H.o;have a5:=ae a0;have a4:=ae (n.o.keep p (by omega) (by omega));have c4:=ae (l.o.t ((p.m (B':=w.heap.size) (S':=λ_=>False) l.o.size (λk hk e=>by omega)).below (λ_ _ h=>h)));obtain⟨R,I⟩:=aK (cT (Pol.carry (Pol.mul ⟨x0,x1,x2,x3,x4⟩ ⟨A,B,C,D,E⟩)));have V:R.length=5:=by rw[I];rfl
   rw[<-I]at a5;have d1:=ae I;have Q:=ae V;have hrg:=bu a5.o;have c0:w5.there (w.heap.size+1+1) 0 5:=by
    obtain⟨d4,h1,h2⟩:=a4.o;exact dr h1 h2
   have d2:=ae c0;have b9:(R.map kd).toArray.size=5:=by simp[V]
   have SZ:=ae b9;clear a0 p I V c0 b9;go_wp2_with (first
    |(refine cM rfl 232 (.tmp 5) rfl (w.heap.size+1+1+1) 0 rfl (R.map kd) _ hrg Tryz.underlying232 rfl (by rw[aY,Q.o];kernel_rfl) ?_)
    |(refine bz rfl 232 (.tmp 4) (.tmp 49) rfl (w.heap.size+1+1) 0 (R.map kd).toArray rfl rfl (by rw[SZ.o];exact d2.o) (by rw[SZ.o];kernel_rfl) (dx (by intro v hv;obtain⟨x,_,rfl⟩:=cH.1 hv;rfl)) ?_))
   generalize a6:World.setCells _ _ _ _=w9;have d6:dd w.heap.size w w9:=by rw[<-a6];exact bp (by omega) _ _ _ c4.o
   have e5:ky w9 (w.heap.size+1+1) 232 R:=by
    obtain⟨d4,h1,h2⟩:=a4.o;rw[<-a6];exact qu h1 (by rw[h2,Q.o])
   have e7:=aU (P:=ed) w9 (w.heap.size+1+1) 0 232 (R.map kd) _ (bu e5) Tryz.underlying232 rfl (by rw[aY,Q.o];kernel_rfl);exact aH (v:= .agg (R.map kd).toArray) (lM Tryz.results139 rfl e7) rfl ⟨by rw[d1.o],d6⟩
end Go.Proofs.YtcdmenphjilnnaaGreatDoor
namespace Go.Con.Pol
set_option maxHeartbeats 2000000
def yL(s:List Nat)(k:Nat):List Nat:=
 let s1:=s.set (k+1) (eQ s (k+1)+eQ s k/67108864)
 s1.set k (eQ s1 k%67108864)
def wk(s:List Nat):Nat->List Nat
 |0=>s
 |k+1=>yL (wk s k) k
theorem vU(s:List Nat)(k:Nat):(wk s k).length=s.length:=by
 induction k with
 |zero=>rfl
 |succ k a=>rw[wk,yL];simp[a]
theorem yP(s:List Nat)(hs:s.length=5)(h:∀j,eQ s j<=67111000):∀k,k<=4->∀j,eQ (wk s k) j<=67111000+2*k
 |0,_=>by simpa[wk]using h
 |k+1,hk=>by
  have a:=yP s hs h k (by omega);intro j;have h1:=a k;have h2:=a (k+1);have h3:=a j;have hl:(wk s k).length=5:=by rw[vU];exact hs
  rw[wk,yL];rw[iQ _ _ _ _ (by rw[cD];omega),iQ _ _ _ _ (by omega),iQ _ _ _ _ (by omega)];have e:¬(k+1=k):=by omega
  simp only[e,if_false];split
  ·omega
  ·split<;>omega
theorem AO(x:L5):(if eQ (wk ((cT (carry x)).set 0 (eQ (cT (carry x)) 0+5)) 4) 4/67108864=0 then cT (carry x)else(wk ((cT (carry x)).set 0 (eQ (cT (carry x)) 0+5)) 4).set 4 (eQ (wk ((cT (carry x)).set 0 (eQ (cT (carry x)) 0+5)) 4) 4%67108864))=cT (whole x):=by
 unfold whole;generalize carry x=z;obtain⟨a,b,c,d,e⟩:=z;dsimp only;have f:eQ (wk ((cT ⟨a,b,c,d,e⟩).set 0 (eQ (cT ⟨a,b,c,d,e⟩) 0+5)) 4) 4=e+(d+(c+(b+(a+5)/67108864)/67108864)/67108864)/67108864:=rfl;rw[f];by_cases h:(e+(d+(c+(b+(a+5)/67108864)/67108864)/67108864)/67108864)/67108864=0
 ·rw[ar h,ar h]
 ·rw[ak h,ak h];rfl
theorem Ep{x:L5}(h:Fq x):∀j,eQ (cT x) j<=67110912:=by
 obtain⟨h0,h1,h2,h3,h4⟩:=h;intro j
 match j with
 |0=>show x.a0<=_;omega
 |1=>show x.a1<=_;omega
 |2=>show x.a2<=_;omega
 |3=>show x.a3<=_;omega
 |4=>show x.a4<=_;omega
 |j+5=>simp[eQ,cT]
end Go.Con.Pol
namespace Go.Proofs.YtcdmenphjilnnaaGreatDoor
open Go.RowKit Go.Con
set_option maxHeartbeats 2000000
theorem EY(a b:ax)(Z:List Nat)(hl:Z.length=5)(h:(a.alloc (.cells #[.int .u64 0,.int .u64 0,.int .u64 0,.int .u64 0,.int .u64 0] 232)).setCells a.heap.size 0 (Z.map kd).toArray.toList=b):
  ky b a.heap.size 232 Z/\dd a.heap.size a b:=by
 subst h;exact⟨qu (aL a _) (by rw[hl];rfl),bp (ag _) _ _ _ ((aj _ _).alloc (ag _) _)⟩
theorem Dz(x:Pol.L5)(w:ax)(hx:∀j,Pol.eQ (cT x) j<=1152921504606846976)(b9:Pol.Fq (Pol.carry x)):
  bl ed 140 #[.agg #[.int .u64 x.a0,.int .u64 x.a1,.int .u64 x.a2,.int .u64 x.a3,.int .u64 x.a4]] w
   λe w'=>e= .returned (.agg ((cT (Pol.whole x)).map kd).toArray)/\dd w.heap.size w w':=by
 obtain⟨Z,z⟩:=aK (cT (Pol.carry x));have X:Z.length=5:=by rw[z];rfl
 have b8:Pol.fin (Pol.ck (cT x) 5)=Z:=by rw[z];exact Pol.uU x
 have V:∀j,Pol.eQ Z j<=67110912:=by rw[z];exact Pol.Ep b9
 have a:=Pol.AO x;rw[<-z]at a;obtain⟨d,N⟩:=aK (Pol.eQ Z 0);have e9:d<=67110912:=by rw[N];exact V 0
 rw[<-N]at a;obtain⟨Y,u⟩:=aK (Z.set 0 (d+5));rw[<-u]at a;have U:Y.length=5:=by rw[u,cD];exact X
 have b5:=Pol.yP Y U (λj=>by
  rw[u,Pol.iQ _ _ _ _ (by omega)];have:=V j;split<;>omega)
 obtain⟨R,hR⟩:=aK (cT (Pol.whole x));rw[<-hR]at a|-;have b0:=ae hx;have a8:=ae b8;have m:=ae X;have d5:=ae a;have d8:=ae u;have d9:=ae U;have d7:=ae b5;have e1:=ae N;obtain⟨xs,K⟩:=aK (cT x);rw[<-K]at b0 a8;have a7:∀w:ax,ky (w.alloc (.cells #[.int .u64 x.a0,.int .u64 x.a1,.int .u64 x.a2,.int .u64 x.a3,.int .u64 x.a4] 232)) w.heap.size 232 xs:=λw=>by rw[K];exact aL w _
 have c8:xs.length=5:=by rw[K];rfl
 have b1:=ae a7;have d6:=ae c8;clear hx b9 z X b8 V a N u U b5 hR K a7 c8;obtain⟨x0,x1,x2,x3,x4⟩:=x;dsimp only at b1|-;go_enter func140,ntmps140
 go_wp2_with fail
 have b6:ky ((w.alloc (.cells #[.int .u64 x0,.int .u64 x1,.int .u64 x2,.int .u64 x3,.int .u64 x4] 232)).alloc (.cells #[.int .u64 0,.int .u64 0,.int .u64 0,.int .u64 0,.int .u64 0] 232)) w.heap.size 232 xs:=(bC _ _ _ (by simp)).t (b1.o w);refine(xo _ _ xs _ d6.o b0.o b6).m ?_;rintro e c ⟨rfl,J,H⟩;rw[a8.o]at J;have c4:Room c (w.heap.size+1) 5 232:=Room.keep ⟨_,gl w _ _,rfl⟩ H (by simp) (by omega);have b3:dd w.heap.size w c:=(((aj _ _).alloc (ag _) _).alloc (by simp) _).t ((H.m (B':=w.heap.size) (S':=λ_=>False) (by simp;omega) (λk hk e=>by omega)).below (λ_ _ h=>h));have s1:w.heap.size+2<=c.heap.size:=by have h:=H.size;simp at h;omega
 have Z1:=ae J;have R1:=ae c4;have B1:=ae b3;have hrg:=bu J;have c5:=λ(W W2:ax) (hW:(W.alloc (.cells #[.int .u64 0,.int .u64 0,.int .u64 0,.int .u64 0,.int .u64 0] 232)).setCells W.heap.size 0 (Z.map kd).toArray.toList=W2)=>EY W W2 Z m.o hW;have d1:=ae c5;have c6:∀W:ax,(W.alloc (.cells #[.int .u64 0,.int .u64 0,.int .u64 0,.int .u64 0,.int .u64 0] 232)).there W.heap.size 0 5:=λW=>dr (aL W _) rfl;have d2:=ae c6;have C:(Z.map kd).toArray.size=5:=by simp[m.o]
 have F:=ae C;clear J H c4 b3 b6 c5 c6 C;go_wp2_with (first
  |(refine cM rfl 232 (.tmp 1) rfl w.heap.size 0 rfl (Z.map kd) _ hrg Tryz.underlying232 rfl (by rw[aY,m.o];kernel_rfl) ?_)
  |(refine bz rfl 232 (.tmp 3) (.tmp 6) rfl c.heap.size 0 (Z.map kd).toArray rfl rfl (by rw[F.o];exact d2.o _) (by rw[F.o];kernel_rfl) (dx (by intro v hv;obtain⟨x,_,rfl⟩:=cH.1 hv;rfl)) ?_;generalize b4:World.setCells _ _ _ _=n;have o:=ae (d1.o c n b4);have c0:n.cell? (c.heap.size,0)=de (.int .u64 d):=(by rw[e1.o];exact o.o.1.cell 0 (by rw[m.o];decide));have f0:=aO o.o.1 0;clear b4))
 have L:ky (n.setCell (c.heap.size,0) (.int .u64 ((d:Int)+5))) c.heap.size 232 Y:=by
  rw[d8.o,show((d:Int)+5)=((d+5:Nat):Int) by omega];exact o.o.1.set 0 _
 have O:ky (n.setCell (c.heap.size,0) (.int .u64 ((d:Int)+5))) w.heap.size 232 Z:=((Z1.o.stay o.o.2).other _ _ _ (by omega))
 have I:Room (n.setCell (c.heap.size,0) (.int .u64 ((d:Int)+5))) (w.heap.size+1) 5 232:=by
  obtain⟨s,h1,h2⟩:=R1.o;exact⟨s,(aA _ _ (by omega)).t ((o.o.2.block _ (by omega)).t h1),h2⟩
 have G:dd w.heap.size w (n.setCell (c.heap.size,0) (.int .u64 ((d:Int)+5))):=(B1.o.t (o.o.2.m (by omega))).setCell (by show w.heap.size<=c.heap.size;omega) _;obtain⟨b,b7⟩:=aK c.heap.size;have e8:w.heap.size+1<b:=by omega
 rw[<-b7]at L O I G|-;generalize e4:n.setCell (b,0) (.int .u64 ((d:Int)+5))=w3 at L O I G|-;have Y3:=ae L;have Z3:=ae O;have R3:=ae I;have B3:=ae G;clear L O I G e4 b7 c0 f0 hrg;go_loopw [11] (λi wr=>∃k:Nat,k<=4/\i= .int .i64 k/\ky wr b 232 (Pol.wk Y k)/\ky wr w.heap.size 232 Z/\Room wr (w.heap.size+1) 5 232/\dd w.heap.size w wr) (λi _=>4-(intOf i).toNat)
 case atStart=>exact⟨0,by omega,rfl,Y3.o,Z3.o,R3.o,B3.o⟩
 case round=>
  obtain⟨k,hk,rfl,hy,E,hr,hb⟩:=hrel;have f:=ae hy;have e2:=ae E;have T:=ae hr;have Q:=ae hb;obtain⟨q,hq⟩:=aK (Pol.wk Y k);have A:q.length=5:=by rw[hq,Pol.vU];exact d9.o
  have r:∀j,Pol.eQ q j<=67111008:=λj=>by have:=d7.o k hk j;rw[hq];omega
  have B:Pol.wk Y (k+1)=Pol.yL q k:=by rw[hq];rfl
  rw[<-hq]at f;have c9:=ae A;have d0:=ae B;by_cases hlt:k<4
  ·obtain⟨x,hx⟩:=aK (Pol.eQ q k);obtain⟨y,M⟩:=aK (Pol.eQ q (k+1));have a7:x<=67111008:=by rw[hx];exact r k
   have e6:y<=67111008:=by rw[M];exact r (k+1)
   have c1:=f.o.cell k (by omega);have c2:=f.o.cell (k+1) (by omega);have f2:=aO f.o (k+1);rw[show q.getD k 0=x from hx.symm]at c1;rw[show q.getD (k+1) 0=y from M.symm]at c2;have t2:∀nq,ky ((wr.drewN nq).setCell (b,k+1) (.int .u64 ((y:Int)+(x:Int)/67108864))) b 232 (q.set (k+1) (y+x/67108864)):=λnq=>by
    rw[show((y:Int)+(x:Int)/67108864)=((y+x/67108864:Nat):Int) by omega];exact ky.set (w:=wr.drewN nq) f.o (k+1) _
   have T2:=ae t2;have c3:∀nq,((wr.drewN nq).setCell (b,k+1) (.int .u64 ((y:Int)+(x:Int)/67108864))).cell? (b,k)=de (.int .u64 x):=λnq=>by
    rw[(t2 nq).cell k (by rw[cD];omega)];rw[hx];simp[Pol.eQ,gB,show¬(k+1=k) by omega]
   have f3:∀nq,((wr.drewN nq).setCell (b,k+1) (.int .u64 ((y:Int)+(x:Int)/67108864))).frozen? (b,k)=dT:=λnq=>aO (t2 nq) k;have HX:=ae hx;have e0:=ae M;clear hy E hr hb hq A r B hx M t2;go_wp2
   refine bQ 10 (by kernel_rfl) (by kernel_rfl) ?_;simp only[bH,cQ,bT,cC];repeat (go_big_quiet_step (fail))
   refine bt ?_;intro g e5;obtain⟨nq,rfl⟩:=e5;go_wp2
   go_roundw
   case rel=>
    refine⟨k+1,by omega,by go_num,?_,(ky.other (w:=wr.drewN nq) e2.o _ _ _ (by omega)).other _ _ _ (by omega),(T.o.drewN nq).set.set,((below_drewN Q.o nq).setCell (by show w.heap.size<=b;omega) _).setCell (by show w.heap.size<=b;omega) _⟩;rw[d0.o];unfold Pol.yL;dsimp only;rw[sg x (by omega),<-HX.o,<-e0.o,Pol.iQ q (k+1) k _ (by have:=c9.o;omega),ak (by omega),<-HX.o];exact(T2.o nq).set k _
   case measure=>simp[intOf];omega
  ·have a3:k=4:=by omega
   rw[a3]at hq B;obtain⟨l,D⟩:=aK (Pol.eQ q 4);have e6:l<=67111008:=by rw[D];exact r 4
   have c1:=f.o.cell 4 (by omega);have f1:=aO f.o 4;rw[show q.getD 4 0=l from D.symm]at c1;have a:=d5.o;rw[<-hq,<-D]at a;have a6:wr.there (w.heap.size+1) 0 5:=by
    obtain⟨s,h1,h2⟩:=hr;exact dr h1 h2
   have d3:=ae a6;by_cases h0:l/67108864=0
   ·rw[ar h0]at a;have p:Z=R:=a;have e3:((l:Int)/67108864==0)=dE:=by rw[eE];omega
    have a5:=bu E;have a9:=ae p;clear hy E hr hb hq A r B D a a6 h0 a3 p;go_wp2_with (first
     |(refine cM rfl 232 (.tmp 1) rfl w.heap.size 0 rfl (Z.map kd) _ a5 Tryz.underlying232 rfl (by rw[aY,m.o];kernel_rfl) ?_)
     |(refine bz rfl 232 (.tmp 2) (.tmp 34) rfl (w.heap.size+1) 0 (Z.map kd).toArray rfl rfl (by rw[F.o];exact d3.o) (by rw[F.o];kernel_rfl) (dx (by intro v hv;obtain⟨x,_,rfl⟩:=cH.1 hv;rfl)) ?_))
    generalize t:World.setCells _ _ _ _=g;have a0:dd w.heap.size w g:=by rw[<-t];exact bp (by omega) _ _ _ Q.o
    have a2:ky g (w.heap.size+1) 232 Z:=by
     obtain⟨s,h1,h2⟩:=T.o;rw[<-t];exact qu h1 (by rw[h2,m.o])
    have a4:=aU (P:=ed) g (w.heap.size+1) 0 232 (Z.map kd) _ (bu a2) Tryz.underlying232 rfl (by rw[aY,m.o];kernel_rfl);exact aH (v:= .agg (Z.map kd).toArray) (lM Tryz.results140 rfl a4) rfl ⟨by rw[a9.o],a0⟩
   ·rw[ak h0]at a;have e3:((l:Int)/67108864==0)=dT:=by rw[aJ];omega
    have p:R.length=5:=by rw[<-a,cD];exact A
    have a9:=ae a;have S:=ae p;have a1:ky (wr.setCell (b,4) (.int .u64 (bits .and .u64 (l:Int) 67108863))) b 232 R:=by
     rw[sg l (by omega),<-a];exact f.o.set 4 _
    have e7:=ae a1;have a5:=bu a1;have c7:(wr.setCell (b,4) (.int .u64 (bits .and .u64 (l:Int) 67108863))).there (w.heap.size+1) 0 5:=by
     obtain⟨s,h1,h2⟩:=hr;exact dr ((aA _ _ (by omega)).t h1) h2
    have d4:=ae c7;have C:(R.map kd).toArray.size=5:=by simp[p]
    have b2:=ae C;clear hy E hr hb hq A r B D a a6 c7 h0 a3 p a1 C;go_wp2_with (first
     |(refine cM rfl 232 (.tmp 3) rfl b 0 rfl (R.map kd) _ a5 Tryz.underlying232 rfl (by rw[aY,S.o];kernel_rfl) ?_)
     |(refine bz rfl 232 (.tmp 2) (.tmp 39) rfl (w.heap.size+1) 0 (R.map kd).toArray rfl rfl (by rw[b2.o];exact d4.o) (by rw[b2.o];kernel_rfl) (dx (by intro v hv;obtain⟨x,_,rfl⟩:=cH.1 hv;rfl)) ?_))
    generalize t:World.setCells _ _ _ _=g;have a0:dd w.heap.size w g:=by rw[<-t];exact bp (by omega) _ _ _ (Q.o.setCell (by show w.heap.size<=b;omega) _)
    have a2:ky g (w.heap.size+1) 232 R:=by
     obtain⟨s,h1,h2⟩:=T.o;rw[<-t];exact qu ((aA _ _ (by omega)).t h1) (by rw[h2,S.o])
    have a4:=aU (P:=ed) g (w.heap.size+1) 0 232 (R.map kd) _ (bu a2) Tryz.underlying232 rfl (by rw[aY,S.o];kernel_rfl);exact aH (v:= .agg (R.map kd).toArray) (lM Tryz.results140 rfl a4) rfl ⟨rfl,a0⟩
end Go.Proofs.YtcdmenphjilnnaaGreatDoor
namespace Go.Con.Pol
def KW(k:Nat):Nat:=match k with|0=>3|1=>7|2=>11|_=>15
def KV(k:Nat):Nat:=match k with|0=>4|1=>8|_=>12
def Fw(s:List UInt8):Nat->List UInt8
 |0=>s
 |k+1=>(Fw s k).set (KW k) ((Fw s k).getD (KW k) 0&&&15)
def Ik(s:List UInt8):Nat->List UInt8
 |0=>s
 |k+1=>(Ik s k).set (KV k) ((Ik s k).getD (KV k) 0&&&252)
theorem pZ(s:List UInt8)(k:Nat):(Fw s k).length=s.length:=by
 induction k with
 |zero=>rfl
 |succ k a=>rw[Fw,cD,a]
theorem uR(s:List UInt8)(k:Nat):(Ik s k).length=s.length:=by
 induction k with
 |zero=>rfl
 |succ k a=>rw[Ik,cD,a]
theorem Ak(s:List UInt8)(h:s.length=16):Ik (Fw s 4) 3=Ij s:=by
 match s,h with
 |[a0,a1,a2,a3,a4,a5,a6,a7,g,i,a,b,c,d,e,f],_=>rfl
def vN(s t:List Nat):Nat->List Nat
 |0=>s
 |k+1=>(vN s t k).set k (eQ s k+eQ t k)
theorem sE(s t:List Nat)(k:Nat):(vN s t k).length=s.length:=by
 induction k with
 |zero=>rfl
 |succ k a=>rw[vN,cD,a]
theorem Kq(s t:List Nat)(k:Nat):k<=s.length->∀j,k<=j->eQ (vN s t k) j=eQ s j:=by
 induction k with
 |zero=>intro _ j _;rfl
 |succ k a=>
  intro hk j hj;rw[vN,iQ _ _ _ _ (by rw[sE];omega),ak (by omega)];exact a (by omega) j (by omega)
def plus(x y:L5):L5:=⟨x.a0+y.a0,x.a1+y.a1,x.a2+y.a2,x.a3+y.a3,x.a4+y.a4⟩
theorem Gm(x y:L5):(plus x y).val=x.val+y.val:=by simp only[plus,L5.val];omega
theorem DW(A R:L5)(n:Nat):(carry (mul (plus A (wJ n)) R)).val%P=(A.val%P+n)*R.val%P:=by
 rw[xj,mul_mod,Gm,xM,Nat.mul_mod,Nat.add_mod]
 conv=>rhs;rw[Nat.mul_mod,Nat.add_mod,Nat.mod_mod]
theorem Fl(r a:Nat)(l:List UInt8)(h:l≠[]):rI r l.length a l=rI r (l.drop 16).length ((a+(pA (l.take 16)+256^(min 16 l.length)))*r%P) (l.drop 16):=by
 have hp:0<l.length:=dw.2 h;obtain⟨f,b⟩:∃f,l.length=f+1:=⟨l.length-1,by omega⟩
 rw[b,rI,ak h,b];exact xt r _ _ _ _ (by simp;omega) (ag _)
end Go.Con.Pol
namespace Go.Proofs.YtcdmenphjilnnaaGreatDoor
open Go.RowKit Go.Con
theorem Oa(k:Nat)(hk:k<4)(W:ax):(Instr.index 183 (.agg #[(3:Int),(7:Int),(11:Int),(15:Int)]) k).run ed W= .ok (Pol.KW k) W:=by
 have h4:k=0\/k=1\/k=2\/k=3:=by omega
 rcases h4 with rfl|rfl|rfl|rfl<;>(show _=_;kernel_rfl)
theorem NZ(k:Nat)(hk:k<3)(W:ax):(Instr.index 229 (.agg #[(4:Int),(8:Int),(12:Int)]) k).run ed W= .ok (Pol.KV k) W:=by
 have h3:k=0\/k=1\/k=2:=by omega
 rcases h3 with rfl|rfl|rfl<;>(show _=_;kernel_rfl)
theorem Own.MN{w:ax}{base g n c:Nat}{l:List UInt8}(h:Own w base (.slice (g,0) n c) l)(k:Nat)(x:UInt8):Own (w.setCell (g,k) (.int .u8 x.toNat)) base (.slice (g,0) n c) (l.set k x):=by
 unfold Own at h|-;rw[cD];have hl:n=l.length:=by
  rcases h.2 with⟨h3,_⟩|⟨g',cap,a,h3,_⟩
  ·cases h3
  ·injection h3
 subst hl;have h1:=(World.ownsRow.stored h k (.int .u8 x.toNat)).1;have e:(l.map fs).set k (.int .u8 x.toNat)=(l.set k x).map fs:=by rw[List.map_set];rfl
 rw[e]at h1;exact h1
theorem Own.aR{w:ax}{base g n c:Nat}{l:List UInt8}(h:Own w base (.slice (g,0) n c) l)(k:Nat)(hk:k<l.length):w.cell? (g,k)=de (.int .u8 (l.getD k 0).toNat):=by
 obtain⟨a',i,e,_,_,_,h⟩:=h.rd;injection e with e1 e2 e3;subst e1;obtain⟨b,off,a,h2⟩:=h (by intro h;rw[h]at hk;cases hk);injection a with a;injection a with d f;subst d f;have h3:=h2 k hk;rw[ca]at h3;exact h3
theorem Own.KZ{w:ax}{base g n c:Nat}{l:List UInt8}(h:Own w base (.slice (g,0) n c) l)(k:Nat):w.frozen? (g,k)=dT:=by
 obtain⟨hl,h2⟩:=h;rcases h2 with⟨h3,d⟩|⟨g',cap,b,h3,hb,hg,r⟩
 ·cases h3
 ·injection h3 with e1 e2 e3;injection e1 with e1;injection e1 with a;subst a;exact aO hg k
theorem um(a b n c:Nat)(l:List UInt8)(top:Nat)(w:ax)(x:Pol.L5)(g:top<=1)(hl:16<=l.length)(f:l.length=n)(d:Rd w (.slice (a,b) n c) l)(hx:Pol.wJ (Pol.pA (l.take 16)+top*340282366920938463463374607431768211456)=x):
  bl ed 138 #[.slice (a,b) n c,.int .u64 top] w λe w'=>e= .returned (.agg #[.int .u64 x.a0,.int .u64 x.a1,.int .u64 x.a2,.int .u64 x.a3,.int .u64 x.a4])/\dd w.heap.size w w':=by
 have h:=Bs a b n c l top w g hl f d;rw[hx]at h;exact h
theorem MM:(prog.info? 232).map (λx=>x.size)=de 5:=by kernel_rfl
theorem Jv{w:ax}{g:Nat}{t:TypeId}{f:Nat×Nat}{l:List UInt8}(h:w.heap[g]?=de (.cells (l.map fs).toArray t f))(a:l.length=17):Rd w (.slice (g,0) 16 17) (l.take 16):=
 Rd.pre (n:=17) (c:=17) (by
  refine⟨_,_,by rw[a],ag _,(by rw[a];decide),(λh=>by cases h),λ_=>⟨_,_,rfl,λi hi=>?_⟩⟩;refine ej h _ ?_;simp[hi]) 16 (by omega)
theorem IY(x X:Pol.L5)(w:ax)(hx:∀j,Pol.eQ (cT x) j<=1152921504606846976)(b:Pol.Fq (Pol.carry x))(a:Pol.whole x=X):
  bl ed 140 #[.agg #[.int .u64 x.a0,.int .u64 x.a1,.int .u64 x.a2,.int .u64 x.a3,.int .u64 x.a4]] w
   λe w'=>e= .returned (.agg #[.int .u64 X.a0,.int .u64 X.a1,.int .u64 X.a2,.int .u64 X.a3,.int .u64 X.a4])/\dd w.heap.size w w':=by
 have h:=Dz x w hx b;rw[a]at h;exact h
theorem Gs(a b n c:Nat)(l:List UInt8)(top:Nat)(t:Int)(h:t=(top:Int))(w:ax)(x:Pol.L5)(g:top<=1)(hl:16<=l.length)(f:l.length=n)(d:Rd w (.slice (a,b) n c) l)(hx:Pol.wJ (Pol.pA (l.take 16)+top*340282366920938463463374607431768211456)=x):
  bl ed 138 #[.slice (a,b) n c,.int .u64 t] w λe w'=>e= .returned (.agg #[.int .u64 x.a0,.int .u64 x.a1,.int .u64 x.a2,.int .u64 x.a3,.int .u64 x.a4])/\dd w.heap.size w w':=by
 subst h;exact um a b n c l top w x g hl f d hx
theorem Jk(x y C:Pol.L5)(w:ax)(hx:∀j,Pol.eQ (cT x) j<=134221824)(hy:∀j,Pol.eQ (cT y) j<=67108864)(hC:Pol.carry (Pol.mul x y)=C):
  bl ed 139 #[.agg #[.int .u64 x.a0,.int .u64 x.a1,.int .u64 x.a2,.int .u64 x.a3,.int .u64 x.a4],.agg #[.int .u64 y.a0,.int .u64 y.a1,.int .u64 y.a2,.int .u64 y.a3,.int .u64 y.a4]] w
   λe w'=>e= .returned (.agg #[.int .u64 C.a0,.int .u64 C.a1,.int .u64 C.a2,.int .u64 C.a3,.int .u64 C.a4])/\dd w.heap.size w w':=by
 have h:=DG x y w hx hy;rw[hC]at h;exact h
section
variable{ops:Array Oper}{rest:List Oper}{o:Oper}{a:Act}{Q:Exit->Act->ax->Prop}{w:ax}
theorem Nv(l:o.guard=dl)(d s:Operand)(ho:o.op= .call {callee:= .builtin .copy,args:=#[d,s],argTypes:=#[24,24]})
  (g:Nat)(hd:a.eval d= .slice (g,0) 16 17)(src:bd)(m:List UInt8)(hs:a.eval s=src)(e:Rd w src m)
  (b:List bd)(hg:w.heap[g]?=de (.cells b.toArray 234 (0,0)))(p:b.length=17)(k:Nat)(hk:k=min m.length 16)
  (h:∀w',w'.heap[g]?=de (.cells ((m.take 16).map fs++b.drop k).toArray 234 (0,0))->dd g w w'->wpList ed ops Q rest (a.put o.dst (goInt k)) w'):
  wpList ed ops Q (o::rest) a w:=by
 obtain⟨ao,c,rfl,h1,h2⟩:=e.slice;have hl:((m.take 16).map fs).length=k:=by rw[aY,aM,hk];omega
 refine wpList_copy_splice l d s 24 24 ho 5 Tryz.underlying24 (by kernel_rfl) _ _ 16 17 m.length c hd hs g 0 b 234 hg ((m.take 16).map fs) (by rw[hl,hk]) ?_ (by rw[hl];omega) (Bq _) g w (aj _ _) (ag _) ?_
 ·intro n;refine⟨rfl,?_⟩;cases ao with
  |none=>have:=e.nA.1;subst this;simp at n
  |some ad=>exact⟨ad,rfl,(λj u hju=>e.cells ad rfl j u (by
    rw[fL]at hju|-;rw[cR]at hju;split at hju
    ·exact hju
    ·cases hju))⟩
 ·intro w' i f;have:=h w' (by have:=i.o;rw[<-hl];simpa[splice]using this) f;rw[hl];exact this
end
theorem MR(a:List UInt8)(K:Nat)(hl:a.length=K)(hK:K<=16)(j:Nat)(hj:j<17){h1:_}{h2:_}:(if K=j then(.int .u8 1:bd)else(a.map fs++([.int .u8 0,.int .u8 0,.int .u8 0,.int .u8 0,.int .u8 0,.int .u8 0,.int .u8 0,.int .u8 0,.int .u8 0,.int .u8 0,.int .u8 0,.int .u8 0,.int .u8 0,.int .u8 0,.int .u8 0,.int .u8 0,.int .u8 0]:List bd).drop K)[j]'h1)=((a++(1::List.replicate (16-K) (0:UInt8))).map fs)[j]'h2:=by
 have e:([.int .u8 0,.int .u8 0,.int .u8 0,.int .u8 0,.int .u8 0,.int .u8 0,.int .u8 0,.int .u8 0,.int .u8 0,.int .u8 0,.int .u8 0,.int .u8 0,.int .u8 0,.int .u8 0,.int .u8 0,.int .u8 0,.int .u8 0]:List bd)=(List.replicate 17 (0:UInt8)).map fs:=rfl;simp only[e,<-List.map_drop,<-du,List.getElem_map];by_cases b:K=j
 ·subst b;rw[ar rfl,pM (by omega)];simp[hl,fs]
 ·rw[ak b];congr 1;by_cases hlt:j<K
  ·rw[List.getElem_append_left (by omega),List.getElem_append_left (by omega)]
  ·rw[pM (by omega),pM (by omega)];obtain⟨q,hq⟩:∃q,j-a.length=q+1:=⟨j-a.length-1,by omega⟩
   simp only[List.getElem_drop,List.getElem_replicate,hq,List.getElem_cons_succ]
theorem Jm(kv dv:bd)(key data:List UInt8)(w:ax)(hk:Rd w kv key)(hd:Rd w dv data)(hkl:key.length=32)(n9:data.length<=4000):
  bl ed 123 #[kv,dv] w (mX w (Pol.tag key data)):=by
 obtain⟨kb,ko,kc,rfl,C3,C6⟩:=hk.gL 32 hkl (by decide);obtain⟨J,f3⟩:=aK (key.take 16);have o5:J.length=16:=by rw[f3,aM,hkl];rfl
 have i6:=hk.pre 16 (by omega);rw[<-f3]at i6;have t9:=ae i6;have HK:=ae hk;have HD:=ae hd;have t1:=ae hkl;have r9:=ae n9;have t0:=ae f3;have a8:=ae o5;have C4:(16:Int)<=(kc:Int):=by omega
 have C5:(32:Int)<=(kc:Int):=by omega
 have s7:=ae Oa;have s8:=ae NZ;clear hk hd hkl n9 f3 o5 i6;go_enter func123,ntmps123
 go_wp2_with (at_builtin;refine uZ rfl (.const (.slice dl 0 0)) (.tmp 23) rfl w.heap.size (.slice dl 0 0) _ [] J rfl (Own.nil _ _) rfl t9.o (by have:=a8.o;simp;omega) (ag _) ?_;intro v1 w1 p2 o2;have g7:=ae p2;have k4:=ae o2;clear p2 o2)
 obtain⟨g,gc,q3,o4,C0,y9,C1⟩:=g7.o.shape (by intro h;have:=a8.o;rw[cK]at h;rw[h]at this;cases this);rw[cK,a8.o]at q3 y9;subst q3;have i5:=g7.o;rw[cK]at i5;have O1:=ae i5;have B1:=ae ((aj w.heap.size w).grown k4.o (ag _) (λk hk=>by cases hk));clear i5 g7 k4;go_loopw [26] (λi wr=>∃k:Nat,k<=4/\i= .int .i64 k/\Own wr w.heap.size (.slice (g,0) 16 gc) (Pol.Fw J k)/\dd w.heap.size w wr) (λi _=>4-(intOf i).toNat)
 case atStart=>exact⟨0,by omega,rfl,O1.o,B1.o⟩
 case round=>
  obtain⟨k,hk,rfl,ho,hb⟩:=hrel;have z:=ae ho;have HB:=ae hb;have I:(Pol.Fw J k).length=16:=by rw[Pol.pZ];exact a8.o
  by_cases hlt:k<4
  ·have hi:=s7.o k hlt;have i2:Pol.KW k<16:=by unfold Pol.KW;split<;>decide
   have P:Pol.Fw J (k+1)=(Pol.Fw J k).set (Pol.KW k) ((Pol.Fw J k).getD (Pol.KW k) 0&&&15):=rfl;obtain⟨j,hj⟩:=aK (Pol.KW k);rw[<-hj]at hi i2 P;obtain⟨x,hx⟩:=aK ((Pol.Fw J k).getD j 0);have c1:=ho.aR j (by omega);have f1:=ho.KZ j;rw[<-hx]at c1 P;have g6:=ae P;clear ho hb I P hj hx;go_wp2
   go_roundw
   case rel=>
    refine⟨k+1,by omega,by go_num,?_,HB.o.setCell o4 _⟩;rw[g6.o];have e:=CG x 15;rw[show(((15:UInt8).toNat:Nat):Int)=15 from rfl]at e;rw[e];exact z.o.MN j _
   case measure=>simp[intOf];omega
  ·have o7:k=4:=by omega
   rw[o7]at ho;obtain⟨b7,f6⟩:=aK (Pol.Fw J 4);have p4:b7.length=16:=by rw[f6,Pol.pZ];exact a8.o
   rw[<-f6]at ho;have O2:=ae ho;have B2:=ae hb;have HQ:=ae f6;have u1:=ae p4;clear ho hb I o7 f6 p4;go_wp2_with fail
   go_loopw [37] (λi wr=>∃k:Nat,k<=3/\i= .int .i64 k/\Own wr w.heap.size (.slice (g,0) 16 gc) (Pol.Ik b7 k)/\dd w.heap.size w wr) (λi _=>3-(intOf i).toNat)
   case atStart=>exact⟨0,by omega,rfl,O2.o,B2.o⟩
   case round=>
    obtain⟨k,hk,rfl,ho,hb⟩:=hrel;have z:=ae ho;have HB:=ae hb;have I:(Pol.Ik b7 k).length=16:=by rw[Pol.uR];exact u1.o
    by_cases hlt:k<3
    ·have hi:=s8.o k hlt;have i2:Pol.KV k<16:=by unfold Pol.KV;split<;>decide
     have P:Pol.Ik b7 (k+1)=(Pol.Ik b7 k).set (Pol.KV k) ((Pol.Ik b7 k).getD (Pol.KV k) 0&&&252):=rfl;obtain⟨j,hj⟩:=aK (Pol.KV k);rw[<-hj]at hi i2 P;obtain⟨x,hx⟩:=aK ((Pol.Ik b7 k).getD j 0);have c1:=ho.aR j (by omega);have f1:=ho.KZ j;rw[<-hx]at c1 P;have g6:=ae P;clear ho hb I P hj hx;go_wp2
     go_roundw
     case rel=>
      refine⟨k+1,by omega,by go_num,?_,HB.o.setCell o4 _⟩;rw[g6.o];have e:=CG x 252;rw[show(((252:UInt8).toNat:Nat):Int)=252 from rfl]at e;rw[e];exact z.o.MN j _
     case measure=>simp[intOf];omega
    ·have o6:k=3:=by omega
     rw[o6,HQ.o,Pol.Ak _ a8.o]at ho;obtain⟨m,hm⟩:=aK (Pol.Ij J);have f5:m.length=16:=by rw[hm,<-Pol.Ak _ a8.o,Pol.uR,Pol.pZ];exact a8.o
     rw[<-hm]at ho;have O3:=ae ho;have B3:=ae hb;have HM:=ae hm;have A3:=ae f5;obtain⟨R,hR⟩:∃R,Pol.wJ (Pol.pA (m.take 16)+0*340282366920938463463374607431768211456)=R:=⟨_,rfl⟩
     have i3:m.take 16=m:=bK (by omega);have l5:R.val=Pol.pA m:=by rw[<-hR,Pol.xM,i3];omega
     have i4:=Pol.xV m;rw[f5]at i4;have l4:∀j,Pol.eQ (cT R) j<=67108864:=by
      have h:=Pol.xN (Pol.pA (m.take 16)+0*340282366920938463463374607431768211456) (by rw[i3];simp at i4;omega);have h1:R.a1<67108864:=by rw[<-hR];simp only[Pol.wJ];omega
      rw[hR]at h;intro j
      match j with
      |0=>show R.a0<=_;have:=h.h0;omega
      |1=>show R.a1<=_;omega
      |2=>show R.a2<=_;have:=h.h2;omega
      |3=>show R.a3<=_;have:=h.h3;omega
      |4=>show R.a4<=_;have:=h.h4;omega
      |j+5=>simp[Pol.eQ,cT]
     have G:=λw' h=>um g 0 16 gc m 0 w' R (by decide) (by omega) f5 h hR;obtain⟨r0,r1,l,o,p⟩:=R;dsimp only at G;have t4:=ae G;have u3:=ae l5;have k5:=ae l4;clear ho hb I o6 hm f5 hR i3 l5 i4 l4 G;go_wp2_with fail
     refine(t4.o _ O3.o.rd).m ?_;rintro e w4 ⟨rfl,n1⟩;have B4:=ae (B3.o.t (n1.m B3.o.size));clear n1;go_wp2_with fail
     obtain⟨w5,e4⟩:=aK ((w4.alloc (.cells #[.int .u64 r0,.int .u64 r1,.int .u64 l,.int .u64 o,.int .u64 p] 232)).alloc (.cells #[.int .u64 0,.int .u64 0,.int .u64 0,.int .u64 0,.int .u64 0] 232));rw[<-e4];have i8:w5.heap[w4.heap.size]?=de (.cells #[.int .u64 (r0:Int),.int .u64 (r1:Int),.int .u64 (l:Int),.int .u64 (o:Int),.int .u64 (p:Int)] 232 (0,0)):=by rw[e4];exact gT _ _ _
     have f0:w5.heap[w4.heap.size+1]?=de (.cells #[.int .u64 ((0:Nat):Int),.int .u64 ((0:Nat):Int),.int .u64 ((0:Nat):Int),.int .u64 ((0:Nat):Int),.int .u64 ((0:Nat):Int)] 232 (0,0)):=by rw[e4];exact gl _ _ _
     have hb5:dd w.heap.size w w5:=by rw[e4];exact(B4.o.alloc B4.o.size _).alloc (by have:=B4.o.size;simp;omega) _
     have s4:=B4.o.size;obtain⟨E,n5⟩:=aK w4.heap.size;obtain⟨a,i0⟩:=aK (E+1);have B0:w.heap.size<=E:=by omega
     rw[<-n5]at i8 f0|-;rw[<-i0]at f0|-;obtain⟨Tg,h7⟩:=aK (Pol.acc (Pol.pA m) data);have m7:Pol.rI (Pol.L5.val ⟨r0,r1,l,o,p⟩) data.length (Pol.L5.val ⟨0,0,0,0,0⟩%Pol.P) data=Tg:=by rw[h7,u3.o];rfl
     have u2:=ae i8;have q7:=ae f0;have r4:=ae hb5;have u9:=ae h7;have q8:=ae m7;have x8:E<a:=by omega
     have A0:=ae i0;clear e4 i8 f0 hb5 h7 m7 n5 i0 s4;go_loopw [1] (λv wr=>∃(a0 a1 a2 a3 a4:Nat) (rest:List UInt8),Rd w v rest/\rest.length<=4000/\wr.heap[a]?=de (.cells #[.int .u64 (a0:Int),.int .u64 (a1:Int),.int .u64 (a2:Int),.int .u64 (a3:Int),.int .u64 (a4:Int)] 232 (0,0))/\wr.heap[E]?=de (.cells #[.int .u64 (r0:Int),.int .u64 (r1:Int),.int .u64 (l:Int),.int .u64 (o:Int),.int .u64 (p:Int)] 232 (0,0))/\Pol.Fq ⟨a0,a1,a2,a3,a4⟩/\Hid (Pol.rI (Pol.L5.val ⟨r0,r1,l,o,p⟩) rest.length (Pol.L5.val ⟨a0,a1,a2,a3,a4⟩%Pol.P) rest=Tg)/\dd w.heap.size w wr)
      (λv _=>zL v)
     case atStart=>exact⟨0,0,0,0,0,data,HD.o,r9.o,q7.o,u2.o,⟨by decide,by decide,by decide,by decide,by decide⟩,q8,r4.o⟩
     case round=>
      obtain⟨a0,a1,a2,a3,a4,rest,e3,z1,d,hr,d4,j8,hb⟩:=hrel;have g9:=ae e3;have b8:=ae d;have k6:=ae hr;have d8:=ae hb;have C8:a0<67108864:=d4.h0;have C9:a1<67110912:=d4.h1;have D0:a2<67108864:=d4.h2;have D1:a3<67108864:=d4.h3;have D2:a4<67108864:=d4.h4;obtain⟨n,hn⟩:∃n,rest.length=n:=⟨_,rfl⟩
      obtain⟨da,dc,y8,B6,B9⟩:=e3.fB n hn;subst y8;rw[hn]at z1;have A:=ae hn;clear e3 hn d4;by_cases o8:n=0
      ·subst o8;have p8:rest=[]:=List.length_eq_zero_iff.mp A.o;have l8:Pol.L5.val ⟨a0,a1,a2,a3,a4⟩%Pol.P=Tg:=by
        have h:=j8.o;rw[p8,Pol.ml]at h;exact h
       obtain⟨X,hX⟩:∃X,Pol.whole ⟨a0,a1,a2,a3,a4⟩=X:=⟨_,rfl⟩
       have I:Pol.Fq (Pol.carry ⟨a0,a1,a2,a3,a4⟩):=Pol.xm _ (by show a0<=_;omega) (by show a1<=_;omega) (by show a2<=_;omega) (by show a3<=_;omega) (by show a4<=_;omega);have m0:X.val=Tg:=by rw[<-hX,Pol.Dx _ I,l8]
       have l9:Pol.Fq X:=by rw[<-hX];exact Pol.Dy _ I
       have j3:=λw'=>IY ⟨a0,a1,a2,a3,a4⟩ X w' (by
        intro j
        match j with
        |0=>show a0<=_;omega
        |1=>show a1<=_;omega
        |2=>show a2<=_;omega
        |3=>show a3<=_;omega
        |4=>show a4<=_;omega
        |j+5=>simp[Pol.eQ,cT]) I hX
       obtain⟨b0,f7⟩:=aK ((key.drop 16).take 16);have j0:b0.length=16:=by rw[f7,aM,cO,t1.o];rfl
       have i7:=HK.o.NQ 16 16 (by decide) (by decide);rw[<-f7]at i7;obtain⟨Y,hY⟩:∃Y,Pol.wJ (Pol.pA (b0.take 16)+0*340282366920938463463374607431768211456)=Y:=⟨_,rfl⟩
       have i9:b0.take 16=b0:=bK (by omega);have m2:Y.val=Pol.pA b0:=by rw[<-hY,Pol.xM,i9];omega
       have h9:=Pol.xV b0;rw[j0]at h9;have m1:Pol.Fq Y:=by rw[<-hY];exact Pol.xN _ (by rw[i9];simp at h9;omega)
       have G:=λw' h=>um kb (ko+16) 16 (kc-16) b0 0 w' Y (by decide) (by omega) j0 h hY;obtain⟨Q,U,V,Z,x4⟩:=X;obtain⟨y0,y1,y2,y3,y4⟩:=Y;dsimp only at j3 G;have v4:=ae j3;have t3:=ae G;have u0:=ae i7;have v6:=ae m0;have v5:=ae l9;have v8:=ae m2;have v7:=ae m1;have p7:wr.rangeAt a 0 [.int .u64 (a0:Int),.int .u64 a1,.int .u64 a2,.int .u64 a3,.int .u64 a4]:=bu d;have hmk:∀W:ax,(Instr.makeSlice 24 (0:Int) (16:Int)).run ed W= .ok (.slice (W.heap.size,0) 0 16) (W.alloc (.cells (Array.replicate 16 (.int .u8 0)) 5)):=λ_=>by kernel_rfl
       have u4:=ae f7;clear p8 l8 hX I m0 l9 j3 f7 j0 i7 hY i9 m2 h9 m1 G d hr hb;go_wp2_with (first
        |(refine cM rfl 232 (.tmp 11) rfl a 0 rfl [.int .u64 (a0:Int),.int .u64 a1,.int .u64 a2,.int .u64 a3,.int .u64 a4] _ p7 Tryz.underlying232 rfl MM ?_)
        |(go_at_call 140;go_must (refine(v4.o _).m ?_);rintro e w9 ⟨rfl,e0⟩;have a7:=ae e0;clear e0)
        |(show wpList _ _ _ ({dst:=dl,op:= .store _ (.tmp 11) _,type:=_,pos:=_,after:=_,guard:=_}::_) _ _
          go_must (refine bz rfl 232 (.tmp 11) (.tmp 82) rfl a 0 #[.int .u64 (Q:Int),.int .u64 U,.int .u64 V,.int .u64 Z,.int .u64 x4] rfl rfl ?_ ?_ ?_ ?_)
          go_must (exact dr ((a7.o.block a (hF b8.o)).t b8.o) rfl)
          go_must (exact MM)
          go_must (first|(simp[Value.oneCell'];done)|exact dx (by intro v hv;simp only[dF,List.not_mem_nil,or_false]at hv;rcases hv with rfl|rfl|rfl|rfl|rfl<;>rfl))
          go_must (generalize hW:World.setCells _ _ _ _=j6)
          go_must (have HW:=ae hW;have g0:=ae (show dd w.heap.size w j6 by rw[<-hW];exact bp (by omega) _ _ _ (d8.o.t (a7.o.m d8.o.size)));have j7:=ae (show j6.heap[a]?=de (.cells #[.int .u64 (Q:Int),.int .u64 U,.int .u64 V,.int .u64 Z,.int .u64 x4] 232 (0,0)) by rw[<-hW];exact dI ((a7.o.block a (hF b8.o)).t b8.o) rfl);clear hW))
        |(go_at_call 138;go_must (refine(t3.o _ (u0.o.stay g0.o)).m ?_);rintro e f9 ⟨rfl,m8⟩;have j9:=ae m8;clear m8))
       have c6:=g0.o.t (j9.o.m g0.o.size);have h0:=(j9.o.block a (hF j7.o)).t j7.o;have z8:=c6.size;have j5:=hF h0;obtain⟨d7,d6⟩:∃d7,d7=(f9.alloc (.cells #[.int .u64 (y0:Int),.int .u64 y1,.int .u64 y2,.int .u64 y3,.int .u64 y4] 232)).alloc (.cells (Array.replicate 16 (.int .u8 0)) 5):=⟨_,rfl⟩
       rw[<-d6];obtain⟨bs,d1⟩:=aK f9.heap.size;obtain⟨vo,j2⟩:=aK (Value.slice (bs+1,0) 0 16);have m3:ky d7 a 232 [Q,U,V,Z,x4]:=by rw[d6];exact(bC _ _ _ (by simp;omega)).t ((bC _ _ _ j5).t h0)
       have q0:ky d7 bs 232 [y0,y1,y2,y3,y4]:=by rw[d6,d1];exact gT _ _ _
       have p0:Own d7 (bs+1) vo []:=by
        rw[d6,j2,d1];have e:(f9.alloc (.cells #[.int .u64 (y0:Int),.int .u64 y1,.int .u64 y2,.int .u64 y3,.int .u64 y4] 232)).heap.size=f9.heap.size+1:=by simp
        rw[<-e];exact Own.made _ _ _ 16 (ag _) (by decide) rfl
       have m9:dd w.heap.size w d7:=by rw[d6];exact(c6.alloc c6.size _).alloc (by have:=c6.size;simp;omega) _
       have B5:w.heap.size<=bs:=by rw[d1];exact c6.size
       have A9:a<bs:=by rw[d1];exact j5
       rw[<-d1,<-j2];obtain⟨f,hf⟩:∃f:Nat->Nat,f=λj=>Pol.eQ [Q,U,V,Z,x4] j+Pol.eQ [y0,y1,y2,y3,y4] j:=⟨_,rfl⟩
       have o0:∀j,f j<=134221824:=by
        have h:=v5.o;have h':=v7.o;have a1:=h.h0;have a2:=h.h1;have a3:=h.h2;have a4:=h.h3;have a5:=h.h4;have b1:=h'.h0;have b2:=h'.h1;have b3:=h'.h2;have b4:=h'.h3;have b5:=h'.h4;dsimp only at a1 a2 a3 a4 a5 b1 b2 b3 b4 b5;intro j;rw[hf]
        match j with
        |0=>show Q+y0<=_;omega
        |1=>show U+y1<=_;omega
        |2=>show V+y2<=_;omega
        |3=>show Z+y3<=_;omega
        |4=>show x4+y4<=_;omega
        |j+5=>simp[Pol.eQ]
       have o1:Pol.part f 5=Tg+Pol.pA b0:=by
        rw[<-v6.o,<-v8.o,hf];simp only[Pol.part,Pol.eQ,Pol.L5.val,List.getD_cons_zero,List.getD_cons_succ];omega
       have q5:=ae m3;have w0:=ae q0;have v9:=ae p0;have q6:=ae m9;have HF:=ae hf;have e6:=ae o0;have s5:=ae o1;clear m3 q0 p0 m9 hf o0 o1 d6 d1 j2 h0 c6 z8 j5 p7 hmk;go_loopw [17,18,19,20,87] (λvo vs vb vn vi wr=>∃k N:Nat,k<=5/\N<=16/\8*N<=26*k/\(26*k<8*N+8\/N=16)/\vi= .int .i64 k/\vn= .int .i64 N/\vb= .int .u64 ((26*k-8*N:Nat):Int)/\vs= .int .u64 ((Pol.part f k/256^N:Nat):Int)/\Own wr (bs+1) vo (Pol.qU N (Pol.part f k))/\ky wr a 232 [Q,U,V,Z,x4]/\ky wr bs 232 [y0,y1,y2,y3,y4]/\dd w.heap.size w wr)
        (λ_ _ _ _ i _=>5-(intOf i).toNat)
       case atStart=>exact⟨0,0,by omega,by omega,by omega,.inl (by omega),rfl,rfl,rfl,by simp[Pol.part],v9.o,q5.o,w0.o,q6.o⟩
       case round=>
        obtain⟨k,N,hk,H,h8,z0,rfl,rfl,rfl,rfl,ho,d,hs,hb⟩:=hrel;have z:=ae ho;have r3:=ae d;have u7:=ae hs;have k3:=ae hb;by_cases hlt:k<5
        ·have C7:26*k<8*N+8:=by omega
         obtain⟨B,F⟩:=aK (26*k-8*N);have A4:B<8:=by omega
         obtain⟨L,O⟩:=aK (Pol.part f k/256^N);have x5:L<1024:=by
          have h:=Pol.pT f e6.o k N h8;rw[<-O,<-F]at h;have h2:2^B<=2^7:=nM (by decide) (by omega);omega
         obtain⟨x,hx⟩:=aK (Pol.eQ [Q,U,V,Z,x4] k);obtain⟨y,hy⟩:=aK (Pol.eQ [y0,y1,y2,y3,y4] k);have j4:f k=x+y:=by rw[HF.o,hx,hy]
         have D8:x+y<=134221824:=by rw[<-j4];exact e6.o k
         have c1:=d.cell k hlt;rw[show([Q,U,V,Z,x4]:List Nat).getD k 0=x from hx.symm]at c1;have c2:=hs.cell k hlt;rw[show([y0,y1,y2,y3,y4]:List Nat).getD k 0=y from hy.symm]at c2;have l1:Pol.part f (k+1)/256^N=L+(x+y)*2^B:=by
          rw[Pol.part,j4,Pol.JL _ _ _ _ h8,<-O,<-F]
         have h6:Pol.qU N (Pol.part f (k+1))=Pol.qU N (Pol.part f k):=by
          rw[Pol.part,Pol.JO _ _ _ _ h8]
         obtain⟨S,hS⟩:=aK ((x+y)*2^B);obtain⟨M,hM⟩:=aK (L+S);have e9:Pol.part f (k+1)/256^N=M:=by rw[l1,hM,hS]
         have A6:M<68719476736:=by
          have h:=Pol.pT f e6.o (k+1) N (by omega);rw[e9]at h;have h2:2^(26*(k+1)-8*N)<=2^34:=nM (by decide) (by omega);omega
         have z5:IntKind.u64.wrap (((x:Int)+(y:Int))*2^B)=(S:Int):=by
          rw[show((x:Int)+(y:Int))*2^B=(S:Int) by rw[hS,Int.natCast_mul,Int.natCast_add,Int.natCast_pow];rfl];exact IntWalk.u64_in _ (by omega)
         have z6:IntKind.u64.wrap ((L:Int)+(S:Int))=(M:Int):=by
          rw[show(L:Int)+(S:Int)=(M:Int) by omega];exact IntWalk.u64_in _ (by omega)
         rw[<-O,<-F];obtain⟨T,hT⟩:=aK (Pol.part f (k+1));rw[<-hT]at e9 h6;have l7:∀n,26*(k+1)<=8*n+34->8*n<=26*(k+1)->T/256^n<68719476736:=λn h1 h2=>by
          have h:=Pol.pT f e6.o (k+1) n h2;rw[<-hT]at h;have h3:2^(26*(k+1)-8*n)<=2^34:=nM (by decide) (by omega);omega
         have t2:=ae e9;have t6:=ae (show Own (wr) (bs+1) _ (Pol.qU N T) by rw[h6];exact ho);have r5:=ae F;have HT:=ae hT;have u8:=ae l7;clear ho d hs hb O hx hy j4 l1 h6 z0 F hS hM e9 hT l7;have y6:decide ((k:Int)<5)=dE:=by rw[ap];omega
         go_wp2_with fail
         go_quiet (fail)
         clear z5 z6 c1 c2 y6;go_wp2_with fail
         go_loopw [17,18,19,20] (λvo vs vb vn wr=>∃N:Nat,N<=16/\8*N<=26*(k+1)/\26*(k+1)<=8*N+34/\vn= .int .i64 N/\vb= .int .u64 ((26*(k+1)-8*N:Nat):Int)/\vs= .int .u64 ((T/256^N:Nat):Int)/\Own wr (bs+1) vo (Pol.qU N T)/\ky wr a 232 [Q,U,V,Z,x4]/\ky wr bs 232 [y0,y1,y2,y3,y4]/\dd w.heap.size w wr)
          (λ_ _ _ n _=>16-(intOf n).toNat)
         case atStart=>
          refine⟨N,H,by omega,by omega,rfl,?_,by rw[t2.o],t6.o,r3.o,u7.o,below_drewN k3.o nq⟩;have:=r5.o;congr 1;omega
         case round=>
          obtain⟨N,H,h8,x0,rfl,rfl,rfl,ho,d,hs,hb⟩:=hrel;have z:=ae ho;have g1:=ae d;have e7:=ae hs;have g5:=ae hb;obtain⟨B,F⟩:=aK (26*(k+1)-8*N);obtain⟨L,O⟩:=aK (T/256^N);have x5:L<68719476736:=by rw[O];exact u8.o N x0 h8
          have A5:B<=34:=by omega
          rw[<-F,<-O];have b9:=ae F;have c5:=ae O;clear ho d hs hb O;by_cases d0:8<=B
          ·have x9:decide ((8:Int)<=(B:Int))=dE:=by rw[ap];omega
           by_cases o9:N<16
           ·have y7:decide ((N:Int)<16)=dE:=by rw[ap];omega
            clear F;have z4:bs+1<=wr.heap.size:=by have:=hF e7.o;omega
            go_wp2_with (at_builtin;refine uZ rfl (.tmp 111) (.tmp 114) rfl (bs+1) _ _ (Pol.qU N T) [UInt8.ofNat L] rfl (z.o.alloc _) rfl (zF _ _ _ (by rw[bM];omega)) (by rw[Pol.jy];simp;omega) (by simp;omega) ?_;intro v3 w3 p1 o3;have t7:=ae p1;have s6:=ae o3;clear p1 o3)
            have n6:dd (bs+1) wr w3:=((aj (bs+1) wr).alloc z4 _).grown s6.o (by simp;omega) (λj hj=>(z.o.lt j hj).1);have g3:=ae n6;clear n6;go_roundw
            case rel=>
             refine⟨N+1,by omega,?_,?_,by go_num,?_,?_,?_,(g3.o.block a (by omega)).t g1.o,(g3.o.block bs (by omega)).t e7.o,g5.o.t (g3.o.m (by omega))⟩
             ·have:=b9.o;omega
             ·have:=b9.o;omega
             ·have:=b9.o;congr 1;omega
             ·congr 1;rw[mu,<-Nat.div_div_eq_div_mul,<-c5.o];rfl
             ·rw[Pol.uB,<-c5.o];exact t7.o
            case measure=>simp[intOf];omega
           ·have y7:decide ((N:Int)<16)=dT:=by rw[ah];omega
            clear F;go_wp2_with fail
            go_roundw
            case rel=>
             rw[HT.o]at z c5;exact⟨k+1,N,by omega,H,h8,.inr (by omega),by go_num,rfl,by rw[b9.o],by rw[c5.o],z.o,g1.o,e7.o,g5.o⟩
            case measure=>simp[intOf];omega
          ·have x9:decide ((8:Int)<=(B:Int))=dT:=by rw[ah];omega
           clear F;go_wp2_with fail
           go_roundw
           case rel=>
            rw[HT.o]at z c5;refine⟨k+1,N,by omega,H,h8,.inl ?_,by go_num,rfl,by rw[b9.o],by rw[c5.o],z.o,g1.o,e7.o,g5.o⟩;have:=b9.o;omega
           case measure=>simp[intOf];omega
        ·have f4:k=5:=by omega
         have x6:N=16:=by omega
         rw[f4,x6,s5.o]at ho;have t8:=ae ho;clear ho d hs hb;go_wp2_with fail
         go_ret
         refine⟨_,rfl,?_,k3.o⟩;have h:=t8.o.m (show w.heap.size<=bs+1 by omega);rw[u9.o,HM.o,t0.o,u4.o]at h;exact h
      obtain⟨db,k8,rfl⟩:∃db k8,da=de ⟨db,k8,dl⟩:=by
       obtain⟨b,off,c,e,_⟩:=g9.o.gL n A.o (by omega);injection e with e1 _ _;exact⟨b,off,e1⟩
      obtain⟨K,T,x2⟩:∃K T:Nat,(16<=n/\16=K/\1=T)\/(¬16<=n/\n=K/\0=T):=by
       by_cases h:16<=n
       ·exact⟨_,_,.inl ⟨h,rfl,rfl⟩⟩
       ·exact⟨_,_,.inr ⟨h,rfl,rfl⟩⟩
      have a9:=ae x2;have x1:K<=16:=by omega
      have x3:min 16 n=K:=by omega
      obtain⟨ch,d2⟩:=aK (rest.take 16);have b6:ch.length=K:=by rw[d2,aM,A.o];omega
      obtain⟨a6,c8⟩:∃B,B=ch++(1::List.replicate (16-K) (0:UInt8)):=⟨_,rfl⟩
      have d9:a6.length=17:=by rw[c8];simp only[aD,aZ,ng,b6]<;>omega
      have q2:a6.getD 16 0=UInt8.ofNat T:=by
       rw[c8];simp only[au];rw[bF (by omega),b6];rcases a9.o with⟨h,rfl,rfl⟩|⟨h,rfl,rfl⟩
       ·rfl
       ·have e:16-n=(15-n)+1:=by omega
        rw[e,List.getElem?_cons_succ,lK,ar (by omega)];rfl
      have e8:(a6.take 16).length=16:=by rw[aM,d9];rfl
      have h4:Pol.pA ((a6.take 16).take 16)+T*340282366920938463463374607431768211456=Pol.pA ch+256^(min 16 rest.length):=by
       rw[A.o,iS,Nat.min_self,c8,x3];rcases a9.o with⟨h,rfl,rfl⟩|⟨h,rfl,rfl⟩
       ·rw[gu (by omega),bK (by omega)]
       ·rw[List.take_append,bK (by omega),Pol.uA,b6];have e:16-n=(15-n)+1:=by omega
        rw[e,bH,Pol.pA,List.take_replicate,Pol.sh];simp
      have l3:Pol.pA ch+256^(min 16 rest.length)<1361129467683753853853498429727072845824:=by
       rw[<-h4];have:=Pol.xV ((a6.take 16).take 16);rw[iS,Nat.min_self,e8]at this;rw[iS,Nat.min_self];simp at this;omega
      obtain⟨N,H⟩:∃N,Pol.wJ (Pol.pA ch+256^(min 16 rest.length))=N:=⟨_,rfl⟩
      have c9:=Pol.xN _ l3;rw[H]at c9;have l2:N.a1<67108864:=by rw[<-H];simp only[Pol.wJ];omega
      obtain⟨D,n4⟩:=aK wr.heap.size;have G:=λw' h=>Gs D 0 16 17 (a6.take 16) T (IntKind.u64.wrap ((T:Nat):Int)) (by rcases a9.o with⟨h,rfl,rfl⟩|⟨h,rfl,rfl⟩<;>decide) w' N (by rcases a9.o with⟨h,rfl,rfl⟩|⟨h,rfl,rfl⟩<;>decide) (by rw[e8];decide) e8 h (by rw[h4];exact H);obtain⟨n0,q,r,s,t⟩:=N;have o8:n0<67108864:=c9.h0;have D3:q<67108864:=l2;have D4:r<67108864:=c9.h2;have D5:s<67108864:=c9.h3;have D6:t<67108864:=c9.h4;dsimp only at G;have i1:=λk hk W=>BK ⟨n0,q,r,s,t⟩ k hk W;dsimp only at i1;obtain⟨S,hS⟩:=aK (Pol.plus ⟨a0,a1,a2,a3,a4⟩ ⟨n0,q,r,s,t⟩);have hSl:∀j,Pol.eQ (cT S) j<=134221824:=by
       rw[hS];intro j
       match j with
       |0=>show a0+n0<=_;omega
       |1=>show a1+q<=_;omega
       |2=>show a2+r<=_;omega
       |3=>show a3+s<=_;omega
       |4=>show a4+t<=_;omega
       |j+5=>simp[Pol.eQ,cT,Pol.plus]
      have l6:Pol.vN [a0,a1,a2,a3,a4] [n0,q,r,s,t] 5=cT S:=by rw[hS];rfl
      obtain⟨C,hC⟩:=aK (Pol.carry (Pol.mul S ⟨r0,r1,l,o,p⟩));have l0:C.val%Pol.P=(Pol.L5.val ⟨a0,a1,a2,a3,a4⟩%Pol.P+(Pol.pA ch+256^(min 16 rest.length)))*Pol.L5.val ⟨r0,r1,l,o,p⟩%Pol.P:=by
       rw[hC,hS,<-H];exact Pol.DW _ _ _
      have k9:Pol.Fq C:=by
       rw[hC];have d5:=Pol.ur (cT S) (cT ⟨r0,r1,l,o,p⟩) [0,0,0,0,0] rfl hSl k5.o (by intro j;match j with|0|1|2|3|4=>decide|j+5=>simp[Pol.eQ]) 5 (by decide);rw[Pol.zG]at d5;refine Pol.xm _ ?_ ?_ ?_ ?_ ?_
       ·have:=d5 0;simp only[Pol.eQ,cT]at this;simp at this;omega
       ·have:=d5 1;simp only[Pol.eQ,cT]at this;simp at this;omega
       ·have:=d5 2;simp only[Pol.eQ,cT]at this;simp at this;omega
       ·have:=d5 3;simp only[Pol.eQ,cT]at this;simp at this;omega
       ·have:=d5 4;simp only[Pol.eQ,cT]at this;simp at this;omega
      have j1:=λw'=>Jk S ⟨r0,r1,l,o,p⟩ C w' hSl k5.o hC.symm;have m6:Pol.rI (Pol.L5.val ⟨r0,r1,l,o,p⟩) (rest.drop 16).length (C.val%Pol.P) (rest.drop 16)=Tg:=by
       rw[<-j8.o,Pol.Fl _ _ rest (by intro h;rw[h]at A;have:=A.o;simp at this;omega),l0,d2]
      obtain⟨s0,s1,s2,s3,s4⟩:=S;obtain⟨c0,c1,c2,c3,c4⟩:=C;dsimp only at j1;have t5:=ae G;have s9:=ae i1;have u5:=ae l6;have v0:=ae j1;have q9:=ae m6;have r6:=ae k9;have A1:=ae d2;have A2:=ae b6;have z9:=ae c8;have k0:=ae d9;have v2:=ae q2;have g2:=ae n4;have z7:([.int .u8 0,.int .u8 0,.int .u8 0,.int .u8 0,.int .u8 0,.int .u8 0,.int .u8 0,.int .u8 0,.int .u8 0,.int .u8 0,.int .u8 0,.int .u8 0,.int .u8 0,.int .u8 0,.int .u8 0,.int .u8 0,.int .u8 0]:List bd).length=17:=rfl;have n7:∀(w':ax),w'.heap[D]?=de (.cells ((rest.take 16).map fs++([.int .u8 0,.int .u8 0,.int .u8 0,.int .u8 0,.int .u8 0,.int .u8 0,.int .u8 0,.int .u8 0,.int .u8 0,.int .u8 0,.int .u8 0,.int .u8 0,.int .u8 0,.int .u8 0,.int .u8 0,.int .u8 0,.int .u8 0]:List bd).drop K).toArray 234 (0,0))->(∃u,w'.cell? (D,K)=de u)/\w'.frozen? (D,K)=dT/\
        (w'.setCell (D,K) (.int .u8 1)).heap[D]?=de (.cells (a6.map fs).toArray 234 (0,0)):=λw' h=>by
       have hlen:((rest.take 16).map fs++([.int .u8 0,.int .u8 0,.int .u8 0,.int .u8 0,.int .u8 0,.int .u8 0,.int .u8 0,.int .u8 0,.int .u8 0,.int .u8 0,.int .u8 0,.int .u8 0,.int .u8 0,.int .u8 0,.int .u8 0,.int .u8 0,.int .u8 0]:List bd).drop K).length=17:=by rw[aD,aY,<-d2,b6,cO];simp<;>omega
       refine⟨⟨_,uS h K (by rw[dL,hlen];omega)⟩,aO h K,?_⟩;rw[aB h];congr 2;apply Array.ext (by rw[Array.size_setIfInBounds,dL,dL,hlen,aY,d9]);intro j h1 h2;have hj:j<17:=by rw[dL,aY,d9]at h2;exact h2
       rw[Array.getElem_setIfInBounds (by rw[dL,hlen];exact hj)];simp only[List.getElem_toArray,c8,<-d2];exact MR ch K b6 x1 j hj
      have r7:=ae n7;clear b6 c8 d9 q2 e8 h4 l3 H c9 l2 G i1 hS hSl l6 hC l0 k9 j1 m6 d2 n4 z7 n7 d hr hb;by_cases n8:dc=K;all_goals
       have y5:=ae n8;clear n8;go_wp2_with (refine Nv rfl (.tmp 57) (.tmp 58) rfl wr.heap.size rfl _ rest rfl ((g9.o.stay d8.o).alloc _) [.int .u8 0,.int .u8 0,.int .u8 0,.int .u8 0,.int .u8 0,.int .u8 0,.int .u8 0,.int .u8 0,.int .u8 0,.int .u8 0,.int .u8 0,.int .u8 0,.int .u8 0,.int .u8 0,.int .u8 0,.int .u8 0,.int .u8 0] (aL wr _) rfl K (by rw[A.o];omega) ?_;rw[<-g2.o];intro w6 p9 n2;have P6:=ae (r7.o w6 p9);have k1:=ae n2;obtain⟨⟨E0,w2⟩,fst,_⟩:=P6.o;clear p9 n2)
       have f8:=P6.o.2.2;have e2:dd wr.heap.size wr (w6.setCell (D,K) (.int .u8 1)):=by
        rw[<-g2.o];exact(((aj D wr).alloc (by rw[g2.o];exact ag _) _).t k1.o).setCell (ag _) _
       generalize x7:w6.setCell (D,K) (.int .u8 1)=w7 at f8 e2|-;have n3:=d8.o.t (e2.m d8.o.size);have m4:=(e2.block a (hF b8.o)).t b8.o;have p5:=(e2.block E (hF k6.o)).t k6.o;have p3:Rd w7 (.slice (D,0) 16 17) (a6.take 16):=Jv f8 k0.o;have c7:w7.cell? (D,16)=de (.int .u8 ((T:Nat):Int)):=ej f8 16 (by
        rw[nh,fL];have h:=v2.o;rw[au]at h;rw[aC (by rw[k0.o];decide)]at h|-;simp only[nk]at h;rw[eH,h];rcases a9.o with⟨-,-,rfl⟩|⟨-,-,rfl⟩<;>rfl)
       have A7:=ae m4;have R7:=ae p5;have k7:=ae p3;have B7:=ae n3;clear f8 e2 n3 m4 p5 p3 x7 w2 fst P6 k1;go_region_with (go_at_call 138;refine(t5.o _ (k7.o.drewN 1)).m ?_;rintro e w8 ⟨rfl,d0⟩;have k2:=ae d0;clear d0)
       have f2:dd w7.heap.size w7 w8:=((aj _ w7).drew).t k2.o;have d0:=B7.o.t (f2.m B7.o.size);have m5:ky w8 a 232 [a0,a1,a2,a3,a4]:=(f2.block a (hF A7.o)).t A7.o;have p6:=(f2.block E (hF R7.o)).t R7.o;have A8:=ae m5;have R8:=ae p6;have B8:=ae d0;clear k2 f2 d0 m5 p6 A7 R7 k7 B7 c7;go_wp2_with fail
       go_loopw [67] (λi wd=>∃k:Nat,k<=5/\i= .int .i64 k/\ky wd a 232 (Pol.vN [a0,a1,a2,a3,a4] [n0,q,r,s,t] k)/\wd.heap[E]?=de (.cells #[.int .u64 (r0:Int),.int .u64 (r1:Int),.int .u64 (l:Int),.int .u64 (o:Int),.int .u64 (p:Int)] 232 (0,0))/\dd w.heap.size w wd) (λi _=>5-(intOf i).toNat)
       case atStart=>exact⟨0,by omega,rfl,A8.o,R8.o,B8.o⟩
       case round=>
        obtain⟨k,hk,rfl,d,hr,hb⟩:=hrel;have r2:=ae d;have g8:=ae hr;have g4:=ae hb;by_cases hlt:k<5
        ·obtain⟨x,hx⟩:=aK (Pol.eQ [a0,a1,a2,a3,a4] k);obtain⟨y,hy⟩:=aK (Pol.eQ [n0,q,r,s,t] k);have hi:=s9.o k hlt;rw[show Pol.eQ (cT ⟨n0,q,r,s,t⟩) k=y from hy.symm]at hi;have D7:x<=67110912:=by
          rw[hx];have h5:k=0\/k=1\/k=2\/k=3\/k=4:=by omega
          rcases h5 with rfl|rfl|rfl|rfl|rfl
          ·show a0<=_;omega
          ·show a1<=_;omega
          ·show a2<=_;omega
          ·show a3<=_;omega
          ·show a4<=_;omega
         have D9:y<=67108864:=by
          rw[hy];have h5:k=0\/k=1\/k=2\/k=3\/k=4:=by omega
          rcases h5 with rfl|rfl|rfl|rfl|rfl
          ·show n0<=_;omega
          ·show q<=_;omega
          ·show r<=_;omega
          ·show s<=_;omega
          ·show t<=_;omega
         have c1:=d.cell k (by rw[Pol.sE];exact hlt);have f1:=aO d k;have q4:(Pol.vN [a0,a1,a2,a3,a4] [n0,q,r,s,t] k).getD k 0=x:=by
          rw[hx];exact Pol.Kq _ _ k (by simp;omega) k (ag _)
         rw[q4]at c1;have q1:Pol.vN [a0,a1,a2,a3,a4] [n0,q,r,s,t] (k+1)=(Pol.vN [a0,a1,a2,a3,a4] [n0,q,r,s,t] k).set k (x+y):=by rw[hx,hy];rfl
         have u6:=ae q1;clear d hr hb hx hy q4 q1;go_wp2
         go_roundw
         case rel=>
          refine⟨k+1,by omega,by go_num,?_,(aA _ _ (by omega)).t g8.o,g4.o.setCell (by show w.heap.size<=a;omega) _⟩;rw[u6.o];exact r2.o.set k (x+y)
         case measure=>simp[intOf];omega
        ·have f4:k=5:=by omega
         rw[f4,u5.o]at d;have z3:wr.rangeAt a 0 [.int .u64 (s0:Int),.int .u64 s1,.int .u64 s2,.int .u64 s3,.int .u64 s4]:=bu d;have e3:wr.rangeAt E 0 [.int .u64 (r0:Int),.int .u64 r1,.int .u64 l,.int .u64 o,.int .u64 p]:=bu hr;have e5:=ae d;clear d hr hb f4;have d3:=y5.o;have r8:=ae (show Rd _ _ (rest.drop 16)from by
          have h:=g9.o.cut K n (by have:=a9.o;omega) (ag _);rw[show(rest.take n).drop K=rest.drop 16 by
           rw[bK (by rw[A.o];exact ag _)];rcases a9.o with⟨h,rfl,-⟩|⟨h,rfl,-⟩
           ·rfl
           ·rw[mz (by rw[A.o];omega),mz (by rw[A.o];omega)]]at h
          exact h)
         rcases a9.o with⟨o9,rfl,rfl⟩|⟨o9,rfl,rfl⟩
         all_goals try have C2:(n:Int)<16:=by omega
         all_goals
          go_wp2_with (first
           |(refine cM rfl 232 (.tmp 11) rfl a 0 rfl [.int .u64 (s0:Int),.int .u64 s1,.int .u64 s2,.int .u64 s3,.int .u64 s4] _ z3 Tryz.underlying232 rfl MM ?_)
           |(refine cM rfl 232 (.tmp 10) rfl E 0 rfl [.int .u64 (r0:Int),.int .u64 r1,.int .u64 l,.int .u64 o,.int .u64 p] _ e3 Tryz.underlying232 rfl MM ?_)
           |(go_at_call 139;go_must (refine(v0.o _).m ?_);rintro e w9 ⟨rfl,e0⟩;have a7:=ae e0;clear e0)
           |(show wpList _ _ _ ({dst:=dl,op:= .store _ _ _,type:=_,pos:=_,after:=_,guard:=_}::_) _ _
             go_must (refine bz rfl 232 (.tmp 11) (.tmp 80) rfl a 0 #[.int .u64 (c0:Int),.int .u64 c1,.int .u64 c2,.int .u64 c3,.int .u64 c4] rfl rfl ?_ ?_ ?_ ?_)
             go_must (exact dr ((a7.o.block a (hF e5.o)).t e5.o) rfl)
             go_must (exact MM)
             go_must (first|(simp[Value.oneCell'];done)|exact dx (by intro v hv;simp only[dF,List.not_mem_nil,or_false]at hv;rcases hv with rfl|rfl|rfl|rfl|rfl<;>rfl))
             go_must (generalize hW:World.setCells _ _ _ _=j6)
             go_must (have HW:=ae hW;clear hW)
             skip))
          go_roundw
          case rel=>
           have z2:=(a7.o.block a (hF e5.o)).t e5.o;refine⟨c0,c1,c2,c3,c4,rest.drop 16,?_,by rw[cO,A.o];omega,?_,?_,r6.o,q9,?_⟩
           ·have h:=r8.o;first
             |(rw[ak d3]at h;exact h)
             |(rw[ak d3]at h;simp only[Nat.mul_one,eH,Addr.add,ak (show¬n=0 by omega)]at h;exact h)
             |(rw[ar d3]at h;first|exact h|(rw[d3]at h;exact h)|(simpa[d3]using h))
             |(rw[ak d3,Nat.sub_self]at h;simp only[Nat.mul_one,eH,Addr.add,ak (show¬n=0 by omega)]at h;exact h)
           ·rw[<-HW.o];exact dI z2 rfl
           ·rw[<-HW.o];exact((bp (ag a) _ _ _ (aj a w9)).block E x8).t ((a7.o.block E (hF g8.o)).t g8.o)
           ·rw[<-HW.o];exact bp (by omega) _ _ _ (g4.o.t (a7.o.m g4.o.size))
          case measure=>simp[zL];omega
theorem Mt(a dv:bd)(key data:List UInt8)(w:ax)(hk:Rd w a key)(hd:Rd w dv data)(hkl:key.length=32)(b:data.length<=4000):
  bl ed 95 #[a,dv] w (mM w (Pol.tag key data) 0):=by
 have d:=Jm a dv key data w hk hd hkl b;have h:=ae d;obtain⟨m,o,rfl,_,_⟩:=hk.fB 32 hkl;obtain⟨n,c⟩:∃n,data.length=n:=⟨_,rfl⟩
 obtain⟨i,j,rfl,_,_⟩:=hd.fB n c;have l:n<=4000:=by omega
 have k:decide ((4000:Int)<(n:Int))=dT:=by rw[ah];omega
 clear d hk hd hkl b c;go_enter func95,ntmps95
 go_wp2_with fail
 refine h.o.m ?_;rintro e p ⟨v,rfl,ho,hb⟩;have g:=ae ho;have f:=ae hb;clear ho hb;go_wp2
 go_ret2
 exact⟨_,rfl,g.o,f.o⟩
theorem cellOf{w:ax}{b off n c:Nat}{l:List UInt8}(h:Rd w (.slice (b,off) n c) l)(k:Nat)(hk:k<l.length):w.cell? (b,off+k)=de (.int .u8 (l.getD k 0).toNat):=by
 obtain⟨a',g,e,_,_,_,h⟩:=h;injection e with e1 e2 e3;subst e1;obtain⟨b,off,a,h2⟩:=h (by intro h;rw[h]at hk;cases hk);injection a with a;injection a with d f;subst d f;exact h2 k hk
end Go.Proofs.YtcdmenphjilnnaaGreatDoor
