/-
  Parts of the proofs of the laws of the whole (what the functions compute, and plain laws of it); no conditions.
-/
import Derived.Test.YtcdmenphjilnnaaGreatDoorM3
import Derived.Test.YtcdmenphjilnnaaGreatDoorM4
import Derived.Test.YtcdmenphjilnnaaGreatDoorM5
import Derived.Deep.RegionWith
set_option linter.unusedVariables false
set_option linter.unusedSimpArgs false
set_option maxRecDepth 100000
set_option maxHeartbeats 1000000
open Go.Proofs.Tryz
open Go renaming World->ax,Value->bd,Calls->bl
open Go.RowKit renaming Below->dd
open Option renaming some->de,none->dl
open Bool renaming true->dE,false->dT
open Go.Proofs.Tryz renaming prog->ed
namespace Go.Con
set_option maxHeartbeats 2000000
def gy(l:List UInt8)(k:Nat):Int:=((((l.getD (4*k) 0).toNat*16777216+(l.getD (4*k+1) 0).toNat*65536+(l.getD (4*k+2) 0).toNat*256+(l.getD (4*k+3) 0).toNat:Nat)):Int)
def jz(l:List UInt8):bk:=⟨gy l 0,gy l 1,gy l 2,gy l 3,gy l 4⟩
def kh(l:List UInt8):bk×Int:=if l.length≠20 then(bk.zero,1)else if cS (jz l)≠0 then(bk.zero,cS (jz l))else(jz l,0)
end Go.Con
namespace Go.Proofs.YtcdmenphjilnnaaGreatDoor
open Go.RowKit Go.Con
set_option maxHeartbeats 2000000
theorem MO{w:ax}{b:Nat}{e:TypeId}{c:bk}{v0 v1 v2 v3 v4:bd}(h:w.heap[b]?=de (.cells (rC c) e (0,0))):
  (((((w.setCell (b,0) v0).setCell (b,1) v1).setCell (b,2) v2).setCell (b,3) v3).setCell (b,4) v4).heap[b]?=de (.cells #[v0,v1,v2,v3,v4] e (0,0)):=
 aB (o:=4) (aB (o:=3) (aB (o:=2) (aB (o:=1) (aB (o:=0) h v0) v1) v2) v3) v4
theorem tO{a w:ax}{b B:Nat}{v0 v1 v2 v3 v4:bd}(h:dd B a w)(hb:B<=b):
  dd B a (((((w.setCell (b,0) v0).setCell (b,1) v1).setCell (b,2) v2).setCell (b,3) v3).setCell (b,4) v4):=
 ((((h.setCell hb _).setCell hb _).setCell hb _).setCell hb _).setCell hb _
theorem yG(v:bd)(l:List UInt8)(w:ax)(b:Rd w v l)(hl:l.length≠20):
  bl ed 71 #[v] w λe w'=>e= .returned (.tuple #[eG bk.zero,(1:Int)])/\dd w.heap.size w w':=by
 obtain⟨a,c,rfl,f,d⟩:=b.slice;have hb:(((l.length:Nat):Int) !=20)=dE:=by simpa using(by omega:((l.length:Nat):Int)≠20)
 clear hl;go_enter func71,ntmps71
 go_wp2
 refine aH (v:= .tuple #[eG bk.zero,(1:Int)]) ?_ rfl ⟨rfl,?_⟩
 ·simp[results,Tryz.results71,go_sem,eG,bk.zero]
 ·exact(aj _ _).alloc (ag _) _
def jS(l:List UInt8)(k:Nat):Nat->bd:=λj=>.int .i64 (if j<k then gy l j else 0)
theorem AB(v:bd)(l:List UInt8)(w:ax)(M:Rd w v l)(hl:l.length=20):
  bl ed 71 #[v] w λe w'=>e= .returned (.tuple #[eG (kh l).1,(kh l).2])/\dd w.heap.size w w':=by
 have a0:=λw'=>lR (jz l) w';have S:=ae a0;have HR:=ae M;have X:=M.slice;rw[hl]at X;obtain⟨a,c,rfl,b8,b4⟩:=X;have K:=ae hl;clear a0 M hl;have a2:=λk hk W=>GS (w.heap.size+1) k hk W;have a7:=ae a2;clear a2;go_enter func71,ntmps71
 go_wp2_with fail
 refine(sf _ _).m ?_;rintro e P ⟨rfl,A⟩;have t:P.heap[w.heap.size+1]?=de (.cells (rC bk.zero) 54 (0,0)):=(A.block _ (by simp)).t (gl _ _ _);have s:P.heap[w.heap.size]?=de (.cells (rC bk.zero) 54 (0,0)):=(A.block _ (by simp;omega)).t (gT _ _ _);have c4:w.heap.size+2<=P.heap.size:=by have:=A.size;simpa using this
 have a5:=ae ((((aj w.heap.size w).alloc (ag _) (.cells (rC bk.zero) 54)).alloc (by simp) (.cells (rC bk.zero) 54)).t (A.m (by simp;omega)));have b0:=ae t;have a9:=ae s;clear A t s;go_wp2_with fail
 go_loopw [13] (λi wr=>∃k:Nat,k<=5/\i= .int .i64 k/\(∃y,wr.heap[w.heap.size+1]?=de (.cells y 54 (0,0))/\y.size=5/\∀j,j<5->y[j]?=de (jS l k j))/\wr.heap[w.heap.size]?=de (.cells (rC bk.zero) 54 (0,0))/\dd w.heap.size w wr)
  (λi _=>5-(intOf i).toNat)
 case atStart=>exact⟨0,by omega,rfl,⟨_,b0.o,rfl,λj hj=>by
   have h5:j=0\/j=1\/j=2\/j=3\/j=4:=by omega
   rcases h5 with rfl|rfl|rfl|rfl|rfl<;>rfl⟩,a9.o,a5.o⟩
 case round=>
  obtain⟨k,hk,rfl,⟨y,p,a4,hold⟩,N,F⟩:=hrel;have L:=ae N;have H:=ae F;by_cases hlt:k<5
  ·have a8:=ae hold;obtain⟨b,off,rfl,D⟩:∃b off,a=de ⟨b,off,dl⟩/\∀i,i<20->wr.cell? ⟨b,off+i,dl⟩=de (fs (l.getD i 0)):=by
    obtain⟨a',c',e,_,_,_,h⟩:=HR.o;injection e with e1 e2 e3;subst e1;obtain⟨b,off,e4,h2⟩:=h (by intro h0;have:=K.o;rw[h0]at this;cases this);refine⟨b,off,e4,λi hi=>?_⟩;have h3:=h2 i (by have:=K.o;omega);exact(aw (w:=w) (F.block b (aI w _ h3))).t h3
   obtain⟨x0,s⟩:=aK (l.getD (4*k) 0);obtain⟨x1,t⟩:=aK (l.getD (4*k+1) 0);obtain⟨x2,f⟩:=aK (l.getD (4*k+2) 0);obtain⟨x3,O⟩:=aK (l.getD (4*k+3) 0);have c0:wr.cell? (b,off+4*k)=de (.int .u8 x0.toNat):=by rw[s];exact D (4*k) (by omega)
   have c1:wr.cell? (b,off+(4*k+1))=de (.int .u8 x1.toNat):=by rw[t];exact D (4*k+1) (by omega)
   have c2:wr.cell? (b,off+(4*k+2))=de (.int .u8 x2.toNat):=by rw[f];exact D (4*k+2) (by omega)
   have c3:wr.cell? (b,off+(4*k+3))=de (.int .u8 x3.toNat):=by rw[O];exact D (4*k+3) (by omega)
   have a1:((x0.toNat*16777216+x1.toNat*65536+x2.toNat*256+x3.toNat:Nat):Int)=gy l k:=by rw[gy,s,t,f,O]
   have a6:=ae a1;have b3:=uS p k (by omega);have b5:=aO p k;have b6:=a7.o k hlt;have E:=ae p;clear D s t f O hold a1 p N F;go_wp2
   refine bQ 35 (by kernel_rfl) (by kernel_rfl) ?_;simp only[bH,cQ,bT,cC];repeat (go_big_quiet_step (fail))
   refine bt ?_;intro w9 b2;obtain⟨nq,rfl⟩:=b2;go_wp2
   go_roundw
   case rel=>
    refine⟨k+1,by omega,by go_num,?_,?_,?_⟩
    ·refine sW (g:=jS l k) (g':=jS l (k+1)) nq E.o a4 hlt a8.o ?_ ?_
     ·rw[ya,a6.o,jS,ar (by omega)]
     ·intro j hj b9;by_cases a3:j<k
      ·rw[jS,jS,ar a3,ar (by omega)]
      ·rw[jS,jS,ak a3,ak (by omega)]
    ·rw[aA _ _ (by omega)];exact L.o
    ·exact(below_drewN H.o nq).setCell (by simp) _
   case measure=>simp[intOf];omega
  ·have b7:k=5:=by omega
   have n:wr.heap[w.heap.size+1]?=de (.cells (rC (jz l)) 54 (0,0)):=by
    rw[p];have e:y=rC (jz l):=by
     apply Array.ext (by simpa[rC]using a4);intro j h1 h2;have hj:j<5:=by omega
     have:=hold j hj;rw[bm h1,jS,ar (by omega)]at this;injection this with this;rw[this];have h5:j=0\/j=1\/j=2\/j=3\/j=4:=by omega
     rcases h5 with rfl|rfl|rfl|rfl|rfl<;>rfl
    rw[e]
   have d0:wr.cell? (w.heap.size+1,0)=(gy l 0):=ej n 0 rfl;have d1:wr.cell? (w.heap.size+1,1)=(gy l 1):=ej n 1 rfl;have d2:wr.cell? (w.heap.size+1,2)=(gy l 2):=ej n 2 rfl;have d3:wr.cell? (w.heap.size+1,3)=(gy l 3):=ej n 3 rfl;have d4:wr.cell? (w.heap.size+1,4)=(gy l 4):=ej n 4 rfl;have Z:kh l=if cS (jz l)≠0 then(bk.zero,cS (jz l))else(jz l,0):=by rw[kh,ak (by rw[K.o];simp)]
   have I:=ae Z;have E:=ae n;clear hold p N F Z n;obtain⟨q,hq⟩:=aK (cS (jz l));rw[<-hq]at S I;have HQ:=ae hq;clear hq;go_wp2_with fail
   refine(S.o _).m ?_;rintro e m ⟨rfl,G⟩;have Y:=H.o.t (G.m (by have:=H.o.size;omega));have R:=ae Y;have f:=(G.block _ (by have:=hF L.o;omega)).t L.o;have u:=(G.block _ (by have:=hF E.o;omega)).t E.o;have T:m.cell? (w.heap.size+1,0)=(gy l 0):=ej u 0 rfl;have g1:m.cell? (w.heap.size+1,1)=(gy l 1):=ej u 1 rfl;have g2:m.cell? (w.heap.size+1,2)=(gy l 2):=ej u 2 rfl;have U:m.cell? (w.heap.size+1,3)=(gy l 3):=ej u 3 rfl;have V:m.cell? (w.heap.size+1,4)=(gy l 4):=ej u 4 rfl;have j0:=aO f;have x:∀o<5,∃v,m.cell? (w.heap.size,o)=de v:=λo ho=>⟨_,uS f o ho⟩
   have Q:=ae f;clear G f u Y d0 d1 d2 d3 d4;obtain⟨_,f0⟩:=x 0 (by omega);obtain⟨_,f1⟩:=x 1 (by omega);obtain⟨_,f2⟩:=x 2 (by omega);obtain⟨_,f3⟩:=x 3 (by omega);obtain⟨_,f4⟩:=x 4 (by omega);clear x;by_cases r:q=0
   ·have C:kh l=(jz l,0):=by rw[I.o,r];rfl
    have J:=ae C;have b1:(q !=0)=dT:=by simpa using r
    clear r C;go_wp2
    have d:=MO (w:=m) (b:=w.heap.size) (e:=54) (v0:= .int .i64 (gy l 0)) (v1:= .int .i64 (gy l 1)) (v2:= .int .i64 (gy l 2)) (v3:= .int .i64 (gy l 3)) (v4:= .int .i64 (gy l 4)) (Q.o);have hb:=tO (b:=w.heap.size) (B:=w.heap.size) (v0:= .int .i64 (gy l 0)) (v1:= .int .i64 (gy l 1)) (v2:= .int .i64 (gy l 2)) (v3:= .int .i64 (gy l 3)) (v4:= .int .i64 (gy l 4)) R.o (ag _);generalize z:World.setCell _ _ _=W;rw[z]at d hb;have k0:=ej d 0 rfl;have k1:=ej d 1 rfl;have k2:=ej d 2 rfl;have k3:=ej d 3 rfl;have k4:=ej d 4 rfl;clear d z T g1 g2 U V f0 f1 f2 f3 f4 j0;refine aH (v:= .tuple #[eG (jz l),(0:Int)]) ?_ rfl ⟨by rw[J.o],hb⟩;simp[results,Tryz.results71,go_sem,eG,jz,k0,k1,k2,k3,k4]
   ·have C:kh l=(bk.zero,q):=by rw[I.o,ar r]
    have J:=ae C;have b1:(q !=0)=dE:=by simpa using r
    clear r C;go_wp2
    have d:=MO (w:=m) (b:=w.heap.size) (e:=54) (v0:= .int .i64 0) (v1:= .int .i64 0) (v2:= .int .i64 0) (v3:= .int .i64 0) (v4:= .int .i64 0) (Q.o);have hb:=tO (b:=w.heap.size) (B:=w.heap.size) (v0:= .int .i64 0) (v1:= .int .i64 0) (v2:= .int .i64 0) (v3:= .int .i64 0) (v4:= .int .i64 0) R.o (ag _);generalize z:World.setCell _ _ _=W;rw[z]at d hb;have k0:=ej d 0 rfl;have k1:=ej d 1 rfl;have k2:=ej d 2 rfl;have k3:=ej d 3 rfl;have k4:=ej d 4 rfl;clear d z T g1 g2 U V f0 f1 f2 f3 f4 j0;refine aH (v:= .tuple #[eG bk.zero,q]) ?_ rfl ⟨by rw[J.o],hb⟩;simp[results,Tryz.results71,go_sem,eG,bk.zero,k0,k1,k2,k3,k4]
theorem vB(v:bd)(l:List UInt8)(w:ax)(a:Rd w v l):
  bl ed 71 #[v] w λe w'=>e= .returned (.tuple #[eG (kh l).1,(kh l).2])/\dd w.heap.size w w':=by
 by_cases hl:l.length=20
 ·exact AB v l w a hl
 ·have e:kh l=(bk.zero,1):=by rw[kh,ar hl]
  rw[e];exact yG v l w a hl
set_option maxHeartbeats 400000
theorem Fu(b d:bd)(key a:List UInt8)(q:Int)(c:Nat)(w:ax)(hk:Rd w b key)(f:Rd w d a)(hkl:key.length=32)(g:a.length=12)(hc:c<=1073741824)(hq:q=(c:Int)):
  bl ed 92 #[b,q,d] w (mM w (Cha.block key (UInt32.ofNat c) a) 0):=by
 have e:(UInt32.ofNat c).toNat=c:=by rw[oy];omega
 have h:=IN b d key a (UInt32.ofNat c) w hk f hkl g (by omega);rw[e]at h;subst hq;exact h
theorem KA(b d dv:bd)(key a data:List UInt8)(q:Int)(c:Nat)(w:ax)(hk:Rd w b key)(g:Rd w d a)(hd:Rd w dv data)(hkl:key.length=32)(i:a.length=12)(hc:c<=1073741824)(f:data.length<=2000)(hq:q=(c:Int)):
  bl ed 67 #[b,q,d,dv] w (mM w (Cha.KR key c a data) 0):=by
 have e:(UInt32.ofNat c).toNat=c:=by rw[oy];omega
 have h:=Mv b d dv key a data (UInt32.ofNat c) w hk g hd hkl i (by omega) f;rw[e]at h;subst hq;exact h
end Go.Proofs.YtcdmenphjilnnaaGreatDoor
namespace Go.Con.Sea
set_option maxHeartbeats 400000
def pad(l:List UInt8):List UInt8:=l++List.replicate ((16-l.length%16)%16) 0
theorem ud(l:List UInt8):(pad l).length=l.length+(16-l.length%16)%16:=by simp[pad]
def data(known a:List UInt8):List UInt8:=((pad known++pad a)++Pol.qU 8 known.length)++Pol.qU 8 a.length
def tag(key a known b:List UInt8):List UInt8:=Pol.tag ((Cha.block key (UInt32.ofNat 0) a).take 32) (data known b)
end Go.Con.Sea
namespace Go.Con
set_option maxHeartbeats 400000
def nS(key body:List UInt8):List UInt8:=(Sha.GA key body).take 16
def kY(l:List UInt8):T0k:=⟨(l.getD 0 0).toNat,(l.getD 1 0).toNat,(((l.getD 2 0).toNat*16777216+(l.getD 3 0).toNat*65536+(l.getD 4 0).toNat*256+(l.getD 5 0).toNat:Nat):Int)⟩
def gS(key l:List UInt8):T0k×Int:=
 if l.length≠22 then(T0k.zero,1)else if nS key (l.take 6)≠l.drop 6 then(T0k.zero,6)else if yV (kY l)=dE then(kY l,0)else(T0k.zero,2)
end Go.Con
namespace Go.Proofs.YtcdmenphjilnnaaGreatDoor
open Go.RowKit Go.Con
set_option maxHeartbeats 400000
def My(w:ax)(R:List UInt8)(e:Ending)(w':ax):Prop:=∃a,e= .returned a/\Rd w' a R/\(∀k,a.ownBlock=de k->w.heap.size<=k)/\dd w.heap.size w w'
theorem Eb(a v:bd)(k l:List UInt8)(w:ax)(j:Rd w a k)(hv:Rd w v l)(hkl:k.length<=256)(hl:l.length<=2000)(hk:Kn w):
  bl ed 40 #[a,v] w (My w (nS k l)):=by
 have r:=ae j;have x:=ae hv;have q:=ae hk;obtain⟨m,hm⟩:=aK (Sha.GA k l);have n:m.length=32:=by rw[hm];exact Sha.uw _ _
 have d:=λw' (h1:Rd w' a k) (h2:Rd w' v l) h3=>Mw a v k l w' h1 h2 hkl hl h3;rw[<-hm]at d;have t:=ae d;have s:=ae hm;have b:=ae n;clear j hv hk hm n d;go_enter func40,ntmps40
 go_wp2_with fail
 refine(t.o _ r.o x.o q.o).m ?_;rintro e B ⟨v1,rfl,f,i⟩;obtain⟨g,c,o,z,A,hc,y⟩:=f.shape (by intro h;have:=b.o;rw[h]at this;cases this);rw[b.o]at o hc;subst o;have u:=ae f;have p:=ae i;clear f i;go_wp2
 go_ret
 refine⟨_,rfl,?_,λk hk=>?_,p.o⟩
 ·rw[nS,<-s.o];exact u.o.rd.pre 16 (by rw[b.o];decide)
 ·have:g=k:=by simpa[Value.ownBlock]using hk
  omega
theorem Own.newRow(w:ax)(base:Nat)(l:List UInt8)(n:Nat)(a:l.length=n)(hb:base<=w.heap.size)(hm:n<=maxLen):Own (w.alloc (.cells (l.map fs).toArray 5)) base (.slice (w.heap.size,0) n n) l:=by
 subst a;refine⟨by simp,.inr ⟨w.heap.size,l.length,(l.map fs).toArray,rfl,hb,aL w _,ag _,hm,by simp,?_⟩⟩;rw[bK (by simp)]
set_option maxHeartbeats 1000000
theorem yz(a b:Option Addr)(f c d:Nat)(w:ax)(h:c≠22):
  bl ed 70 #[.slice a 32 f,.slice b c d] w λe w'=>e= .returned (.tuple #[ou Con.T0k.zero,(1:Int)])/\dd w.heap.size w w':=by
 have hb:((c:Int) !=22)=dE:=by simpa using(by omega:(c:Int)≠22)
 clear h;go_enter func70,ntmps70
 go_wp2
 refine aH (v:= .tuple #[ou Con.T0k.zero,(1:Int)]) ?_ rfl ⟨rfl,?_⟩
 ·simp[results,Tryz.results70,go_sem,ou,Con.T0k.zero]
 ·exact(aj _ _).alloc (ag _) _
theorem IQ(y:UInt8):IntKind.i64.wrap (y.toNat:Int)=(y.toNat:Int):=by
 have:=y.toNat_lt;exact IntWalk.i64_in _ (by omega)
theorem JS(a b c d:UInt8):
  bits .or .i64 (bits .or .i64 (bits .or .i64 (IntKind.i64.wrap ((a.toNat:Int)*16777216)) (IntKind.i64.wrap ((b.toNat:Int)*65536))) (IntKind.i64.wrap ((c.toNat:Int)*256))) (d.toNat:Int)
   =((a.toNat*16777216+b.toNat*65536+c.toNat*256+d.toNat:Nat):Int):=by
 have h:=ya a b c d;have h0:=a.toNat_lt;have h1:=b.toNat_lt;have h2:=c.toNat_lt;have h3:=d.toNat_lt;have e (n:Int) (h:0<=n/\n<9223372036854775808):wrap64 n=IntKind.i64.wrap n:=(IntWalk.wrap64_in n (by omega)).t (IntWalk.i64_in n (by omega)).symm;rw[e (a.toNat:Int) (by omega),e (b.toNat:Int) (by omega),e (c.toNat:Int) (by omega),e (d.toNat:Int) (by omega),IQ,IQ,IQ,IQ,e ((a.toNat:Int)*16777216) (by omega),e ((b.toNat:Int)*65536) (by omega),e ((c.toNat:Int)*256) (by omega)]at h;exact h
theorem Lw{w:ax}{b:Nat}{e:TypeId}{c0 c1 a v0 v1 v2:bd}(h:w.heap[b]?=de (.cells #[c0,c1,a] e (0,0))):
  (((w.setCell (b,0) v0).setCell (b,1) v1).setCell (b,2) v2).heap[b]?=de (.cells #[v0,v1,v2] e (0,0)):=
 aB (o:=2) (aB (o:=1) (aB (o:=0) h v0) v1) v2
theorem pO{a w:ax}{b B:Nat}{v0 v1 v2:bd}(h:dd B a w)(hb:B<=b):
  dd B a (((w.setCell (b,0) v0).setCell (b,1) v1).setCell (b,2) v2):=((h.setCell hb _).setCell hb _).setCell hb _
theorem Cs(kv bv:bd)(k l:List UInt8)(w:ax)(a2:Rd w kv k)(L:Rd w bv l)(hkl:k.length=32)(hl:l.length=22)(hk:Kn w):
  bl ed 70 #[kv,bv] w λe w'=>e= .returned (.tuple #[ou (gS k l).1,(gS k l).2])/\dd w.heap.size w w':=by
 obtain⟨kb,ko,kc,rfl,_,_⟩:=a2.gL 32 hkl (by decide);obtain⟨m,n,bc,rfl,c2,_⟩:=L.gL 22 hl (by decide);have b7:=ae a2;have a5:=ae L;have HK:=ae hk;have b6:=ae hkl;have HL:=ae hl;have h6:(l.take 6).length=6:=by rw[aM,hl];rfl
 have H6:=ae h6;have c3:bc≠6:=by omega
 have c4:(6:Int)<=(bc:Int):=by omega
 have c5:(22:Int)<=(bc:Int):=by omega
 obtain⟨t,M⟩:=aK (nS k (l.take 6)==l.drop 6);have HT:=ae M;have a3:=λa b w h1 h2=>oD a b (nS k (l.take 6)) (l.drop 6) w h1 h2;rw[<-M]at a3;have b8:=ae a3;have b2:∀W,dd w.heap.size w W->∀i,i<22->W.cell? (m,n+i)=de (.int .u8 (l.getD i 0).toNat):=by
  intro W c i hi;obtain⟨a',c',e,_,_,_,h⟩:=L.stay c;obtain⟨b',off,e4,h2⟩:=h (by intro h;rw[h]at hl;cases hl);injection e with e1 e2 e3;subst e1;injection e4 with e4;injection e4 with e5 e6;subst e5 e6;exact h2 i (by rw[hl];exact hi)
 have s:=ae b2;have b3:gS k l=if t=dT then(Con.T0k.zero,6)else if yV (kY l)=dE then(kY l,0)else(Con.T0k.zero,2):=by
  unfold gS;rw[ak (by rw[hl];simp),M];by_cases e:nS k (l.take 6)=l.drop 6
  ·have e':(nS k (l.take 6)==l.drop 6)=dE:=by simpa using e
   rw[ak (show¬(nS k (l.take 6)≠l.drop 6)from λh=>h e),e'];simp
  ·have e':(nS k (l.take 6)==l.drop 6)=dT:=by simpa using e
   rw[ar e,e',ar rfl]
 have a6:=ae b3;clear a2 L hk hkl hl h6 M a3 b2 b3;go_enter func70,ntmps70
 go_wp2_with fail
 have ba:dd w.heap.size w (w.alloc (.cells #[(0:Int),(0:Int),(0:Int)] 58)).drew:=((aj _ _).alloc (ag _) _).drew;have r:=ae ba;clear ba;go_region_with (first
  |(go_at_call 40;refine(Eb _ _ k (l.take 6) _ (b7.o.stay r.o) ((a5.o.stay r.o).pre 6 (by rw[HL.o];decide)) (by rw[b6.o];decide) (by rw[H6.o];decide) (HK.o.stay r.o)).m ?_;rintro e w1 ⟨v1,rfl,b5,c0,b0⟩;have R1:=ae b5;have I:=ae b0;clear b5 c0 b0)
  |(go_at_call 61;refine(b8.o _ _ _ R1.o (((a5.o.stay r.o).stay I.o).tail 6 16 (by decide) rfl)).m ?_;rintro e d ⟨rfl,a1⟩))
 all_goals
  have b1:dd w.heap.size w d:=by obtain⟨q,rfl⟩:=a1;exact below_drewN (r.o.t (I.o.m r.o.size)) q
  have y:d.heap[w.heap.size]?=de (.cells #[(0:Int),(0:Int),(0:Int)] 58 (0,0)):=by
   obtain⟨q,rfl⟩:=a1;exact(I.o.block w.heap.size (by simp)).t (aL w _)
  have j:=ae b1;have Z:=ae y;have E:=ej y 0 rfl;have F:=ej y 1 rfl;have G:=ej y 2 rfl;have H:=aO y;clear a1 b1 y R1 I;by_cases D:t=dT
  ·have p:gS k l=(Con.T0k.zero,6):=by rw[a6.o,ar D]
   have A:=ae p;subst D;clear p;go_wp2
   have c:=Lw (w:=d) (b:=w.heap.size) (e:=58) (v0:= .int .i64 0) (v1:= .int .i64 0) (v2:= .int .i64 0) Z.o;have hb:=pO (b:=w.heap.size) (B:=w.heap.size) (v0:= .int .i64 0) (v1:= .int .i64 0) (v2:= .int .i64 0) j.o (ag _);generalize o:World.setCell _ _ _=W;rw[o]at c hb;have k0:=ej c 0 rfl;have k1:=ej c 1 rfl;have k2:=ej c 2 rfl;clear c o E F G H;refine aH (v:= .tuple #[ou Con.T0k.zero,(6:Int)]) ?_ rfl ⟨by rw[A.o],hb⟩;simp[results,Tryz.results70,go_sem,ou,Con.T0k.zero,k0,k1,k2]
  ·have c1:t=dE:=by simpa using D
   have b4:gS k l=if yV (kY l)=dE then(kY l,0)else(Con.T0k.zero,2):=by rw[a6.o,ak D]
   subst c1;have a7:=ae b4;clear D b4;have q0:d.cell? (m,n)=_:=s.o d j.o 0 (by decide);have q1:=s.o d j.o 1 (by decide);have q2:=s.o d j.o 2 (by decide);have q3:=s.o d j.o 3 (by decide);have q4:=s.o d j.o 4 (by decide);have q5:=s.o d j.o 5 (by decide);have C:=λw=>DE (kY l) w;unfold kY ou at C;dsimp only at C;obtain⟨f,O⟩:=aK (l.getD 0 0);obtain⟨g,P⟩:=aK (l.getD 1 0);obtain⟨U,Q⟩:=aK (l.getD 2 0);obtain⟨V,R⟩:=aK (l.getD 3 0);obtain⟨X,S⟩:=aK (l.getD 4 0);obtain⟨Y,T⟩:=aK (l.getD 5 0);rw[<-O]at q0;rw[<-P]at q1;rw[<-Q]at q2;rw[<-R]at q3;rw[<-S]at q4;rw[<-T]at q5;rw[<-O,<-P,<-Q,<-R,<-S,<-T]at C;have a8:=ae C;have J:=ae (show kY l=⟨f.toNat,g.toNat,((U.toNat*16777216+V.toNat*65536+X.toNat*256+Y.toNat:Nat):Int)⟩ by unfold kY;rw[O,P,Q,R,S,T]);clear C O P Q R S T;go_wp2_with fail
   go_region_held3 (λW=>W.cell? (m,n)=de (.int .u8 f.toNat)/\W.cell? (m,n+1)=de (.int .u8 g.toNat)/\W.cell? (m,n+2)=de (.int .u8 U.toNat)/\W.cell? (m,n+3)=de (.int .u8 V.toNat)/\W.cell? (m,n+4)=de (.int .u8 X.toNat)/\W.cell? (m,n+5)=de (.int .u8 Y.toNat)) (go_keep) (fail)
   all_goals
    rw[IQ f,IQ g,IQ U,IQ V,IQ X,IQ Y,JS];obtain⟨N,hN⟩:∃N:Nat,N=U.toNat*16777216+V.toNat*65536+X.toNat*256+Y.toNat:=⟨_,rfl⟩
    rw[<-hN]at a8 J|-;clear hN q0 q1 q2 q3 q4 q5;have z:(d.alloc (.cells #[f.toNat,g.toNat,N] 58)).drew.heap[d.heap.size]?=de (.cells #[f.toNat,g.toNat,N] 58 (0,0)):=aL d _;have a4:(d.alloc (.cells #[f.toNat,g.toNat,N] 58)).drew.heap[w.heap.size]?=de (.cells #[(0:Int),(0:Int),(0:Int)] 58 (0,0)):=(bC d _ _ (hF Z.o)).t Z.o;have a0:dd w.heap.size w (d.alloc (.cells #[f.toNat,g.toNat,N] 58)).drew:=(j.o.alloc j.o.size _).drew;generalize b9:(d.alloc (.cells #[f.toNat,g.toNat,N] 58)).drew=w3 at z a4 a0|-;clear b9 E F G H;have X3:=ae z;have a9:=ae a4;have B3:=ae a0;have j0:=ej z 0 rfl;have j1:=ej z 1 rfl;have j2:=ej z 2 rfl;clear z a4 a0;go_wp2_with fail
    refine(a8.o _).m ?_;rintro e w4 ⟨rfl,K⟩;have X4:=ae ((K.block _ (hF X3.o)).t X3.o);have u:=ae ((K.block _ (hF a9.o)).t a9.o);have B4:=ae (B3.o.t (K.m B3.o.size));have r0:=ej X4.o 0 rfl;have r1:=ej X4.o 1 rfl;have r2:=ej X4.o 2 rfl;have E:=ej u.o 0 rfl;have F:=ej u.o 1 rfl;have G:=ej u.o 2 rfl;have H:=aO u.o;clear K j0 j1 j2;by_cases x:yV (kY l)=dE
    ·have p:gS k l=(kY l,0):=by rw[a7.o,ar x]
     have A:=ae p;rw[J.o]at x;rw[ar x];clear p;go_wp2
     have c:=Lw (w:=w4) (b:=w.heap.size) (e:=58) (v0:= .int .i64 f.toNat) (v1:= .int .i64 g.toNat) (v2:= .int .i64 N) u.o;have hb:=pO (b:=w.heap.size) (B:=w.heap.size) (v0:= .int .i64 f.toNat) (v1:= .int .i64 g.toNat) (v2:= .int .i64 N) B4.o (ag _);generalize o:World.setCell _ _ _=W;rw[o]at c hb;have k0:=ej c 0 rfl;have k1:=ej c 1 rfl;have k2:=ej c 2 rfl;clear c o E F G H r0 r1 r2;refine aH (v:= .tuple #[ou ⟨f.toNat,g.toNat,N⟩,(0:Int)]) ?_ rfl ⟨by rw[A.o,J.o],hb⟩;simp[results,Tryz.results70,go_sem,ou,k0,k1,k2]
    ·have p:gS k l=(Con.T0k.zero,2):=by rw[a7.o,ak x]
     have A:=ae p;rw[J.o]at x;rw[ak x];clear p;go_wp2
     have c:=Lw (w:=w4) (b:=w.heap.size) (e:=58) (v0:= .int .i64 0) (v1:= .int .i64 0) (v2:= .int .i64 0) u.o;have hb:=pO (b:=w.heap.size) (B:=w.heap.size) (v0:= .int .i64 0) (v1:= .int .i64 0) (v2:= .int .i64 0) B4.o (ag _);generalize o:World.setCell _ _ _=W;rw[o]at c hb;have k0:=ej c 0 rfl;have k1:=ej c 1 rfl;have k2:=ej c 2 rfl;clear c o E F G H r0 r1 r2;refine aH (v:= .tuple #[ou Con.T0k.zero,(2:Int)]) ?_ rfl ⟨by rw[A.o],hb⟩;simp[results,Tryz.results70,go_sem,ou,Con.T0k.zero,k0,k1,k2]
theorem Fm(f bv:bd)(k l:List UInt8)(w:ax)(h:Rd w f k)(g:Rd w bv l)(hkl:k.length=32)(hk:Kn w):
  bl ed 70 #[f,bv] w λe w'=>e= .returned (.tuple #[ou (gS k l).1,(gS k l).2])/\dd w.heap.size w w':=by
 by_cases hl:l.length=22
 ·exact Cs f bv k l w h g hkl hl hk
 ·obtain⟨a,c,rfl,_,_⟩:=h.fB 32 hkl;obtain⟨b,d,rfl,_,_⟩:=g.slice;have e:gS k l=(Con.T0k.zero,1):=by unfold gS;rw[if_pos hl]
  rw[e];exact yz a b c l.length d w hl
end Go.Proofs.YtcdmenphjilnnaaGreatDoor
