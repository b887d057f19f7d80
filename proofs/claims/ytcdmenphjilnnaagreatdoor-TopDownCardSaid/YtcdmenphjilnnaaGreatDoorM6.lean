/-
  Parts of the proofs of the laws of the whole (what the functions compute, and plain laws of it); no conditions.
-/
import Derived.Test.YtcdmenphjilnnaaGreatDoorM3
import Derived.Test.YtcdmenphjilnnaaGreatDoorM4
import Derived.Test.YtcdmenphjilnnaaGreatDoorM5
import Derived.Lib.SlBytesConst
set_option linter.unusedVariables false
set_option linter.unusedSimpArgs false
set_option maxRecDepth 100000
set_option maxHeartbeats 1000000
open Go.Proofs.Tryz
open Go renaming World->ax,Value->bd,Calls->bl
open Go.RowKit renaming Below->dd
open Option renaming some->de,none->dl
open Bool renaming true->dE,false->dT
open Go.Proofs.Tryz renaming prog->ed
namespace Go.Proofs.YtcdmenphjilnnaaGreatDoor
open Go.RowKit Go.Con
set_option maxHeartbeats 2000000
def gH(a:List Int):List UInt8:=a.flatMap λz=>gx z.toNat
theorem gU(a:List Int):(gH a).length=4*a.length:=by
 induction a with
 |nil=>rfl
 |cons z r b=>rw[gH,gC,aD,aZ];rw[gH]at b;rw[b];simp[gx];omega
theorem BU(a:List Int)(k:Nat)(hk:k<a.length):gH (a.take (k+1))=gH (a.take k)++gx (a.getD k 0).toNat:=by
 have e:a.take (k+1)=a.take k++[a.getD k 0]:=by
  rw[fJ hk];simp[hk]
 rw[e,gH,dP];simp[gH]
theorem wU(v:bd)(d:List Int)(w:ax)(hv:jV w v d)(h0:∀i,i<d.length->0<=d.getD i 0)(hl:d.length<=100):
  bl ed 125 #[v] w (mX w (gH d)):=by
 obtain⟨a,c,rfl,E,p,-,l⟩:=hv;obtain⟨n,o⟩:=aK d.length;rw[<-o]at E hl h0 l|-;have G:c<=9223372036854775807:=p;have j:=ae o;have u:=ae h0;have x:=ae l;clear o h0 l p;go_enter func125,ntmps125
 go_wp2_with fail
 go_loopw [3,8] (λv i wr=>∃k:Nat,k<=n/\i= .int .i64 k/\Hid (Own wr w.heap.size v (gH (d.take k)))/\Hid (dd w.heap.size w wr)) (λ_ i _=>n-(intOf i).toNat)
 case atStart=>exact⟨0,by omega,rfl,ae (Own.nil _ _),ae (aj _ _)⟩
 case round=>
  obtain⟨k,hk,rfl,g,e⟩:=hrel;by_cases hlt:k<n
  ·have hd:decide ((k:Int)<n)=dE:=by rw[ap];omega
   have D:decide (k<n)=dE:=by rw[ap];omega
   obtain⟨b,off,rfl,hc⟩:=x.o (by intro h;have:=j.o;rw[h]at this;simp at this;omega);obtain⟨q,hq⟩:=aK (d.getD k 0);have c0:=hc k (by omega);have f:=u.o k hlt;rw[<-hq]at c0 f;have F:wr.cell? (b,off+k)=q:=(aw (w:=w) (e.o.block b (aI w _ c0))).t c0;have m:=BU d k (by rw[<-j.o];exact hlt);rw[<-hq]at m;have y:=ae m;have hlen:(gH (d.take k)).length<=400:=by rw[gU,aM];omega
   have A:=ae hlen;have s:∀W:ax,Rd (W.alloc (.cells #[.int .u8 (q/16777216%256),.int .u8 (q/65536%256),.int .u8 (q/256%256),.int .u8 (q%256)] 5)) (.slice (W.heap.size,0) 4 4) (gx q.toNat):=λW=>
    Gv W _ _ _ _ _ _ _ _ (KL q f) (KM q f) (MZ q f) (Na q f)
   have B:=ae s;clear hq m hlen hc c0 s;go_wp2_with (at_builtin;refine uZ rfl (.tmp 12) (.tmp 24) rfl w.heap.size _ _ _ (gx q.toNat) rfl (g.o.alloc _) rfl (B.o _) (by have:=A.o;simp[gx];omega) (by have:=e.o.size;simp;omega) ?_;intro v3 w3 t r;have C:=ae t;have z:=ae r;clear t r)
   go_roundw
   case rel=>exact⟨k+1,by omega,by go_num,ae (by rw[y.o];exact C.o),ae ((e.o.alloc e.o.size _).grown z.o (by have:=e.o.size;simp;omega) (λk hk=>(g.o.lt k hk).1))⟩
   case measure=>simp[intOf];omega
  ·have hd:decide ((k:Int)<n)=dT:=by rw[ah];omega
   have D:decide (k<n)=dT:=by rw[ah];omega
   have hkn:k=n:=by omega
   rw[hkn,bK (by rw[<-j.o];omega)]at g;clear hkn;go_wp2
   go_ret
   exact⟨_,rfl,g.o,e.o⟩
def oL(l:List UInt8):Nat:=(l.getD 0 0).toNat*16777216+(l.getD 1 0).toNat*65536+(l.getD 2 0).toNat*256+(l.getD 3 0).toNat
theorem JR(b off n c:Nat)(l:List UInt8)(w:ax)(hv:Rd w (.slice (b,off) n c) l)(o:l.length=n)(h4:4<=n):
  bl ed 87 #[.slice (b,off) n c] w λe w'=>e= .returned (oL l:Int)/\∃m,w'=w.drewN m:=by
 obtain⟨d,h0⟩:=aK (l.getD 0 0);obtain⟨f,h1⟩:=aK (l.getD 1 0);obtain⟨g,a⟩:=aK (l.getD 2 0);obtain⟨h,h3⟩:=aK (l.getD 3 0);have c0:=hv.qM 0 (by omega);have c1:=hv.qM 1 (by omega);have j:=hv.qM 2 (by omega);have k:=hv.qM 3 (by omega);rw[<-h0]at c0;rw[<-h1]at c1;rw[<-a]at j;rw[<-h3]at k;have hg:oL l=d.toNat*16777216+f.toNat*65536+g.toNat*256+h.toNat:=by rw[oL,h0,h1,a,h3]
 have i:=ae hg;have d0:(0:Int)<n:=by omega
 have d1:(1:Int)<n:=by omega
 have d2:(2:Int)<n:=by omega
 have d3:(3:Int)<n:=by omega
 rw[fI]at c0;clear hv hg h0 h1 a h3 o;go_enter func87,ntmps87
 go_wp2_with fail
 go_quiet (fail)
 go_wp2
 go_ret
 refine⟨?_,_,rfl⟩;rw[i.o,<-ya d f g h];rfl
end Go.Proofs.YtcdmenphjilnnaaGreatDoor
namespace Go.Con.Tp
def head(b:List UInt8):List UInt8:=UInt8.ofNat b.length::b
def frame(b:List UInt8):List UInt8:=head b++(Sha.sum (head b)).take 4
end Go.Con.Tp
namespace Go.Proofs.YtcdmenphjilnnaaGreatDoor
open Go.RowKit Go.Con
def mm(w:ax)(l:List UInt8)(s c:Int)(e:Ending)(w':ax):Prop:=
 ∃a,e= .returned (.tuple #[.agg #[a,s],c])/\Own w' w.heap.size a l/\dd w.heap.size w w'
def IV(l b:List UInt8):List UInt8:=if l.length+b.length+5<=100000 then l++Tp.frame b else []
def IU(l b:List UInt8)(s:Int):Int:=if l.length+b.length+5<=100000 then s else 0
def IW(l b:List UInt8):Int:=if l.length+b.length+5<=100000 then 0 else 8
theorem En(W:ax)(n:Nat)(a:n<256):Own (W.alloc (.cells #[.int .u8 (n:Int)] 5)) W.heap.size (.slice (W.heap.size,0) 1 1) [UInt8.ofNat n]:=by
 have h:=xK W W.heap.size [UInt8.ofNat n] 1 rfl (ag _) (by show 1<=maxLen;decide);have e:[UInt8.ofNat n].map fs=[.int .u8 (n:Int)]:=by simp[fs,bM];omega
 rw[e]at h;exact h
theorem vT(v vb:bd)(l b:List UInt8)(s:Int)(w:ax)(hv:Rd w v l)(hb:Rd w vb b)(h0:0<=s)(h1:s<=l.length)(f4:b.length<=200)(h3:l.length<=100000)(hk:Kn w):
  bl ed 124 #[.agg #[v,s],vb] w (mm w (IV l b) (IU l b s) (IW l b)):=by
 obtain⟨L9,a8⟩:=aK (IV l b);obtain⟨S9,a9⟩:=aK (IU l b s);obtain⟨C9,a7⟩:=aK (IW l b);rw[<-a8,<-a9,<-a7];have b9:=ae (And.intro a8 (And.intro a9 a7));clear a8 a9 a7;obtain⟨a,c,rfl,hc,f5⟩:=id hv.slice;obtain⟨a2,c2,rfl,d0,f6⟩:=id hb.slice;obtain⟨n,hn⟩:=aK l.length;obtain⟨m,hm⟩:=aK b.length;have b8:=ae (λw h=>oV (.slice a l.length c) l s w h h0 h1 (by omega));rw[<-hn]at hv h1 h3 hc b8|-;rw[<-hm]at hb f4 d0|-;have HV:=ae hv;have a0:=ae hb;have E:=ae hn;have D:=ae hm;have HK:=ae hk;have i:=ae (((aj w.heap.size w).alloc (ag _) (.cells #[.slice a n c,s] 71)).alloc (by simp) (.cells #[.slice dl 0 0,(0:Int)] 71));clear hv hb hn hm hk hc f5 d0 f6;go_enter func124,ntmps124
 go_upto_region 1 with fail
 generalize t:World.alloc _ _=q at i|-;have X:q.heap[w.heap.size]?=de (.cells #[.slice a n c,s] 71 (0,0)):=by rw[<-t];exact gT w _ _
 have Y:q.heap[w.heap.size+1]?=de (.cells #[.slice dl 0 0,(0:Int)] 71 (0,0)):=by rw[<-t];exact gl w _ _
 have e3:q.heap.size=w.heap.size+1+1:=by rw[<-t];simp
 have HZ:=ae e3;have c0:=ej X 0 rfl;have c1:=ej X 1 rfl;have e9:=ae (HV.o.below i.o HV.o.lt);have N:=ae Y;clear t e3 X Y;go_upto_region 2 with(go_at_call 58;refine(b8.o _ e9.o).m ?_;rintro e w2 ⟨v2,rfl,b2,c9⟩;obtain⟨sa,A,rfl,_,_⟩:=b2.rd.fB n E.o.symm;have O2:=ae b2;have M:=ae c9;clear b2 c9)
 have T:=aL w2 (.cells #[.slice sa n A,s] 71);have G:dd q.heap.size q (w2.alloc (.cells #[.slice sa n A,s] 71)):=M.o.alloc M.o.size _;have o3:=O2.o.alloc (.cells #[.slice sa n A,s] 71);obtain⟨g,e2⟩:=aK w2.heap.size;have g2:q.heap.size<=g:=by have:=M.o.size;omega
 have d6:∀k,(Value.slice sa n A).ownBlock=de k->q.heap.size<=k/\k<g:=λk hk=>by have:=O2.o.lt k hk;omega
 rw[<-e2]at T|-;generalize t:w2.alloc _=w3 at T G o3|-;have F:=ae T;have j:=ae G;have O:=ae o3;have a4:=ae d6;have e5:=ae ((a0.o.below i.o a0.o.lt).stay G);have e6:=ae ((HK.o.stay i.o).stay G);clear t e2 T G o3 d6 M O2 a0 HK;have d4:=En w3 m (by omega);have b7:=ae d4;clear d4;go_upto_region 5 with(at_builtin;refine uZ rfl (.tmp 22) (.tmp 23) rfl w3.heap.size _ _ [UInt8.ofNat m] b rfl b7.o rfl (e5.o.alloc _) (by rw[<-D.o];simp;omega) (by simp) ?_;intro v4 w4 y d1;have O4:=ae y;have G4:=ae d1;clear y d1)
 have b0:dd w3.heap.size w3 w4:=((aj _ _).alloc (ag _) _).grown G4.o (by simp) (λk hk=>by injection hk with hk;subst hk;exact ag _);obtain⟨H,V⟩:=aK (Tp.head b);have c8:[UInt8.ofNat m]++b=H:=by rw[V,Tp.head,D.o];rfl
 have hHl:H.length=m+1:=by rw[V,Tp.head,aZ,D.o]
 have y:=O4.o;rw[c8]at y;have a1:=ae hHl;have HH:=ae V;obtain⟨g4,k4,d7,h6,i1,f7,i5⟩:=y.shape (by intro h;rw[h]at hHl;cases hHl);rw[hHl]at d7 f7;subst d7;have Q:=ae y;have B4:=ae b0;have e7:=ae (e6.o.stay b0);clear b0 V c8 hHl y O4 G4 b7;go_wp2_with fail
 refine(Iy _ H w4 Q.o.rd (by rw[a1.o];omega) e7.o).m ?_;rintro e w5 ⟨v5,rfl,Z,hb5⟩;obtain⟨S,hS⟩:=aK (Sha.sum H);rw[<-hS]at Z;have hSl:S.length=32:=by rw[hS];exact Sha.gK _
 obtain⟨g5,k5,d8,h7,i2,f8,i6⟩:=Z.shape (by intro h;rw[h]at hSl;cases hSl);rw[hSl]at d8 f8;subst d8;have i9:(4:Int)<=(k5:Int):=by omega
 have d5:=Z.rd.pre 4 (by rw[hSl];decide);have a3:=ae d5;have R:=ae (Q.o.below hb5 (λk hk=>(Q.o.lt k hk).2));have B5:=ae (B4.o.t (hb5.m B4.o.size));have e8:=ae hS;have c3:=ae hSl;clear Z hb5 d5 hS hSl Q;go_upto_region 7 with(at_builtin;refine uZ rfl (.tmp 30) (.tmp 32) rfl w3.heap.size _ _ H (S.take 4) rfl R.o rfl a3.o (by rw[a1.o,aM,c3.o];omega) B5.o.size ?_;intro v6 w6 u d2;have O6:=ae u;have G6:=ae d2;clear u d2)
 have W:H++S.take 4=Tp.frame b:=by rw[HH.o,e8.o,HH.o];rfl
 have u:=O6.o;rw[W]at u;have hfl:(Tp.frame b).length=m+5:=by rw[<-W,aD,a1.o,aM,c3.o];omega
 have b5:=ae hfl;obtain⟨g6,k6,d9,h8,i3,f9,i7⟩:=u.shape (by intro h;rw[h]at hfl;cases hfl);rw[hfl]at d9 f9;subst d9;have r:=ae (B5.o.grown G6.o B5.o.size (λk hk=>(R.o.lt k hk).1));have z:=(r.o.block g (hF F.o)).t F.o;have g7:=ej z 0 rfl;have g8:=ej z 1 rfl;have fx:=aO z;have f2:=ae u;by_cases h2:n+m+5<=100000
 ·have x:=ae (show L9=l++Tp.frame b/\S9=s/\C9=0 from(by
   obtain⟨h1,a6,h3⟩:=b9.o;have e:l.length+b.length+5<=100000:=by rw[<-E.o,<-D.o];exact h2
   exact⟨h1.t (ar e),a6.t (ar e),h3.t (ar e)⟩))
  have hle:(n:Int)+((m:Int)+5)<=100000:=by omega
  have g1:decide ((100000:Int)<(n:Int)+((m:Int)+5))=dT:=by rw[ah];omega
  have o6:=O.o.below r.o (λk hk=>(O.o.lt k hk).2);have f1:=ae o6;have a5:=ae z;have j1:=hF F.o;have g3:=ae (show∀k,k<w3.heap.size->k≠g6 from λk hk=>by omega);clear W u hfl z o6 O6 G6 R a3 F O;go_upto_region 9 with fail
  have d3:(l++Tp.frame b).length=n+(m+5):=by rw[aD,b5.o,E.o]
  have b6:=ae d3;clear d3;go_upto_region 10 with(at_builtin;refine Mn rfl (.tmp 43) (.tmp 44) rfl q.heap.size _ _ l (Tp.frame b) rfl f1.o rfl f2.o.rd (by rw[b5.o,<-E.o];omega) (by have:=j.o.size;have:=r.o.size;omega) ?_;intro v7 w7 b3 b1 e1;obtain⟨d,f,e0,h9,i4,i0,i8⟩:=b3.shape (by intro h;have:=b6.o;rw[h]at this;simp at this);rw[b6.o]at e0;subst e0;have g0:=Kept.ma (B:=w6.heap.size) (S:=λk=>(Value.slice sa n A).ownBlock=de k) b1 (ag _) (λk hk=>.inr hk);have I:=(g0.block g (hF a5.o) (λe=>by have:=a4.o g e;omega)).t a5.o;have c6:=ej I 0 rfl;have c7:=ej I 1 rfl;have fy:=aO I;have O7:=ae b3;have G7:=ae b1;have W7:=ae e1;have c4:=ae I;clear b3 b1 I e1)
  have B7:=ae ((j.o.t (r.o.m j.o.size)).grown G7.o (by have:=j.o.size;have:=r.o.size;omega) (λk hk=>(a4.o k hk).1));have x8:=aB (o:=0) c4.o (.slice (d,0) (n+(m+5)) f);have U:=B7.o.setCell (p:=(g,0)) g2 (.slice (d,0) (n+(m+5)) f);have h5:q.heap.size<=d/\d≠g:=by
   have hx:=hF a5.o;rcases W7.o with h|h
   ·have e:(Value.slice sa n A).ownBlock=de d:=h.symm;have:=a4.o d e;omega
   ·have e:d=w6.heap.size:=fT h;have:=r.o.size;have:=j.o.size;omega
  have o8:=O7.o.lE (w':=w7.setCell (g,0) (.slice (d,0) (n+(m+5)) f)) (λk hk=>aA 0 _ (by have e:d=k:=fT hk;omega));generalize f3:w7.setCell (g,0) (.slice (d,0) (n+(m+5)) f)=w8 at x8 U o8|-;have b4:w8.heap[g]?=de (.cells #[.slice (d,0) (n+(m+5)) f,s] 71 (0,0)):=x8;have g9:=ej b4 0 rfl;have h4:=ej b4 1 rfl;have K:=(U.block (w.heap.size+1) (hF N.o)).t N.o;have c6:=ej K 0 rfl;have c7:=ej K 1 rfl;have fy:=aO K;have f0:=ae K;have B8:=ae U;have O8:=ae o8;clear f3 x8 b4 U o8 K O7 G7 W7 c4 B7;go_wp2_with fail
  have L:=aB (o:=1) (aB (o:=0) f0.o (.slice (d,0) (n+(m+5)) f)) s;have C:=ae (((i.o.t (B8.o.m i.o.size)).setCell (p:=(w.heap.size+1,0)) (by show w.heap.size<=w.heap.size+1;omega) (.slice (d,0) (n+(m+5)) f)).setCell (p:=(w.heap.size+1,1)) (by show w.heap.size<=w.heap.size+1;omega) s);have o9:=(O8.o.m (base':=w.heap.size) i.o.size).lE (w':=(w8.setCell (w.heap.size+1,0) (.slice (d,0) (n+(m+5)) f)).setCell (w.heap.size+1,1) s) (λk hk=>by
   have e:d=k:=fT hk;exact(aA 1 _ (by have:=HZ.o;omega)).t (aA 0 _ (by have:=HZ.o;omega)))
  generalize t:World.setCell _ _ _=w9 at L C o9|-;have hl:=aU (P:=ed) w9 (w.heap.size+1) 0 71 [.slice (de ⟨d,0,dl⟩) (n+(m+5)) f,.int .i64 s] _ (bu L) Tryz.underlying71 rfl mP;exact aH (v:= .tuple #[.agg #[.slice (d,0) (n+(m+5)) f,s],(0:Int)]) (dC Tryz.results124 rfl hl) rfl ⟨_,by rw[x.o.2.1,x.o.2.2],by rw[x.o.1];exact o9,C.o⟩
 ·have x:=ae (show L9=[]/\S9=0/\C9=8 from(by
   obtain⟨h1,a6,h3⟩:=b9.o;have e:¬l.length+b.length+5<=100000:=by rw[<-E.o,<-D.o];exact h2
   exact⟨h1.t (ak e),a6.t (ak e),h3.t (ak e)⟩))
  have g1:decide ((100000:Int)<(n:Int)+((m:Int)+5))=dE:=by rw[ap];omega
  have j0:(100000:Int)<(n:Int)+((m:Int)+5):=by omega
  have c5:=i.o.t ((j.o.t (r.o.m j.o.size)).m i.o.size);have J:=((j.o.t (r.o.m j.o.size)).block (w.heap.size+1) (hF N.o)).t N.o;have Y6:=ae J;have e4:=ae c5;have c6:=ej J 0 rfl;have c7:=ej J 1 rfl;have fy:=aO J;clear c5 J W u hfl z O6 G6 R a3 F O;go_wp2_with fail
  have L:=aB (o:=1) (aB (o:=0) Y6.o (.slice dl 0 0)) (0:Int);have C:=ae ((e4.o.setCell (p:=(w.heap.size+1,0)) (by show w.heap.size<=w.heap.size+1;omega) (.slice dl 0 0)).setCell (p:=(w.heap.size+1,1)) (by show w.heap.size<=w.heap.size+1;omega) (0:Int));generalize t:World.setCell _ _ _=w9 at L C|-;have hl:=aU (P:=ed) w9 (w.heap.size+1) 0 71 [.slice dl 0 0,(0:Int)] _ (bu L) Tryz.underlying71 rfl mP;exact aH (v:= .tuple #[.agg #[.slice dl 0 0,(0:Int)],(8:Int)]) (dC Tryz.results124 rfl hl) rfl ⟨_,by rw[x.o.2.1,x.o.2.2],by rw[x.o.1];exact Own.nil _ _,C.o⟩
theorem Db(w:ax)(A:Obj)(C:Array bd)(n c:Nat):
  (convert 24 24 (.slice (w.heap.size+1,0) n c)).run ed ((w.alloc A).alloc (.cells C 5))= .ok (.slice (w.heap.size+1,0) n c) ((w.alloc A).alloc (.cells C 5 (C.size,C.size+1))):=by
 have h:=Lib.run_convert_bytes_const (P:=ed) (w.alloc A) 24 5 C n c Tryz.underlying24 Tryz.underlying5;have e:(w.alloc A).heap.size=w.heap.size+1:=by simp
 rw[e]at h;exact h
theorem Cx(b:UInt8)(w:ax)(hb:b.toNat<=7)(hk:Kn w):
  bl ed 26 #[b.toNat] w (Dt w (qH b) 0):=by
 have m:=ae hk;have p:=b.toNat_lt;have q:=λ(w:ax) (A:Obj) (C:Array bd) (n c:Nat)=>Db w A C n c;clear hk;go_enter func26,ntmps26
 go_wp2_with fail
 have b1:dd w.heap.size w ((w.alloc (.cells #[.int .u8 b.toNat] 5)).alloc (.cells ([99,108,105,101,110,116].map fs).toArray 5 (6,7))):=((aj _ _).alloc (ag _) _).alloc (by simp) _;have f:Rd ((w.alloc (.cells #[.int .u8 b.toNat] 5)).alloc (.cells ([99,108,105,101,110,116].map fs).toArray 5 (6,7))) (.slice (w.heap.size,0) 1 1) [b]:=(zF w _ b rfl).alloc _;have g:Rd ((w.alloc (.cells #[.int .u8 b.toNat] 5)).alloc (.cells ([99,108,105,101,110,116].map fs).toArray 5 (6,7))) (.slice (w.heap.size+1,0) 6 6) [99,108,105,101,110,116]:=by
  have h:=Rd.CX (w.alloc (.cells #[.int .u8 b.toNat] 5)) [99,108,105,101,110,116] 6 (6,7) rfl (by decide);have e:(w.alloc (.cells #[.int .u8 b.toNat] 5)).heap.size=w.heap.size+1:=by simp
  rw[e]at h;exact h
 refine(Du _ _ _ [b] [99,108,105,101,110,116] [] 32 _ f g (Rd.nil _) (by simp) (by simp) (by simp) (by decide) (m.o.stay b1)).m ?_;rintro e r ⟨v2,rfl,i,d,a⟩;have o:=ae i;have l:=ae d;have j:=ae (b1.t (a.m (by simp;omega)));clear i d a b1 f g;go_wp2
 go_ret2
 exact⟨_,rfl,o.o,λk hk=>aE (by simp;omega) (l.o k hk),j.o⟩
theorem KB(n:Int)(w:ax)(a:n<0\/7<n):
  bl ed 26 #[n] w λe w'=>e= .returned (.tuple #[.slice dl 0 0,(2:Int)])/\w=w':=by
 by_cases h0:n<0
 ·go_enter func26,ntmps26
  go_wp2
  go_ret2
  exact⟨rfl,rfl⟩
 ·have h1:7<n:=by omega
  have h2:0<=n:=by omega
  go_enter func26,ntmps26
  go_wp2
  go_ret2
  exact⟨rfl,rfl⟩
theorem vw(w:ax)(hk:Kn w):
  bl ed 24 #[] w λe w'=>∃a,e= .returned a/\Rd w' a vJ/\(∀k,a.ownBlock=de k->w.heap.size<=k)/\dd w.heap.size w w':=by
 have m:=ae hk;have p:=λ(w:ax) (A:Obj) (C:Array bd) (n c:Nat)=>Db w A C n c;clear hk;go_enter func24,ntmps24
 go_wp2_with fail
 have b1:dd w.heap.size w ((w.alloc (.cells #[.int .u8 255] 5)).alloc (.cells ([105,115,115,117,101,114].map fs).toArray 5 (6,7))):=((aj _ _).alloc (ag _) _).alloc (by simp) _;have f:Rd ((w.alloc (.cells #[.int .u8 255] 5)).alloc (.cells ([105,115,115,117,101,114].map fs).toArray 5 (6,7))) (.slice (w.heap.size,0) 1 1) [255]:=(zF w _ 255 rfl).alloc _;have g:Rd ((w.alloc (.cells #[.int .u8 255] 5)).alloc (.cells ([105,115,115,117,101,114].map fs).toArray 5 (6,7))) (.slice (w.heap.size+1,0) 6 6) [105,115,115,117,101,114]:=by
  have h:=Rd.CX (w.alloc (.cells #[.int .u8 255] 5)) [105,115,115,117,101,114] 6 (6,7) rfl (by decide);have e:(w.alloc (.cells #[.int .u8 255] 5)).heap.size=w.heap.size+1:=by simp
  rw[e]at h;exact h
 refine(Du _ _ _ [255] [105,115,115,117,101,114] [] 32 _ f g (Rd.nil _) (by simp) (by simp) (by simp) (by decide) (m.o.stay b1)).m ?_;rintro e q ⟨v2,rfl,i,d,b⟩;have o:=ae i;have l:=ae d;have j:=ae (b1.t (b.m (by simp;omega)));clear i d b b1 f g;go_wp2
 go_ret
 exact⟨_,rfl,o.o,λk hk=>aE (by simp;omega) (l.o k hk),j.o⟩
set_option maxHeartbeats 400000
theorem zE:(Rows.laid_conclave_sha_numbers:DataW Unit)=Lib.tabData .u32 (Sha.kn.map λx=>(x.toNat:Int)):=by kernel_rfl
theorem Bz{W:ax}{rest:List (String×DataW Unit)}(hp:laidMet ed (("conclave/sha.numbers",Rows.laid_conclave_sha_numbers)::rest) W):Kn W:=by
 rw[zE]at hp;have hg:prog.globalNamed "conclave/sha.numbers" =de 1:=by kernel_rfl
 have a:=Lib.tabIs_of_head (t:=223) (e:=179) (n:=64) hg (by kernel_rfl) Tryz.underlying223 Tryz.underlying179 (by kernel_rfl) (by kernel_rfl) hp;intro i hi;have:=a.cell hg i (by rw[aY];exact hi);rw[this];congr 2;have hl:i<Sha.kn.length:=hi;simp[hl]
end Go.Proofs.YtcdmenphjilnnaaGreatDoor
