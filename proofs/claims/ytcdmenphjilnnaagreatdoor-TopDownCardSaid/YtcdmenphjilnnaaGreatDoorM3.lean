/-
  Parts of the proofs of the laws of the whole (what the functions compute, and plain laws of it); no conditions.
-/
import Derived.Test.YtcdmenphjilnnaaGreatDoorM1
import Derived.Laws.CopyOwn
set_option linter.unusedVariables false
set_option linter.unusedSimpArgs false
set_option maxRecDepth 100000
set_option maxHeartbeats 1000000
open Go.Proofs.Tryz
open Go renaming World->ax,Value->bd,Calls->bl
open Go.RowKit renaming Below->dd
open Option renaming some->de,none->dl
open Bool renaming true->dE,false->dT
open Go.Proofs.Tryz renaming prog->ed
namespace Go.Proofs.YtcdmenphjilnnaaGreatDoor
open Go.RowKit Go.Con
def Kn(w:ax):Prop:=∀i,i<64->w.cell? (1,i)=de (.int .u32 (Sha.kn.getD i 0).toNat)
theorem Kn.lt{w:ax}(h:Kn w):1<w.heap.size:=aI w _ (h 0 (by decide))
theorem Kn.below{w w':ax}(h:Kn w){B:Nat}(hb:dd B w w')(a:1<B):Kn w':=λi hi=>(hb.cell (p:=(1,i)) a).t (h i hi)
theorem Kn.stay{w w':ax}(h:Kn w)(hb:dd w.heap.size w w'):Kn w':=h.below hb h.lt
theorem sX(v:bd)(l:List UInt8)(w:ax)(hv:Rd w v l)(hl:l.length<=1099511627776)(hk:Kn w):
  bl ed 85 #[v] w λe w'=>∃v',e= .returned v'/\Own w' w.heap.size v' (Sha.sum l)/\dd w.heap.size w w':=by
 obtain⟨a,c,rfl,k6,j6⟩:=hv.slice;have HV:=ae hv;have HK:=ae hk;clear hv hk;go_enter func85,ntmps85
 have d6:([]:List UInt8).length+l.length<=140737488355328:=by rw[ot];omega
 have d7:([]++l:List UInt8).length+[(128:UInt8)].length<=140737488355328:=by rw[cK];simp;omega
 have n1:∀W:ax,Rd (W.alloc (.cells #[.int .u8 128] 5)) (.slice (W.heap.size,0) 1 1) [128]:=λW=>zF W 128 128 rfl;have N1:=ae n1;clear n1;go_wp2_with (first
  |(at_builtin;refine uZ rfl (.const (.slice dl 0 0)) (.tmp 10) rfl (w.heap.size+1) (.slice dl 0 0) _ [] l rfl (Own.nil _ _) rfl (HV.o.alloc _) d6 (by exact gi (by simp)) ?_;intro v1 w1 e4 d2;have M:=ae e4;have B:=ae d2;clear e4 d2)
  |(at_builtin;refine uZ rfl (.tmp 11) (.tmp 12) rfl (w.heap.size+1) v1 _ ([]++l) [128] rfl (M.o.alloc _) rfl (N1.o _) d7 (by have:=B.o.size;simp at this|-;omega) ?_;intro v2 y e5 a2;have U:=ae e5;have K:=ae a2;clear e5 a2))
 have hz:Sha.fP l.length<64:=fm _ (by decide);have e9:(l.length+1+Sha.fP l.length)%64=56:=by unfold Sha.fP;omega
 have c9:y.heap[w.heap.size]?=de (.cells #[.int .u32 1779033703,.int .u32 3144134277,.int .u32 1013904242,.int .u32 2773480762,.int .u32 1359893119,.int .u32 2600822924,.int .u32 528734635,.int .u32 1541459225] 198 (0,0)):=by
  have h1:=B.o;have h2:=K.o;rw[h2.block _ (by have:=h1.size;simp at this|-;omega) (λe=>by have:=(M.o.lt _ e.symm).1;omega),bC _ _ _ (by have:=h1.size;simp at this;omega),h1.block _ (by simp) (λe=>by simp[Value.ownBlock]at e),aL]
 have c6:dd w.heap.size w y:=by
  have h1:=B.o;have h2:=K.o;refine((((aj _ _).alloc (ag _) _).grown h1 (by simp) (λk hk=>by simp[Value.ownBlock]at hk)).alloc (by have:=h1.size;simp at this;omega) _).grown h2 (by have:=h1.size;simp at this|-;omega) (λk hk=>by have:=(M.o.lt k hk).1;omega)
 have l3:w.heap.size+1<=y.heap.size:=by have:=B.o.size;have:=K.o.size;simp at*;omega
 obtain⟨g2,c0,rfl,a2,k1,j1,j7⟩:=U.o.shape (by simp);have c1:Own y (w.heap.size+1) (.slice (g2,0) (l.length+1) c0) (l++[128]):=by
  have:=U.o;simpa using this
 have g8:=ae c9;have g0:=ae c6;have f7:=ae c1;have b9:=ae e9;have d8:([]++l++[128]:List UInt8).length=l.length+1:=by simp
 rw[d8];clear c9 c6 c1 e9 d8 M B U K d6 d7;have n0:∀W:ax,Rd (W.alloc (.cells #[.int .u8 0] 5)) (.slice (W.heap.size,0) 1 1) [0]:=λW=>zF W 0 0 rfl;have N0:=ae n0;clear n0;go_loopw [4] (λv wr=>∃z g cap n:Nat,z<=Sha.fP l.length/\v= .slice (g,0) n cap/\Hid (n=l.length+1+z)/\Own wr (w.heap.size+1) v (l++[128]++List.replicate z 0)/\dd (w.heap.size+1) y wr)
  (λv _=>l.length+65-zL v)
 case atStart=>exact⟨0,g2,c0,l.length+1,bX _,rfl,rfl,by have:=f7.o;simpa using this,aj _ _⟩
 case round=>
  obtain⟨z,g,cap,n,l6,rfl,C,m,j⟩:=hrel;have L:=ae m;have r:=ae j;clear m j;by_cases hlt:z<Sha.fP l.length
  ·have i2:(((n:Int)%64) !=56)=dE:=by
    rw[eP];have:=C.o;have:=b9.o;omega
   go_wp2_with (at_builtin;refine uZ rfl (.tmp 18) (.tmp 19) rfl (w.heap.size+1) _ _ _ [0] rfl (L.o.alloc _) rfl (N0.o _) (by have:=C.o;simp;omega) (by have:=r.o.size;simp;omega) ?_;intro v3 w3 e6 a3;have b3:=ae e6;have f4:=ae a3;clear e6 a3)
   obtain⟨g3,h9,rfl,a3,k2,j2,j8⟩:=b3.o.shape (by simp);go_roundw
   case rel=>
    refine⟨z+1,g3,h9,_,by omega,rfl,?_,?_,?_⟩
    ·show _=_;simp<;>omega
    ·have:=b3.o;rw[List.replicate_succ'];simpa using this
    ·exact(r.o.alloc (by have:=r.o.size;omega) _).grown f4.o (by have:=r.o.size;simp;omega) (λk hk=>(L.o.lt k hk).1)
   case measure=>have:=C.o;simp[zL];omega
  ·have f0:z=Sha.fP l.length:=by omega
   have h8:=ae f0;have i2:(((n:Int)%64) !=56)=dT:=by
    rw[kI];have:=C.o;have:=b9.o;omega
   clear f0;obtain⟨w3,a9⟩:∃w3:ax,w3=wr:=⟨_,rfl⟩
   rw[<-a9];rw[<-a9]at L r;clear a9;have k9:n<=1099511627900:=by have:=C.o;omega
   go_wp2
   have c3:l++[128]++List.replicate z 0=l++[128]++List.replicate (Sha.fP l.length) 0:=by rw[h8.o]
   have c2:Own w3 (w.heap.size+1) (.slice (g,0) n cap) (l++[128]++List.replicate (Sha.fP l.length) 0++Sha.vH (8*l.length) 0):=by
    have:=L.o;rw[c3]at this;simpa[Sha.vH]using this
   have f9:=ae c2;have l4:w.heap.size+1<=w3.heap.size:=by have:=r.o.size;omega
   clear c2 c3;go_loopw [5,4] (λi v wr=>∃k g cap n:Nat,∃q:Int,k<=8/\i= .int .i64 q/\Hid (q=56-8*k)/\v= .slice (g,0) n cap/\n<=1099511627900+k/\Own wr (w.heap.size+1) v (l++[128]++List.replicate (Sha.fP l.length) 0++Sha.vH (8*l.length) k)/\dd (w.heap.size+1) w3 wr)
    (λi v _=>(intOf i+8).toNat)
   case atStart=>exact⟨0,g,cap,n,56,by omega,rfl,rfl,rfl,by omega,f9.o,aj _ _⟩
   case round=>
    obtain⟨k,g,cap,n,q,hk,rfl,E,rfl,hn,m,j⟩:=hrel;have N:=ae m;have u:=ae j;clear m j;by_cases hq:0<=q
    ·have l2:q<=56:=by have:=E.o;omega
     have hx:(8*(l.length:Int)/2^q.toNat%256:Int)=((UInt8.ofNat (8*l.length/2^(56-8*k))).toNat:Int):=by
      rw[bM,show q.toNat=56-8*k by have:=E.o;omega];simp
     have HX:=ae hx;clear hx;go_wp2_with (at_builtin;refine uZ rfl (.tmp 25) (.tmp 32) rfl (w.heap.size+1) _ _ _ [UInt8.ofNat (8*l.length/2^(56-8*k))] rfl (N.o.alloc _) rfl (zF _ _ _ HX.o) (by simp[Sha.oJ];omega) (by have:=u.o.size;simp;omega) ?_;intro v5 w5 e7 a4;have b4:=ae e7;have f5:=ae a4;clear e7 a4)
     obtain⟨g5,i0,rfl,a4,k3,j4,j9⟩:=b4.o.shape (by simp);have d9:(l++[128]++List.replicate (Sha.fP l.length) 0++Sha.vH (8*l.length) k++[UInt8.ofNat (8*l.length/2^(56-8*k))]).length=l.length+Sha.fP l.length+k+2:=by simp[Sha.oJ];omega
     rw[d9];go_roundw
     case rel=>
      refine⟨k+1,g5,i0,_,q-8,by have:=E.o;omega,rfl,?_,rfl,by omega,?_,?_⟩
      ·show _=_;have:=E.o;omega
      ·have:=b4.o;rw[d9]at this;rw[Sha.Ev];simpa using this
      ·exact(u.o.alloc (by have:=u.o.size;omega) _).grown f5.o (by have:=u.o.size;simp;omega) (λk hk=>(N.o.lt k hk).1)
     case measure=>simp[intOf];omega
    ·have H:k=8:=by have:=E.o;omega
     have F:Own wr (w.heap.size+1) (.slice (g,0) n cap) (Sha.fV l):=by
      have:=N.o;rw[H]at this;exact this
     obtain⟨p,b0⟩:∃p:ax,p=wr:=⟨_,rfl⟩
     rw[<-b0];rw[<-b0]at u F;clear b0 H N;have P:dd (w.heap.size+1) y p:=r.o.t u.o;have e0:n=(Sha.fV l).length:=by
      obtain⟨_,_,he,_⟩:=F.rd;injection he
     have d0:p.heap[w.heap.size]?=de (.cells #[iF Sha.d0.a,iF Sha.d0.b,iF Sha.d0.c,iF Sha.d0.d,iF Sha.d0.e,iF Sha.d0.f,iF Sha.d0.g,iF Sha.d0.h] 198 (0,0)):=(P.block _ (by omega)).t g8.o;have c7:dd w.heap.size w p:=g0.o.t (P.m (by omega));have k5:w.heap.size<g/\g<p.heap.size:=by
      have:=F.lt g rfl;omega
     have b8:=ae F.rd;have h0:=ae d0;have g1:=ae c7;have b7:=ae e0;have l5:w.heap.size+1<=p.heap.size:=by have:=P.size;omega
     clear F e0 d0 c7 P;go_wp2
     have c5:=Sha.vF l;have b5:=ae c5;have i7:n<=1099511627910:=by have:=b5.o.2.2;have:=b7.o;omega
     clear c5;go_loopw [4] (λv wr=>∃k off c n:Nat,v= .slice (g,off) n c/\n<=1099511627910/\Hid (n+64*k=(Sha.fV l).length)/\Rd wr v ((Sha.fV l).drop (64*k))/\
       wr.heap[w.heap.size]?=de (.cells #[iF (Sha.blocks (Sha.fV l) k).a,iF (Sha.blocks (Sha.fV l) k).b,iF (Sha.blocks (Sha.fV l) k).c,iF (Sha.blocks (Sha.fV l) k).d,iF (Sha.blocks (Sha.fV l) k).e,iF (Sha.blocks (Sha.fV l) k).f,iF (Sha.blocks (Sha.fV l) k).g,iF (Sha.blocks (Sha.fV l) k).h] 198 (0,0))/\dd w.heap.size w wr/\p.heap.size<=wr.heap.size)
      (λv _=>zL v)
     case atStart=>exact⟨0,0,cap,n,rfl,i7,by show _=_;rw[b7.o];omega,b8.o,h0.o,g1.o,ag _⟩
     case round=>
      obtain⟨k,off,c4,t,rfl,a8,Y,s,d,G,i9⟩:=hrel;by_cases l1:0<t
      ·have i3:64<=t:=by have:=Y.o;have:=b5.o.1;omega
       have j3:t<=c4:=by obtain⟨_,_,he,hle,_⟩:=s;injection he with e1 e2 e3;omega
       have Q:((Sha.fV l).drop (64*k)).length=t:=by obtain⟨_,_,he,_⟩:=s;injection he with e1 e2 e3;exact e2.symm
       have c8:∀i,i<64->wr.cell? (g,off+i)=de (.int .u8 ((((Sha.fV l).drop (64*k)).take 64).getD i 0).toNat):=by
        intro i hi;obtain⟨_,_,he,_,_,_,a1⟩:=s;obtain⟨b,o,S,a1⟩:=a1 (by intro h;rw[h]at Q;simp at Q;omega);injection he with e1 e2 e3;rw[<-e1]at S;injection S with S;injection S with I J;subst I J;have:=a1 i (by omega);rw[this];simp[fs,cR,hi]
       have hkn:Kn wr:=HK.o.stay G;have g6:=ae c8;have h6:=ae hkn;have h7:=ae s;have X:=ae d;have O:=ae G;have f2:=ae Q;clear c8 hkn s d G Q;have i5:1≠w.heap.size:=by have:=HK.o.lt;omega
       by_cases i4:c4=64;all_goals
        go_wp2_with (go_at_call 111;refine(EX w.heap.size g off _ _ (((Sha.fV l).drop (64*k)).take 64) _ X.o h6.o i5 g6.o).m ?_;rintro e w6 ⟨rfl,d4,d1⟩;have T:=ae d4;have f1:=ae d1;clear d4 d1)
        go_roundw
        case rel=>
         have hcut:=(h7.o.Np T.o (λk hk _=>by simp[Value.ownBlock]at hk;subst hk;exact⟨by omega,by omega⟩)).cut 64 t i3 (ag _);refine⟨k+1,_,_,_,rfl,by omega,?_,?_,?_,?_,?_⟩
         ·show _=_;have:=Y.o;omega
         ·rw[bK (by rw[f2.o];omega),iT]at hcut;simpa[i4,Addr.add,Nat.mul_add]using hcut
         ·exact f1.o
         ·exact O.o.t ((T.o.m (B':=w.heap.size) (S':=λ_=>False) (by omega) (λk hk h=>by omega)).below (λ_ _ h=>h))
         ·have:=T.o.size;omega
        case measure=>simp[zL];omega
      ·have a7:t=0:=by omega
       have d5:(Sha.fV l).length/64=k:=by have:=Y.o;omega
       have k7:decide ((t:Int)>0)=dT:=by rw[a7];decide
       have j0:=ae a7;have h4:=ae d5;have b8:=ae s;have X:=ae d;have O:=ae G;unfold iF at d;have q0:=ej d 0 rfl;have I:=ej d 1 rfl;have J:=ej d 2 rfl;have q3:=ej d 3 rfl;have q4:=ej d 4 rfl;have q5:=ej d 5 rfl;have q6:=ej d 6 rfl;have q7:=ej d 7 rfl;clear a7 d5 s d G;obtain⟨f,b1⟩:∃f:ax,f=wr:=⟨_,rfl⟩
       rw[<-b1];rw[<-b1]at O X i9 q0 I J q3 q4 q5 q6 q7;clear b1;obtain⟨D,Z⟩:=aK (Sha.blocks (Sha.fV l) k);rw[<-Z]at q0 I J q3 q4 q5 q6 q7;have HD:=ae Z;clear Z;have k8:w.heap.size<f.heap.size:=by omega
       have l0:¬w.heap.size=f.heap.size:=by omega
       have hmk:∀W:ax,(Instr.makeSlice 24 (0:Int) (32:Int)).run ed W= .ok (.slice (W.heap.size,0) 0 32) (W.alloc (.cells (Array.replicate 32 (.int .u8 0)) 5)):=λ_=>by kernel_rfl
       go_wp2
       have R:Own (f.alloc (.cells (Array.replicate 32 (.int .u8 0)) 5)) w.heap.size (.slice (f.heap.size,0) 0 32) []:=Own.made f _ _ _ (by omega) (by decide) (by simp);have a0:dd w.heap.size w (f.alloc (.cells (Array.replicate 32 (.int .u8 0)) 5)):=O.o.alloc (by omega) _;generalize f.alloc (.cells (Array.replicate 32 (.int .u8 0)) 5)=w8 at R a0|-;generalize f.heap.size=g7 at R|-;have f8:=ae R;have g4:=ae a0;have d3:=GU D;have h3:=ae d3;clear R a0 d3 hmk q0 I J q3 q4 q5 q6 q7;go_loopw [44,6] (λi v wr=>∃k g cap n:Nat,k<=8/\i= .int .i64 k/\v= .slice (g,0) n cap/\Own wr w.heap.size v (Sha.out D k)/\dd w.heap.size w wr)
        (λi _ _=>8-(intOf i).toNat)
       case atStart=>exact⟨0,g7,32,0,by omega,rfl,rfl,f8.o,g4.o⟩
       case round=>
        obtain⟨k,g,cap,n,hk,rfl,rfl,m,j⟩:=hrel;have V:=ae m;have A:=ae j;clear m j;by_cases a6:k<8
        ·have i6:=h3.o k a6;obtain⟨x,hx⟩:=aK (D.toList.getD k 0);rw[<-hx]at i6;have b6:=ae hx;clear hx;have a8:∀W:ax,Rd (W.alloc (.cells #[.int .u8 ((x.toNat:Int)/16777216%256),.int .u8 ((x.toNat:Int)/65536%256),.int .u8 ((x.toNat:Int)/256%256),.int .u8 ((x.toNat:Int)%256)] 5)) (.slice (W.heap.size,0) 4 4) (Sha.qe x):=λW=>
          Gv W _ _ _ _ _ _ _ _ (by rw[bM];simp) (by rw[bM];simp) (by rw[bM];simp) (by rw[bM];simp)
         have f6:=ae a8;clear a8;have i8:=Sha.Bl D k hk;go_wp2_with (at_builtin;refine uZ rfl (.tmp 47) (.tmp 59) rfl w.heap.size _ _ _ (Sha.qe x) rfl (V.o.alloc _) rfl (f6.o _) (by rw[i8,Sha.mV];omega) (by have:=A.o.size;simp;omega) ?_;intro v9 w9 e8 a5;have b2:=ae e8;have f3:=ae a5;clear e8 a5)
         obtain⟨g9,i1,rfl,a5,k4,j5,k0⟩:=b2.o.shape (by intro h;have:=dz List.length h;rw[aD,Sha.mV]at this;simp at this);go_roundw
         case rel=>
          refine⟨k+1,g9,i1,_,by omega,by go_num,rfl,?_,?_⟩
          ·have h:=b2.o;rw[b6.o,<-Sha.zu D k a6]at h;rw[b6.o,<-Sha.zu D k a6];exact h
          ·exact(A.o.alloc (by have:=A.o.size;omega) _).grown f3.o (by have:=A.o.size;simp;omega) (λk hk=>(V.o.lt k hk).1)
         case measure=>simp[intOf];omega
        ·have H:k=8:=by omega
         have h5:=ae H;clear H;go_wp2
         go_ret
         refine⟨_,rfl,?_,A.o⟩;have h:=V.o;rw[h5.o]at h;have h2:Sha.out D 8=Sha.sum l:=by rw[HD.o,<-h4.o];rfl
         rw[h2]at h;exact h
theorem Iy(v:bd)(l:List UInt8)(w:ax)(hv:Rd w v l)(hl:l.length<=2000)(hk:Kn w):
  bl ed 60 #[v] w (mM w (Sha.sum l) 0):=by
 obtain⟨a,c,rfl,k,j⟩:=hv.slice;have i:=ae hv;have g:=ae hk;clear hv hk;go_enter func60,ntmps60
 go_wp2_with (go_at_call 85;refine(sX _ l _ i.o (by omega) g.o).m ?_;rintro e m ⟨v1,rfl,d,b⟩;have h:=ae d;have f:=ae b;clear d b)
 go_ret2
 exact⟨_,rfl,h.o,f.o⟩
theorem Own.ofRow{w:ax}{base g:Nat}{a:Array bd}(l:List UInt8)(n:Nat)(b:l.length=n)(hb:base<=g)(hg:w.heap[g]?=de (.cells a 5 (0,0)))(hs:a.size=n)(hm:n<=maxLen)
  (hc:∀j,j<n->a[j]?=de (fs (l.getD j 0))):Own w base (.slice (g,0) n n) l:=by
 subst b;refine⟨by simp,.inr ⟨g,l.length,a,rfl,hb,hg,ag _,hm,by omega,?_⟩⟩;apply List.ext_getElem?;intro i;by_cases hi:i<l.length
 ·rw[cR,ar (by omega)];have:=hc i hi;simp only[fU,this];simp[hi]
 ·rw[jF (by simp;omega),jF (by simp;omega)]
section
variable{ops:Array Oper}{rest:List Oper}{o:Oper}{a:Act}{Q:Exit->Act->ax->Prop}{w:ax}
theorem Lf(j:o.guard=dl)(d s:Operand)(ho:o.op= .call {callee:= .builtin .copy,args:=#[d,s],argTypes:=#[24,24]})
  (g n cap:Nat)(hd:a.eval d= .slice (g,0) n cap)(src:bd)(m:List UInt8)(hs:a.eval s=src)(e:Rd w src m)
  (b:List bd)(hg:w.heap[g]?=de (.cells b.toArray 5 (0,0)))(hm:m.length<=n)(l:n<=b.length)
  (h:∀w',w'.heap[g]?=de (.cells (m.map fs++b.drop m.length).toArray 5 (0,0))->dd g w w'->wpList ed ops Q rest (a.put o.dst (goInt m.length)) w'):
  wpList ed ops Q (o::rest) a w:=by
 obtain⟨ao,c,rfl,h1,h2⟩:=e.slice;refine wpList_copy_splice j d s 24 24 ho 5 Tryz.underlying24 (by kernel_rfl) _ _ n cap m.length c hd hs g 0 b 5 hg (m.map fs) (by rw[aY];exact(Nat.min_eq_left hm).symm) ?_ (by simp;omega) (Bq m) g w (aj _ _) (ag _) ?_
 ·intro k;refine⟨rfl,?_⟩;cases ao with
  |none=>have:=e.nA.1;subst this;simp at k
  |some ad=>exact⟨ad,rfl,e.cells ad rfl⟩
 ·intro w' i f;have:=h w' (by have:=i.o;simpa[splice]using this) f;simpa using this
end
def jO(k:List UInt8)(x:UInt8)(j n:Nat):UInt8:=if j<n then(k++List.replicate (64-k.length) 0).getD j 0^^^x else(k++List.replicate (64-k.length) 0).getD j 0
theorem ue(k:List UInt8)(x:UInt8)(j:Nat):jO k x j (j+1)=jO k x j j^^^x:=by
 unfold jO;rw[if_pos (by omega),if_neg (by omega)]
theorem rW(k:List UInt8)(x:UInt8)(j n:Nat)(h:j≠n):jO k x j (n+1)=jO k x j n:=by
 unfold jO;by_cases hj:j<n
 ·rw[ar hj,ar (by omega)]
 ·rw[ak hj,ak (by omega)]
theorem uf(l:List UInt8)(x:UInt8)(k:List UInt8)(j:Nat)(hj:j<64)(hk:(if 64<l.length then Sha.sum l else l)=k):jO k x j 64=(Sha.lh l x).getD j 0:=by
 have hl:j<(Sha.lh l x).length:=by rw[Sha.kE];exact hj
 unfold jO;rw[ar hj];simp only[au,aC hl,nk];simp only[Sha.lh,hk];rw[List.getElem_map];congr 1;have a:j<(k++List.replicate (64-k.length) 0).length:=by
  have h:=hl;simp only[Sha.lh,hk,aY]at h;exact h
 rw[aC a,nk]
theorem MS(k:List UInt8)(x:UInt8)(j:Nat)(hk:k.length<=64)(hj:j<64)(Z:List bd)(a:Z=List.replicate 64 (Value.int .u8 0)):
  ((k.map fs++Z.drop k.length).toArray)[j]?=de (fs (jO k x j 0)):=by
 subst a;unfold jO;rw[ak (by omega)];simp only[nh,List.drop_replicate,au];by_cases h:j<k.length
 ·rw[bU (by simpa using h),bU h];simp[h]
 ·rw[bF (by simp;omega),bF (by omega)];simp[lK,show j-k.length<64-k.length by omega];rfl
theorem CQ(v:bd)(l:List UInt8)(x:UInt8)(w:ax)(hv:Rd w v l)(hl:l.length<=1099511627776)(hk:Kn w):
  bl ed 89 #[v,.int .u8 x.toNat] w (mX w (Sha.lh l x)):=by
 obtain⟨a,c,rfl,a0,U⟩:=hv.slice;have I:=ae hv;have Q:=ae hk;clear hv hk;have hmk:∀W:ax,(Instr.makeSlice 24 (64:Int) (64:Int)).run ed W= .ok (.slice (W.heap.size,0) 64 64) (W.alloc (.cells (Array.replicate 64 (.int .u8 0)) 5)):=λ_=>by kernel_rfl
 have K:=ae hmk;clear hmk;obtain⟨Z,E⟩:=aK (List.replicate 64 (Value.int .u8 0));have N:Z.length=64:=by rw[E];simp
 have r:=ae E;have J:=ae N;clear E N;by_cases L:64<l.length
 ·go_enter func89,ntmps89
  have hmk:=K.o;have m:Hid ((Sha.sum l).length<=64):=by show _<=_;rw[Sha.gK];decide
  go_wp2_with (first|(go_at_call 85;refine(sX _ l _ I.o hl Q.o).m ?_;rintro e s ⟨v1,rfl,P,O⟩;have H:=ae P;have t:=ae O;clear P O;obtain⟨g1,S,rfl,X,Y,T,V⟩:=H.o.shape (by intro h;have:=dz List.length h;rw[Sha.gK]at this;simp at this);rw[Sha.gK])|(refine Lf rfl (.tmp 13) (.tmp 14) rfl s.heap.size 64 64 rfl _ (Sha.sum l) rfl (H.o.rd.alloc _) Z (by rw[r.o];exact aL s _) m.o (by rw[J.o];exact ag _) ?_;intro B A y;have u:=ae A;have C:=ae y;clear A y))
  have R:s.heap.size<B.heap.size:=hF u.o;go_loopw [18] (λj wr=>∃k:Nat,k<=64/\j= .int .i64 k/\dd s.heap.size B wr/\∃g:Array bd,wr.heap[s.heap.size]?=de (.cells g 5 (0,0))/\g.size=64/\∀j,j<64->g[j]?=de (fs (jO (Sha.sum l) x j k)))
   (λj _=>64-(intOf j).toNat)
  case atStart=>
   refine⟨0,by omega,rfl,aj _ _,_,u.o,by rw[r.o];simp;have:=m.o;omega,λj hj=>?_⟩;exact MS (Sha.sum l) x j m.o hj Z r.o
  case round=>
   obtain⟨k,hk,rfl,i,g,d,z,f⟩:=hrel;by_cases hlt:k<64
   ·obtain⟨q,hq⟩:=aK (jO (Sha.sum l) x k k);have c0:wr.cell? (s.heap.size,k)=de (.int .u8 q.toNat):=by rw[hq];exact ej d k (f k hlt)
    have f0:=aO d k;have D:=ae hq;have o:=ae d;have p:=ae f;have n:=ae i;clear hq d f i;go_wp2
    go_roundw
    case rel=>
     refine⟨k+1,by omega,by go_num,n.o.setCell (ag _) _,sW 0 o.o z hlt p.o ?_ ?_⟩
     ·rw[qs,D.o];exact dz fs (ue (Sha.sum l) x k).symm
     ·intro j hj G;exact dz fs (rW (Sha.sum l) x j k G)
    case measure=>simp[intOf];omega
   ·have o:=ae d;have p:=ae f;have n:=ae i;clear d f i;go_wp2
    go_ret
    have F:k=64:=by omega
    have h1:=p.o;rw[F]at h1;refine⟨_,rfl,?_,?_⟩
    ·refine Own.ofRow _ 64 (Sha.kE l x) t.o.size o.o z (by decide) λj hj=>?_;rw[h1 j hj];exact dz (λb=>de (fs b)) (uf l x (Sha.sum l) j hj (by rw[ar L]))
    ·exact(t.o.alloc t.o.size _).t ((C.o.m t.o.size).t (n.o.m t.o.size))
 ·go_enter func89,ntmps89
  have hmk:=K.o;have M:(l).length<=64:=by omega
  have m:=ae M;clear M;go_wp2_with (refine Lf rfl (.tmp 13) (.tmp 14) rfl w.heap.size 64 64 rfl _ (l) rfl (I.o.alloc _) Z (by rw[r.o];exact aL w _) m.o (by rw[J.o];exact ag _) ?_;intro B A y;have u:=ae A;have C:=ae y;clear A y)
  have R:w.heap.size<B.heap.size:=hF u.o;go_loopw [18] (λj wr=>∃k:Nat,k<=64/\j= .int .i64 k/\dd w.heap.size B wr/\∃g:Array bd,wr.heap[w.heap.size]?=de (.cells g 5 (0,0))/\g.size=64/\∀j,j<64->g[j]?=de (fs (jO (l) x j k)))
   (λj _=>64-(intOf j).toNat)
  case atStart=>
   refine⟨0,by omega,rfl,aj _ _,_,u.o,by rw[r.o];simp;have:=m.o;omega,λj hj=>?_⟩;exact MS (l) x j m.o hj Z r.o
  case round=>
   obtain⟨k,hk,rfl,i,g,d,z,f⟩:=hrel;by_cases hlt:k<64
   ·obtain⟨q,hq⟩:=aK (jO (l) x k k);have c0:wr.cell? (w.heap.size,k)=de (.int .u8 q.toNat):=by rw[hq];exact ej d k (f k hlt)
    have f0:=aO d k;have D:=ae hq;have o:=ae d;have p:=ae f;have n:=ae i;clear hq d f i;go_wp2
    go_roundw
    case rel=>
     refine⟨k+1,by omega,by go_num,n.o.setCell (ag _) _,sW 0 o.o z hlt p.o ?_ ?_⟩
     ·rw[qs,D.o];exact dz fs (ue (l) x k).symm
     ·intro j hj G;exact dz fs (rW (l) x j k G)
    case measure=>simp[intOf];omega
   ·have o:=ae d;have p:=ae f;have n:=ae i;clear d f i;go_wp2
    go_ret
    have F:k=64:=by omega
    have h1:=p.o;rw[F]at h1;refine⟨_,rfl,?_,?_⟩
    ·refine Own.ofRow _ 64 (Sha.kE l x) (ag _) o.o z (by decide) λj hj=>?_;rw[h1 j hj];exact dz (λb=>de (fs b)) (uf l x (l) j hj (by rw[ak L]))
    ·exact((aj _ _).alloc (ag _) _).t (C.o.t n.o)
set_option maxHeartbeats 8000000
theorem LD(q:Int)(a b:UInt8)(x:UInt8)(h:q=x.toNat):bits .or .u8 q (bits .xor .u8 (a.toNat:Int) (b.toNat:Int))=((x|||(a^^^b)).toNat:Int):=by
 rw[h,qs,Lr]
theorem Nc(x a b:UInt8):(x|||(a^^^b))=0<->x=0/\a=b:=by
 rw[<-UInt8.toBitVec_inj,<-UInt8.toBitVec_inj,<-UInt8.toBitVec_inj];simp only[UInt8.toBitVec_or,UInt8.toBitVec_xor,UInt8.toBitVec_ofNat];rw[BitVec.or_eq_zero_iff];constructor
 ·rintro⟨h1,h2⟩;exact⟨h1,BitVec.xor_eq_zero_iff.1 h2⟩
 ·rintro⟨h1,h2⟩;exact⟨h1,BitVec.xor_eq_zero_iff.2 h2⟩
theorem Ba(n m c d:Nat)(a b:Option Addr)(w:ax)(f:((n:Int) !=(m:Int))=dE):
  bl ed 61 #[.slice a n c,.slice b m d] w λe w'=>e= .returned (.bool dT)/\∃k,w'=w.drewN k:=by
 go_enter func61,ntmps61
 go_wp2
 go_ret
 exact⟨rfl,0,rfl⟩
theorem zb(c d:Nat)(a b:Option Addr)(w:ax):
  bl ed 61 #[.slice a 0 c,.slice b 0 d] w λe w'=>e= .returned (.bool dE)/\∃k,w'=w.drewN k:=by
 go_enter func61,ntmps61
 go_wp2
 refine wp_loop_rounds 1 ?_;rw[rounds_succ];go_wp2
 go_ret
 exact⟨rfl,0,rfl⟩
theorem Bb(x y:List UInt8)(n c d b1 o1 b2 o2:Nat)(w:ax)(hm:n<=9223372036854775807)(hx:x.length=n)(hy:y.length=n)
  (h1:∀i,i<n->w.cell? (b1,o1+i)=de (fs (x.getD i 0)))(h2:∀i,i<n->w.cell? (b2,o2+i)=de (fs (y.getD i 0))):
  bl ed 61 #[.slice (b1,o1) n c,.slice (b2,o2) n d] w λe w'=>e= .returned (.bool (x==y))/\∃k,w'=w.drewN k:=by
 have H1:=ae h1;have t:=ae h2;have m:=ae hx;have o:=ae hy;clear h1 h2 hx hy;go_enter func61,ntmps61
 go_wp2
 go_loopw [5,14] (λq j wr=>∃k:Nat,∃z:UInt8,∃nd,k<=n/\j= .int .i64 k/\q= .int .u8 z.toNat/\(z=0<->x.take k=y.take k)/\wr=w.drewN nd) (λ_ j _=>n-(intOf j).toNat)
 case atStart=>exact⟨0,0,0,bX _,rfl,rfl,by simp,rfl⟩
 case round=>
  obtain⟨k,z,nd,hk,rfl,rfl,hq,rfl⟩:=hrel;have l:=ae hq;clear hq;by_cases hlt:k<n
  ·obtain⟨r,b⟩:=aK (x.getD k 0);obtain⟨s,g⟩:=aK (y.getD k 0);have c1:w.cell? (b1,o1+k)=de (.int .u8 r.toNat):=by rw[b];exact H1.o k hlt
   have B:w.cell? (b2,o2+k)=de (.int .u8 s.toNat):=by rw[g];exact t.o k hlt
   have u:=ae b;have v:=ae g;clear b g;go_wp2
   go_quiet (fail)
   go_wp2
   go_roundw
   case rel=>
    refine⟨k+1,z|||(r^^^s),_,by omega,by go_num,by rw[LD _ _ _ z rfl],?_,rfl⟩;rw[Nc,l.o];have a:k<x.length:=by rw[m.o];exact hlt
    have f:k<y.length:=by rw[o.o];exact hlt
    rw[fJ a,fJ f,u.o,v.o];constructor
    ·rintro⟨e1,e2⟩;have:x[k]=y[k]:=by simpa[a,f]using e2
     rw[e1,this]
    ·intro e;have:=List.append_inj e (by simp;omega);refine⟨this.1,?_⟩;have h:=this.2;simpa[a,f]using h
   case measure=>simp[intOf];omega
  ·have p:((z.toNat:Int)==0)=(x==y):=by
    have hkn:k=n:=by omega
    have h:=l.o;rw[hkn,bK (by rw[m.o];omega),bK (by rw[o.o];omega)]at h;rw[Bool.eq_iff_iff,eE,eE,<-h];constructor
    ·intro e;apply UInt8.toNat_inj.1;simpa using e
    ·intro e;rw[e];rfl
   have A:=ae p;clear p;go_wp2
   go_ret
   exact⟨by rw[<-A.o];rfl,_,rfl⟩
theorem oD(a b:bd)(x y:List UInt8)(w:ax)(i:Rd w a x)(hb:Rd w b y):
  bl ed 61 #[a,b] w λe w'=>e= .returned (.bool (x==y))/\∃k,w'=w.drewN k:=by
 obtain⟨p,c,rfl,h1,h2,h0,h3⟩:=i;obtain⟨q,d,rfl,k1,k2,k0,k3⟩:=hb;by_cases f:x.length=y.length
 ·by_cases hx:x=[]
  ·subst hx;have hy:y=[]:=bq (by simpa using f.symm);subst hy;exact zb c d p q w
  ·obtain⟨b1,o1,rfl,j⟩:=h3 hx;obtain⟨b2,o2,rfl,g⟩:=k3 (by intro h;subst h;exact hx (bq (by simpa using f)));rw[<-f]at g|-;exact Bb x y x.length c d b1 o1 b2 o2 w (aE h1 h2) rfl f.symm j g
 ·have:(x==y)=dT:=by
   rw[aJ];intro h;exact f (by rw[h])
  rw[this];exact Ba _ _ _ _ _ _ w (by rw[eP];omega)
end Go.Proofs.YtcdmenphjilnnaaGreatDoor
namespace Go.Con
open Go.RowKit
set_option maxHeartbeats 400000
structure ox(w:ax) where
 o:ax
 kj:dd w.heap.size w o
instance(w:ax):Nonempty (ox w):=⟨⟨w,aj _ _⟩⟩
theorem ct{P:Program}{id:Nat}{Q:Exit->Act->ax->Prop}{a:Act}{w:ax}{l:List Oper}(hm:P.follows .mixedOrders=dE)(b:Region.lexB .any l.toArray=dE)
  (h:wpQuiet P l.toArray (λw'=>∃n:ox w,w'=n.o) (λa'=>∀w',(∃n:ox w,w'=n.o)->Q .normal a' w') l a):(Code.region id l.toArray dE).wp P Q a w:=
 wp_region_quiet (C:=λw'=>∃n:ox w,w'=n.o) hm b ⟨⟨_,below_drewN (aj _ _) 1⟩,rfl⟩ (by simpa using h)
theorem fD{P:Program}{f:FuncId}{args:Array bd}{v:bd}{a:ax}{n:ox a}(h:bl P f args n.o λe w'=>e= .returned v/\dd n.o.heap.size n.o w'):bl P f args n.o λe w'=>e= .returned v/\∃m:ox a,w'=m.o:=
 h.m λ_ _ ⟨h1,h2⟩=>⟨h1,⟨_,n.kj.t (h2.m n.kj.size)⟩,rfl⟩
theorem od{w:ax}{b o:Nat}{v:bd}(h:b<w.heap.size)(hc:w.cell? (b,o)=de v):∀n:ox w,n.o.cell? (b,o)=de v:=λn=>(n.kj.cell (p:=(b,o)) h).t hc
theorem EW{w a:ax}{b o:Nat}{v:bd}(hb:dd w.heap.size w a)(h:b<w.heap.size)(hc:w.cell? (b,o)=de v):∀n:ox a,n.o.cell? (b,o)=de v:=λn=>((hb.t (n.kj.m hb.size)).cell (p:=(b,o)) h).t hc
theorem IR{P:Program}{ops:Array Oper}{Q:Exit->Act->ax->Prop}{a:Act}{w:ax}(h:∀b,RowKit.Hid (dd w.heap.size w b)->Q .normal a b):wpQuiet P ops (λw'=>∃n:ox w,w'=n.o) (λa'=>∀w',(∃n:ox w,w'=n.o)->Q .normal a' w') [] a:=
 bt (λw' ⟨n,e⟩=>e▸h n.o (ae n.kj))
end Go.Con
namespace Go.Con.Cha
set_option maxHeartbeats 8000000
def rotl(x:UInt32)(n:Nat):UInt32:=UInt32.ofNat ((x.toNat<<<n%4294967296)|||(x.toNat/2^(32-n)))
def eQ(s:List UInt32)(i:Nat):UInt32:=s.getD i 0
def Fj(s:List UInt32)(a b:Nat):List UInt32:=s.set a (eQ s a+eQ s b)
def JI(s:List UInt32)(a d n:Nat):List UInt32:=s.set d (rotl (eQ s d^^^eQ s a) n)
def turns(k:Nat):Nat:=match k with|0=>16|1=>12|2=>8|_=>7
def pa(a c k:Nat):Nat:=if k%2=0 then a else c
def KN(s:List UInt32)(a b c d k:Nat):List UInt32:=JI (Fj s (pa a c k) (pa b d k)) (pa a c k) (pa d b k) (turns k)
def qk(s:List UInt32)(a b c d:Nat):Nat->List UInt32
 |0=>s
 |k+1=>KN (qk s a b c d k) a b c d k
def quarter(s:List UInt32)(a b c d:Nat):List UInt32:=qk s a b c d 4
theorem ri(s:List UInt32)(a b c d k:Nat):(qk s a b c d k).length=s.length:=by
 induction k with
 |zero=>rfl
 |succ k e=>rw[qk,KN,JI,cD,Fj,cD,e]
def Ch(s:List UInt32):Nat->List UInt32
 |0=>s
 |i+1=>quarter (Ch s i) i (4+i) (8+i) (12+i)
def wW(s:List UInt32):Nat->List UInt32
 |0=>s
 |i+1=>quarter (wW s i) i (4+(i+1)%4) (8+(i+2)%4) (12+(i+3)%4)
def rounds(s:List UInt32):Nat->List UInt32
 |0=>s
 |r+1=>wW (Ch (rounds s r) 4) 4
theorem oM(s:List UInt32)(i:Nat):(Ch s i).length=s.length:=by
 induction i with
 |zero=>rfl
 |succ i a=>rw[Ch,quarter,ri,a]
theorem qL(s:List UInt32)(i:Nat):(wW s i).length=s.length:=by
 induction i with
 |zero=>rfl
 |succ i a=>rw[wW,quarter,ri,a]
theorem pE(s:List UInt32)(i:Nat):(rounds s i).length=s.length:=by
 induction i with
 |zero=>rfl
 |succ i a=>rw[rounds,qL,oM,a]
def word(b:List UInt8)(k:Nat):UInt32:=(b.getD k 0).toUInt32|||(b.getD (k+1) 0).toUInt32<<<8|||(b.getD (k+2) 0).toUInt32<<<16|||(b.getD (k+3) 0).toUInt32<<<24
def start(key:List UInt8)(counter:UInt32)(a:List UInt8):List UInt32:=
 [1634760805,857760878,2036477234,1797285236,word key 0,word key 4,word key 8,word key 12,word key 16,word key 20,word key 24,word key 28,counter,word a 0,word a 4,word a 8]
def JP(n:UInt32):List UInt8:=[n.toUInt8,(n>>>8).toUInt8,(n>>>16).toUInt8,(n>>>24).toUInt8]
def outs(x s:List UInt32):Nat->List UInt8
 |0=>[]
 |i+1=>outs x s i++JP (eQ x i+eQ s i)
def block(key:List UInt8)(counter:UInt32)(a:List UInt8):List UInt8:=
 outs (rounds (start key counter a) 10) (start key counter a) 16
theorem oH(x s:List UInt32)(i:Nat):(outs x s i).length=4*i:=by
 induction i with
 |zero=>rfl
 |succ i a=>rw[outs,aD,a];simp[JP];omega
theorem oe(key:List UInt8)(counter:UInt32)(a:List UInt8):(block key counter a).length=64:=oH _ _ 16
end Go.Con.Cha
namespace Go.Proofs.YtcdmenphjilnnaaGreatDoor
open Go.RowKit Go.Con
theorem MU(x:UInt32)(n:Nat)(a:0<n):bits .or .u32 ((x.toNat:Int)*2^n%4294967296) ((x.toNat:Int)/2^(32-n))=((Cha.rotl x n).toNat:Int):=by
 have h1:((x.toNat:Int)/2^(32-n))=((x.toNat/2^(32-n):Nat):Int):=by simp
 have h2:((x.toNat:Int)*2^n%4294967296)=((x.toNat<<<n%4294967296:Nat):Int):=by
  rw[nl];simp
 rw[h1,h2,u32_or_nat _ _ (fm _ (by decide)) (jk (Nat.div_le_self _ _) x.toNat_lt)];congr 1;unfold Cha.rotl;rw[UInt32.toNat_ofNat_of_lt'];exact Nat.or_lt_two_pow (n:=32) (fm _ (by decide)) (jk (Nat.div_le_self _ _) x.toNat_lt)
theorem Am(x:UInt32)(n:Nat)(w:ax)(h1:0<n)(h2:n<32):
  bl ed 137 #[.int .u32 x.toNat,n] w λe w'=>e= .returned (.int .u32 (Cha.rotl x n).toNat)/\∃k,w'=w.drewN k:=by
 go_enter func137,ntmps137
 go_wp2
 go_quiet (fail)
 go_wp2
 go_ret
 exact⟨by rw[<-MU x n h1];rfl,_,rfl⟩
theorem Ci(q:Int)(x:UInt32)(n:Int)(m:Nat)(w W:ax)(hq:q=x.toNat)(b:n=m)(h1:0<m)(h2:m<32)(a:∃k,W=w.drewN k):
  bl ed 137 #[.int .u32 q,n] W λe w'=>e= .returned (.int .u32 (Cha.rotl x m).toNat)/\∃k,w'=w.drewN k:=by
 subst hq b;obtain⟨k,rfl⟩:=a;refine(Am x m _ h1 h2).m ?_;rintro e w' ⟨he,j,rfl⟩;exact⟨he,k+j,World.drewN_drewN _ _ _⟩
def su(x:UInt32):bd:= .int .u32 x.toNat
def Words(w:ax)(b:Nat)(t:TypeId)(s:List UInt32):Prop:=w.heap[b]?=de (.cells (s.map su).toArray t (0,0))
theorem Words.cell{w:ax}{b:Nat}{t:TypeId}{s:List UInt32}(h:Words w b t s)(k:Nat)(hk:k<s.length):w.cell? (b,k)=de (.int .u32 (Cha.eQ s k).toNat):=
 ej h k (by simp[hk,su,Cha.eQ])
theorem Words.set{w:ax}{b:Nat}{t:TypeId}{s:List UInt32}(h:Words w b t s)(k:Nat)(x:UInt32):Words (w.setCell (b,k) (.int .u32 x.toNat)) b t (s.set k x):=by
 have h1:=aB (o:=k) h (.int .u32 x.toNat);rw[Words,h1];simp[su,List.map_set]
theorem Words.drewN{w:ax}{b:Nat}{t:TypeId}{s:List UInt32}(h:Words w b t s)(n:Nat):Words (w.drewN n) b t s:=h
theorem Jc(k:Nat)(hk:k<4)(W:ax):
  (Instr.index 183 (.agg #[(16:Int),(12:Int),(8:Int),(7:Int)]) k).run ed W= .ok (Cha.turns k) W:=by
 have h4:k=0\/k=1\/k=2\/k=3:=by omega
 rcases h4 with rfl|rfl|rfl|rfl<;>(show _=_;kernel_rfl)
theorem DC(k:Nat):0<Cha.turns k/\Cha.turns k<32:=by
 unfold Cha.turns;split<;>decide
theorem CR{a c n:Nat}(b:a<n)(hc:c<n)(k:Nat):Cha.pa a c k<n:=by unfold Cha.pa;split<;>assumption
theorem tz(a c k:Nat):Cha.pa a c (k+1)=Cha.pa c a k:=by
 unfold Cha.pa;by_cases h:k%2=0
 ·rw[ar h,ak (by omega)]
 ·rw[ak h,ar (by omega)]
theorem Dn(x y:UInt32):((x.toNat:Int)+(y.toNat:Int))%4294967296=((x+y).toNat:Int):=by
 rw[nj];omega
theorem zq(b a1 a2 a3 a4:Nat)(s:List UInt32)(w:ax)(hs:s.length=16)(h1:a1<16)(h2:a2<16)(h3:a3<16)(h4:a4<16)(N:Words w b 209 s):
  bl ed 122 #[(b,0),a1,a2,a3,a4] w
   λe w'=>e= .returned (.tuple #[])/\Words w' b 209 (Cha.quarter s a1 a2 a3 a4)/\Kept w.heap.size (λk=>k=b) w w':=by
 have HW:=ae N;have HT:=ae Jc;have H1:=ae h1;have I:=ae h2;have J:=ae h3;have K:=ae h4;have HS:=ae hs;clear N h1 h2 h3 h4 hs;go_enter func122,ntmps122
 go_wp2_with fail
 go_loopw [1,2,3,4,13] (λv1 v2 v3 v4 i wr=>∃k:Nat,k<=4/\i= .int .i64 k/\v1= .int .i64 (Cha.pa a1 a3 k)/\v2= .int .i64 (Cha.pa a2 a4 k)/\v3= .int .i64 (Cha.pa a3 a1 k)/\v4= .int .i64 (Cha.pa a4 a2 k)/\Words wr b 209 (Cha.qk s a1 a2 a3 a4 k)/\Kept w.heap.size (λk=>k=b) w wr)
  (λ_ _ _ _ i _=>4-(intOf i).toNat)
 case atStart=>exact⟨0,by omega,rfl,rfl,rfl,rfl,rfl,HW.o,Kept.refl _ _ _⟩
 case round=>
  obtain⟨k,hk,rfl,rfl,rfl,rfl,rfl,hw,hK⟩:=hrel;have L:=ae hK;have c:=ae hw;by_cases hlt:k<4
  ·have hA:=CR H1.o J.o k;have hB:=CR I.o K.o k;have hC:=CR J.o H1.o k;have hD:=CR K.o I.o k;have r:=DC k;have e1:=tz a1 a3 k;have e2:=tz a2 a4 k;have e3:=tz a3 a1 k;have m:=tz a4 a2 k;have E:Cha.qk s a1 a2 a3 a4 (k+1)=Cha.JI (Cha.Fj (Cha.qk s a1 a2 a3 a4 k) (Cha.pa a1 a3 k) (Cha.pa a2 a4 k)) (Cha.pa a1 a3 k) (Cha.pa a4 a2 k) (Cha.turns k):=rfl;have v:(Cha.qk s a1 a2 a3 a4 k).length=16:=by rw[Cha.ri];exact HS.o
   obtain⟨A,d⟩:=aK (Cha.pa a1 a3 k);obtain⟨B,f⟩:=aK (Cha.pa a2 a4 k);obtain⟨C,o⟩:=aK (Cha.pa a3 a1 k);obtain⟨D,g⟩:=aK (Cha.pa a4 a2 k);obtain⟨n,j⟩:=aK (Cha.turns k);obtain⟨q,t⟩:=aK (Cha.qk s a1 a2 a3 a4 k);rw[<-d,<-f,<-g,<-j,<-t]at E;rw[<-d]at hA e3;rw[<-f]at hB m;rw[<-o]at hC e1;rw[<-g]at hD e2;rw[<-j]at r;rw[<-t]at v c;rw[<-d,<-f,<-o,<-g];have ht:=HT.o k hlt;rw[<-j]at ht;have S:=ae e1;have T:=ae e2;have U:=ae e3;have V:=ae m;have Z:=ae E;have Y:=ae v;have c1:=c.o.cell A (by omega);have M:=c.o.cell B (by omega);have f1:=aO c.o A;obtain⟨x,hx⟩:=aK (Cha.eQ q A);obtain⟨y,hy⟩:=aK (Cha.eQ q B);rw[<-hx]at c1;rw[<-hy]at M;have HX:=ae hx;have HY:=ae hy;clear E v e1 e2 e3 m d f o g j t hx hy hw hK;go_wp2
   refine bQ 13 (by kernel_rfl) (by kernel_rfl) ?_;simp only[bH,cQ,bT,cC];repeat (go_big_quiet_step (fail))
   refine bt ?_;intro w9 F;obtain⟨nq,rfl⟩:=F;go_wp2
   rw[Dn];have a:Words ((wr.drewN nq).setCell (b,A) (.int .u32 ((x+y).toNat:Int))) b 209 (Cha.Fj q A B):=by
    have h:Words (wr.drewN nq) b 209 q:=c.o;have h2:=h.set A (x+y);rw[HX.o,HY.o]at h2|-;exact h2
   have p:Kept w.heap.size (λk=>k=b) w ((wr.drewN nq).setCell (b,A) (.int .u32 ((x+y).toNat:Int))):=(L.o.drewN nq).setCell (.inr rfl) _;obtain⟨R,O⟩:∃R,R=(wr.drewN nq).setCell (b,A) (.int .u32 ((x+y).toNat:Int)):=⟨_,rfl⟩
   rw[<-O]at a p|-;obtain⟨H,l⟩:=aK (Cha.Fj q A B);have X:=ae l;have a7:H.length=16:=by rw[l,Cha.Fj,cD];exact Y.o
   rw[<-l]at a;have a0:=ae a;have W:=ae p;have c3:=a.cell D (by omega);have c4:=a.cell A (by omega);have f2:=aO a D;obtain⟨z,G⟩:=aK (Cha.eQ H D);obtain⟨u,hu⟩:=aK (Cha.eQ H A);rw[<-G]at c3;rw[<-hu]at c4;have HZ:=ae G;have HU:=ae hu;have P:=lT z u;have a5:=ae P;clear a p O l a7 G hu c1 M f1 P;refine bQ 17 (by kernel_rfl) (by kernel_rfl) ?_;simp only[bH,cQ,bT,cC];repeat (go_big_quiet_step ((go_at_call 137;refine Ci _ (z^^^u) _ n _ _ a5.o rfl r.1 r.2 ⟨_,rfl⟩)))
   refine bt ?_;intro w9 F;obtain⟨Q,rfl⟩:=F;go_wp2
   go_roundw
   case rel=>
    refine⟨k+1,by omega,by go_num,?_,?_,?_,?_,?_,?_⟩
    ·rw[S.o]
    ·rw[T.o]
    ·rw[U.o]
    ·rw[V.o]
    ·have h:=a0.o.drewN Q|>.set D (Cha.rotl (z^^^u) n);rw[Z.o,Cha.JI,<-X.o,<-HZ.o,<-HU.o];exact h
    ·exact(W.o.drewN Q).setCell (.inr rfl) _
   case measure=>simp[intOf];omega
  ·have a6:k=4:=by omega
   subst a6;clear hw hK;go_wp2
   go_end0
   exact⟨rfl,c.o,L.o⟩
theorem yN(a b c d:UInt8):
  bits .or .u32 (bits .or .u32 (bits .or .u32 ((a.toNat:Int)%4294967296) ((b.toNat:Int)%4294967296*256%4294967296)) ((c.toNat:Int)%4294967296*65536%4294967296)) ((d.toNat:Int)%4294967296*16777216%4294967296)
   =((a.toUInt32|||b.toUInt32<<<8|||c.toUInt32<<<16|||d.toUInt32<<<24).toNat:Int):=by
 rw[yS,yS,yS,yS,we _ 24 24 16777216 (by decide) rfl (by decide),we _ 16 16 65536 (by decide) rfl (by decide),we _ 8 8 256 (by decide) rfl (by decide),oR,oR,oR]
theorem sA(b off n c:Nat)(a d f g:UInt8)(w:ax)(h:4<=n)(hc:n<=c)(h0:w.cell? (b,off)=de (.int .u8 a.toNat))(h1:w.cell? (b,off+1)=de (.int .u8 d.toNat))(h2:w.cell? (b,off+2)=de (.int .u8 f.toNat))(h3:w.cell? (b,off+3)=de (.int .u8 g.toNat)):
  bl ed 121 #[.slice (b,off) n c] w λe w'=>e= .returned (.int .u32 (a.toUInt32|||d.toUInt32<<<8|||f.toUInt32<<<16|||g.toUInt32<<<24).toNat)/\∃k,w'=w.drewN k:=by
 have k0:(0:Int)<(n:Int):=by omega
 have k1:(1:Int)<(n:Int):=by omega
 have k2:(2:Int)<(n:Int):=by omega
 have k3:(3:Int)<(n:Int):=by omega
 go_enter func121,ntmps121
 go_wp2
 go_quiet (fail)
 go_wp2
 go_ret
 exact⟨by rw[<-yN];rfl,_,rfl⟩
end Go.Proofs.YtcdmenphjilnnaaGreatDoor
namespace Go.Con.Cha
set_option maxHeartbeats 4000000
def ld(key:List UInt8):Nat->List UInt32
 |0=>[1634760805,857760878,2036477234,1797285236,0,0,0,0,0,0,0,0,0,0,0,0]
 |k+1=>(ld key k).set (4+k) (word key (4*k))
def ln(key:List UInt8)(counter:UInt32)(a:List UInt8):Nat->List UInt32
 |0=>(ld key 8).set 12 counter
 |k+1=>(ln key counter a k).set (13+k) (word a (4*k))
theorem ry(key:List UInt8)(k:Nat):(ld key k).length=16:=by
 induction k with
 |zero=>rfl
 |succ k a=>rw[ld,cD,a]
theorem Et(key:List UInt8)(counter:UInt32)(b:List UInt8)(k:Nat):(ln key counter b k).length=16:=by
 induction k with
 |zero=>rw[ln,cD,ry]
 |succ k a=>rw[ln,cD,a]
theorem GG(key:List UInt8)(counter:UInt32)(a:List UInt8):ln key counter a 3=start key counter a:=rfl
theorem JD(x s:List UInt32)(N k m:Nat)(hk:k<N)(hm:m<4):(outs x s N).getD (4*k+m) 0=(JP (eQ x k+eQ s k)).getD m 0:=by
 induction N with
 |zero=>omega
 |succ N a=>
  have hl:=oH x s N;have h4:(JP (eQ x N+eQ s N)).length=4:=rfl;simp only[outs,au];by_cases h:k<N
  ·rw[bU (by omega)];have:=a h;simpa only[au]using this
  ·have:k=N:=by omega
   subst this;rw[bF (by omega),hl,gA]
end Go.Con.Cha
namespace Go.Proofs.YtcdmenphjilnnaaGreatDoor
open Go.RowKit Go.Con
set_option maxHeartbeats 4000000
theorem Words.range{w:ax}{b:Nat}{t:TypeId}{s:List UInt32}(h:Words w b t s):w.rangeAt b 0 (s.map su):=λj v hv=>by
 rw[ca];exact ej h j (by simpa using hv)
def Room(w:ax)(b n:Nat)(t:TypeId):Prop:=∃a,w.heap[b]?=de (.cells a t (0,0))/\a.size=n
theorem Room.keep{w w':ax}{b n B:Nat}{t:TypeId}{S:Nat->Prop}(h:Room w b n t)(hk:Kept B S w w')(hb:b<B)(hs:¬S b):Room w' b n t:=by
 obtain⟨a,h1,h2⟩:=h;exact⟨a,(hk.block b hb hs).t h1,h2⟩
theorem Room.set{w:ax}{b n a k:Nat}{t:TypeId}{v:bd}(h:Room w b n t):Room (w.setCell (a,k) v) b n t:=by
 obtain⟨c,h1,h2⟩:=h;by_cases e:b=a
 ·subst e;exact⟨_,aB h1 v,by simpa using h2⟩
 ·exact⟨c,by rw[aA _ _ e];exact h1,h2⟩
theorem Room.cellAt{w:ax}{b n:Nat}{t:TypeId}(h:Room w b n t)(j:Nat)(hj:j<n):∃v,w.cell? (b,j)=de v:=by
 obtain⟨a,h1,h2⟩:=h;exact⟨_,uS h1 j (by omega)⟩
theorem Room.aO{w:ax}{b n:Nat}{t:TypeId}(h:Room w b n t)(j:Nat):w.frozen? (b,j)=dT:=by
 obtain⟨a,h1,h2⟩:=h;exact Go.Con.aO h1 j
theorem Room.drewN{w:ax}{b n:Nat}{t:TypeId}(h:Room w b n t)(m:Nat):Room (w.drewN m) b n t:=h
theorem tT(b a1 a2 a3 a4:Nat)(a c d f:Int)(s:List UInt32)(w:ax)(e1:a=a1)(e2:c=a2)(e3:d=a3)(g:f=a4)(hs:s.length=16)(h1:a1<16)(h2:a2<16)(h3:a3<16)(h4:a4<16)(h:Words w b 209 s):
  bl ed 122 #[(b,0),a,c,d,f] w
   λe w'=>e= .returned (.tuple #[])/\Words w' b 209 (Cha.quarter s a1 a2 a3 a4)/\Kept w.heap.size (λk=>k=b) w w':=by
 subst e1 e2 e3 g;exact zq b a1 a2 a3 a4 s w hs h1 h2 h3 h4 h
theorem Words.kept{w w':ax}{b B:Nat}{t:TypeId}{s:List UInt32}{S:Nat->Prop}(h:Words w b t s)(hk:Kept B S w w')(hb:b<B)(hs:¬S b):Words w' b t s:=(hk.block b hb hs).t h
theorem Words.other{w:ax}{b:Nat}{t:TypeId}{s:List UInt32}(h:Words w b t s)(a k:Nat)(v:bd)(hb:b≠a):Words (w.setCell (a,k) v) b t s:=(aA k v hb).t h
theorem No(n:UInt32):fs ((Cha.JP n).getD 0 0)= .int .u8 (n.toNat%256):=by
 show Value.int .u8 (n.toUInt8.toNat:Int)=_;rw[nL];simp
theorem Nn(n:UInt32):fs ((Cha.JP n).getD 1 0)= .int .u8 (n.toNat/256%256):=by
 show Value.int .u8 ((n>>>8).toUInt8.toNat:Int)=_;rw[nL,lJ,kA];simp
theorem Nm(n:UInt32):fs ((Cha.JP n).getD 2 0)= .int .u8 (n.toNat/65536%256):=by
 show Value.int .u8 ((n>>>16).toUInt8.toNat:Int)=_;rw[nL,lJ,kA];simp
theorem Nl(n:UInt32):fs ((Cha.JP n).getD 3 0)= .int .u8 (n.toNat/16777216%256):=by
 show Value.int .u8 ((n>>>24).toUInt8.toNat:Int)=_;rw[nL,lJ,kA];simp
def lj(w:ax)(b n:Nat)(t:TypeId)(f:Nat->bd)(m:Nat):Prop:=∃a,w.heap[b]?=de (.cells a t (0,0))/\a.size=n/\∀j,j<m->a[j]?=de (f j)
theorem lj.next{w:ax}{b n m:Nat}{t:TypeId}{f:Nat->bd}(h:lj w b n t f m)(hm:m<n)(v:bd)(hv:v=f m):lj (w.setCell (b,m) v) b n t f (m+1):=by
 obtain⟨a,h1,h2,h3⟩:=h;exact yc 0 h1 h2 hm h3 hv
theorem lj.cell{w:ax}{b n m:Nat}{t:TypeId}{f:Nat->bd}(h:lj w b n t f m)(j:Nat)(hj:j<n):∃v,w.cell? (b,j)=de v:=by
 obtain⟨a,h1,h2,h3⟩:=h;exact⟨_,uS h1 j (by omega)⟩
theorem lj.free{w:ax}{b n m:Nat}{t:TypeId}{f:Nat->bd}(h:lj w b n t f m)(j:Nat):w.frozen? (b,j)=dT:=by
 obtain⟨a,h1,h2,h3⟩:=h;exact aO h1 j
theorem lj.full{w:ax}{b n:Nat}{t:TypeId}{f:Nat->bd}(h:lj w b n t f n):w.heap[b]?=de (.cells ((List.range n).map f).toArray t (0,0)):=by
 obtain⟨a,h1,h2,h3⟩:=h;rw[h1];have e:a=((List.range n).map f).toArray:=by
  apply Array.ext (by simp[h2]);intro j k1 k2;have hj:j<n:=by omega
  have h4:=h3 j hj;rw[bm k1]at h4;injection h4 with h4;rw[h4];simp
 rw[e]
theorem uT(kb ko kc nb no nc:Nat)(key o:List UInt8)(counter:UInt32)(w:ax)(hkl:key.length=32)(d5:o.length=12)
  (hk:Rd w (.slice (kb,ko) 32 kc) key)(N:Rd w (.slice (nb,no) 12 nc) o):
  bl ed 91 #[.slice (kb,ko) 32 kc,.int .u32 counter.toNat,.slice (nb,no) 12 nc] w
   λe w'=>e= .returned (.agg ((Cha.block key counter o).map fs).toArray)/\dd w.heap.size w w':=by
 have b9:=ae hk;have c3:=ae N;have b8:=ae hkl;have c0:=ae d5;clear hk N hkl d5;go_enter func91,ntmps91
 go_wp2_with fail
 have d2:∀(W:ax),dd w.heap.size w W->∀i,i<32->W.cell? (kb,ko+i)=de (.int .u8 (key.getD i 0).toNat):=by
  intro W hW i hi;obtain⟨a',c',e,_,_,_,h⟩:=b9.o.stay hW;obtain⟨b,off,H,h2⟩:=h (by intro h;have:=b8.o;rw[h]at this;cases this);injection e with e1 e2 e3;subst e1;injection H with H;injection H with e5 e6;subst e5 e6;exact h2 i (by rw[b8.o];exact hi)
 have d4:∀(W:ax),dd w.heap.size w W->∀i,i<12->W.cell? (nb,no+i)=de (.int .u8 (o.getD i 0).toNat):=by
  intro W hW i hi;obtain⟨a',c',e,_,_,_,h⟩:=c3.o.stay hW;obtain⟨b,off,H,h2⟩:=h (by intro h;have:=c0.o;rw[h]at this;cases this);injection e with e1 e2 e3;subst e1;injection H with H;injection H with e5 e6;subst e5 e6;exact h2 i (by rw[c0.o];exact hi)
 have T:=ae d2;have U:=ae d4;have j2:32<=kc:=by obtain⟨_,_,e,h,_⟩:=b9.o;injection e with e1 e2 e3;omega
 have j6:12<=nc:=by obtain⟨_,_,e,h,_⟩:=c3.o;injection e with e1 e2 e3;omega
 clear d2 d4;go_loopw [17] (λi wr=>∃k:Nat,k<=8/\i= .int .i64 k/\Words wr (w.heap.size+1) 209 (Cha.ld key k)/\Room wr w.heap.size 64 177/\dd w.heap.size w wr)
  (λi _=>8-(intOf i).toNat)
 case atStart=>exact⟨0,by omega,rfl,gl _ _ _,⟨_,gT _ _ _,rfl⟩,((aj _ _).alloc (ag _) _).alloc (by simp) _⟩
 case round=>
  obtain⟨k,hk,rfl,hw,hr,hb⟩:=hrel;have A:=ae hw;have l:=ae hr;have f:=ae hb;by_cases hlt:k<8
  ·have L:=T.o wr hb (4*k) (by omega);have g1:=T.o wr hb (4*k+1) (by omega);have g2:=T.o wr hb (4*k+2) (by omega);have D:=T.o wr hb (4*k+3) (by omega);have cc:=(hw.cell (4+k) (by rw[Cha.ry];omega))
   have ff:=aO hw (4+k);clear hw hr hb;go_wp2_with fail
   refine(sA kb (ko+4*k) (32-4*k) (kc-4*k) (key.getD (4*k) 0) (key.getD (4*k+1) 0) (key.getD (4*k+2) 0) (key.getD (4*k+3) 0) wr (by omega) (by omega) L g1 g2 D).m ?_;rintro e w3 ⟨rfl,nq,rfl⟩;clear L g1 g2 D;obtain⟨x,hx⟩:=aK (Cha.word key (4*k));have R:((key.getD (4*k) 0).toUInt32|||(key.getD (4*k+1) 0).toUInt32<<<8|||(key.getD (4*k+2) 0).toUInt32<<<16|||(key.getD (4*k+3) 0).toUInt32<<<24)=x:=hx.symm;rw[R];have g:=ae hx;clear hx R;go_wp2
   go_roundw
   case rel=>
    refine⟨k+1,by omega,by go_num,?_,(l.o.drewN nq).set,(below_drewN f.o nq).setCell (by simp) _⟩;rw[Cha.ld,<-g.o];exact(A.o.drewN nq).set (4+k) x
   case measure=>simp[intOf];omega
  ·have d3:k=8:=by omega
   rw[d3]at hw;clear d3;have A:=ae hw;have cc:=(hw.cell 12 (by rw[Cha.ry];omega))
   have ff:=aO hw 12;clear hw hr hb;go_wp2_with fail
   have b7:Words (wr.setCell (w.heap.size+1,12) (.int .u32 counter.toNat)) (w.heap.size+1) 209 (Cha.ln key counter o 0):=A.o.set 12 counter;have b6:Room (wr.setCell (w.heap.size+1,12) (.int .u32 counter.toNat)) w.heap.size 64 177:=l.o.set;have b1:dd w.heap.size w (wr.setCell (w.heap.size+1,12) (.int .u32 counter.toNat)):=f.o.setCell (by simp) _;obtain⟨w1,f4⟩:=aK (wr.setCell (w.heap.size+1,12) (.int .u32 counter.toNat));rw[<-f4]at b7 b6 b1|-;have h8:=ae b7;have g9:=ae b6;have f7:=ae b1;clear b7 b6 b1 f4 cc ff;go_loopw [31] (λi wr=>∃k:Nat,k<=3/\i= .int .i64 k/\Words wr (w.heap.size+1) 209 (Cha.ln key counter o k)/\Room wr w.heap.size 64 177/\dd w.heap.size w wr)
    (λi _=>3-(intOf i).toNat)
   case atStart=>exact⟨0,by omega,rfl,h8.o,g9.o,f7.o⟩
   case round=>
    obtain⟨j,hj,rfl,hw,hr,hb⟩:=hrel;have A:=ae hw;have l:=ae hr;have f:=ae hb;by_cases j3:j<3
    ·have L:=U.o _ hb (4*j) (by omega);have g1:=U.o _ hb (4*j+1) (by omega);have g2:=U.o _ hb (4*j+2) (by omega);have D:=U.o _ hb (4*j+3) (by omega);have cc:=(hw.cell (13+j) (by rw[Cha.Et];omega))
     have ff:=aO hw (13+j);clear hw hr hb;go_wp2_with fail
     refine(sA nb (no+4*j) (12-4*j) (nc-4*j) (o.getD (4*j) 0) (o.getD (4*j+1) 0) (o.getD (4*j+2) 0) (o.getD (4*j+3) 0) _ (by omega) (by omega) L g1 g2 D).m ?_;rintro e w3 ⟨rfl,nq,rfl⟩;clear L g1 g2 D;obtain⟨x,hx⟩:=aK (Cha.word o (4*j));have R:((o.getD (4*j) 0).toUInt32|||(o.getD (4*j+1) 0).toUInt32<<<8|||(o.getD (4*j+2) 0).toUInt32<<<16|||(o.getD (4*j+3) 0).toUInt32<<<24)=x:=hx.symm;rw[R];have g:=ae hx;clear hx R;go_wp2
     go_roundw
     case rel=>
      refine⟨j+1,by omega,by go_num,?_,(l.o.drewN nq).set,(below_drewN f.o nq).setCell (by simp) _⟩;rw[Cha.ln,<-g.o];exact(A.o.drewN nq).set (13+j) x
     case measure=>simp[intOf];omega
    ·have d1:j=3:=by omega
     rw[d1,Cha.GG]at hw;clear d1;have A:=ae hw;obtain⟨s,hs⟩:=aK (Cha.start key counter o);rw[<-hs]at A;have HS:=ae hs;have f0:s.length=16:=by rw[hs];rfl
     have K:=ae f0;have hrg:(_:ax).rangeAt (w.heap.size+1) 0 (s.map su):=Words.range A.o;clear hw hr hb hs f0;have Q:∀W:ax,(W.alloc (.cells #[.int .u32 0,.int .u32 0,.int .u32 0,.int .u32 0,.int .u32 0,.int .u32 0,.int .u32 0,.int .u32 0,.int .u32 0,.int .u32 0,.int .u32 0,.int .u32 0,.int .u32 0,.int .u32 0,.int .u32 0,.int .u32 0] 209)).there W.heap.size 0 16:=λW=>dr (aL W _) rfl;have h4:=ae Q;have f1:(s.map su).toArray.size=16:=by simp[K.o]
     have SZ:=ae f1;clear Q f1;go_wp2_with (first
      |(refine cM rfl 209 (.tmp 7) rfl (w.heap.size+1) 0 rfl (s.map su) _ hrg Tryz.underlying209 rfl (by rw[aY,K.o];kernel_rfl) ?_)
      |(refine bz rfl 209 (.tmp 10) (.tmp 43) rfl wr.heap.size 0 (s.map su).toArray rfl rfl (by rw[SZ.o];exact h4.o _) (by rw[SZ.o];kernel_rfl) (dx (by intro v hv;obtain⟨x,_,rfl⟩:=cH.1 hv;rfl)) ?_))
     generalize M:World.setCells _ _ _ _=w5;obtain⟨C,b2⟩:=aK wr.heap.size;have f5:Words w5 C 209 s:=by
      rw[<-M,b2];exact dI (aL wr _) (by simp[K.o])
     have b3:=hF A.o;have d6:Words w5 (w.heap.size+1) 209 s:=by
      rw[<-M];exact(bE (by omega) _ _ _).t ((bC _ _ _ b3).t A.o)
     have e4:Room w5 w.heap.size 64 177:=by
      obtain⟨G,h1,h2⟩:=l.o;exact⟨G,by rw[<-M];exact(bE (by omega) _ _ _).t ((bC _ _ _ (by omega)).t h1),h2⟩
     have hb5:dd w.heap.size w w5:=by
      rw[<-M];exact bp (by omega) _ _ _ (f.o.alloc (by omega) _)
     have i6:w.heap.size+1<C:=by omega
     rw[<-b2];have a8:=ae f5;have g4:=ae d6;have h0:=ae e4;have f8:=ae hb5;have h7:=ae M;clear f5 d6 e4 hb5 M hrg b3 b2 h7;go_loopw [44] (λi wr=>∃r:Nat,r<=10/\i= .int .i64 r/\Words wr C 209 (Cha.rounds s r)/\Words wr (w.heap.size+1) 209 s/\Room wr w.heap.size 64 177/\dd w.heap.size w wr)
      (λi _=>10-(intOf i).toNat)
     case atStart=>exact⟨0,by omega,rfl,a8.o,g4.o,h0.o,f8.o⟩
     case round=>
      obtain⟨r,j8,rfl,hx,ho,hr,hb⟩:=hrel;have g:=ae hx;have p:=ae ho;have l:=ae hr;have f:=ae hb;clear hx ho hr hb;by_cases j4:r<10
      ·obtain⟨t,ht⟩:=aK (Cha.rounds s r);have f3:t.length=16:=by rw[ht,Cha.pE];exact K.o
       have h6:=ae ht;have c4:=ae f3;rw[<-ht]at g;clear ht f3;have i3:decide ((r:Int)<10)=dE:=by rw[ap];omega
       go_wp2_with fail
       go_loopw [46] (λi wr=>∃c:Nat,c<=4/\i= .int .i64 c/\Words wr C 209 (Cha.Ch t c)/\Words wr (w.heap.size+1) 209 s/\Room wr w.heap.size 64 177/\dd w.heap.size w wr)
        (λi _=>4-(intOf i).toNat)
       case atStart=>exact⟨0,by omega,rfl,g.o,p.o,l.o,f.o⟩
       case round=>
        obtain⟨c,i7,rfl,hx,ho,hr,hb⟩:=hrel;have g:=ae hx;have p:=ae ho;have l:=ae hr;have f:=ae hb;clear hx ho hr hb;by_cases j5:c<4
        ·go_wp2_with fail
         refine(tT C c (4+c) (8+c) (12+c) _ _ _ _ (Cha.Ch t c) _ rfl (by simp) (by simp) (by simp) (by rw[Cha.oM];exact c4.o) (by omega) (by omega) (by omega) (by omega) g.o).m ?_;rintro e w6 ⟨rfl,S,E⟩;have b4:=hF g.o;have a9:=ae S;have a6:=ae (p.o.kept E (by omega) (by omega));have a7:=ae (l.o.keep E (by omega) (by omega));have a4:=ae (f.o.t ((E.m (B':=w.heap.size) (S':=λ_=>False) f.o.size (λk hk e=>by omega)).below (λ_ _ h=>h)));clear S E b4;go_wp2
         go_roundw
         case rel=>exact⟨c+1,by omega,by go_num,a9.o,a6.o,a7.o,a4.o⟩
         case measure=>simp[intOf];omega
        ·have hc:c=4:=by omega
         have J:=g.o;rw[hc]at J;have c5:=ae J;have i9:decide ((c:Int)<4)=dT:=by simp;omega
         have HC:=ae hc;clear hc J g;obtain⟨q,hq⟩:=aK (Cha.Ch t 4);have d9:q.length=16:=by rw[hq,Cha.oM];exact c4.o
         have g8:=ae hq;have g7:=ae d9;rw[<-hq]at c5;clear hq d9;go_wp2_with fail
         go_loopw [58] (λi wr=>∃d:Nat,d<=4/\i= .int .i64 d/\Words wr C 209 (Cha.wW q d)/\Words wr (w.heap.size+1) 209 s/\Room wr w.heap.size 64 177/\dd w.heap.size w wr)
          (λi _=>4-(intOf i).toNat)
         case atStart=>exact⟨0,by omega,rfl,c5.o,p.o,l.o,f.o⟩
         case round=>
          obtain⟨d,i8,rfl,hx,ho,hr,hb⟩:=hrel;have g:=ae hx;have p:=ae ho;have l:=ae hr;have f:=ae hb;clear hx ho hr hb;by_cases b3:d<4
          ·go_wp2_with fail
           refine(tT C d (4+(d+1)%4) (8+(d+2)%4) (12+(d+3)%4) _ _ _ _ (Cha.wW q d) _ rfl (by omega) (by omega) (by omega) (by rw[Cha.qL];exact g7.o) (by omega) (by omega) (by omega) (by omega) g.o).m ?_;rintro e w6 ⟨rfl,S,E⟩;have b4:=hF g.o;have a9:=ae S;have a6:=ae (p.o.kept E (by omega) (by omega));have a7:=ae (l.o.keep E (by omega) (by omega));have a4:=ae (f.o.t ((E.m (B':=w.heap.size) (S':=λ_=>False) f.o.size (λk hk e=>by omega)).below (λ_ _ h=>h)));clear S E b4;go_wp2
           go_roundw
           case rel=>exact⟨d+1,by omega,by go_num,a9.o,a6.o,a7.o,a4.o⟩
           case measure=>simp[intOf];omega
          ·have hd:d=4:=by omega
           have J:=g.o;rw[hd]at J;have a8:=ae J;have j0:decide ((d:Int)<4)=dT:=by simp;omega
           clear hd J g;go_wp2_with fail
           go_roundw
           case rel=>
            refine⟨r+1,by omega,by go_num,?_,p.o,l.o,f.o⟩;have h:=a8.o;rw[g8.o,h6.o]at h;exact h
           case measure=>simp[intOf];omega
      ·have e0:r=10:=by omega
       have a3:=g.o;rw[e0]at a3;have i3:decide ((r:Int)<10)=dT:=by simp;omega
       obtain⟨X,a1⟩:=aK (Cha.rounds s 10);have c7:X.length=16:=by rw[a1,Cha.pE];exact K.o
       rw[<-a1]at a3;have V:=ae a3;have i1:=ae a1;have i0:=ae c7;clear e0 a3 a1 c7 g;go_wp2_with fail
       obtain⟨O,I⟩:=aK (wr.alloc (.cells (Array.replicate 64 (.int .u8 0)) 177));obtain⟨a,a2⟩:=aK wr.heap.size;have j7:C<a/\w.heap.size+1<a:=by rw[a2];exact⟨hF V.o,hF p.o⟩
       have f6:Words O C 209 X:=by rw[I];exact(bC _ _ _ (hF V.o)).t V.o
       have d7:Words O (w.heap.size+1) 209 s:=by rw[I];exact(bC _ _ _ (hF p.o)).t p.o
       have e8:Room O w.heap.size 64 177:=by
        obtain⟨G,h1,h2⟩:=l.o;exact⟨G,by rw[I];exact(bC _ _ _ (hF h1)).t h1,h2⟩
       have c8:dd w.heap.size w O:=by rw[I];exact f.o.alloc (f.o.size) _
       have d8:lj O a 64 177 (λj=>fs ((Cha.outs X s 16).getD j 0)) 0:=⟨Array.replicate 64 (.int .u8 0),by rw[I,a2];exact aL _ _,by simp,λj hj=>by omega⟩
       have e7:wr.alloc (.cells #[.int .u8 0,.int .u8 0,.int .u8 0,.int .u8 0,.int .u8 0,.int .u8 0,.int .u8 0,.int .u8 0,.int .u8 0,.int .u8 0,.int .u8 0,.int .u8 0,.int .u8 0,.int .u8 0,.int .u8 0,.int .u8 0,.int .u8 0,.int .u8 0,.int .u8 0,.int .u8 0,.int .u8 0,.int .u8 0,.int .u8 0,.int .u8 0,.int .u8 0,.int .u8 0,.int .u8 0,.int .u8 0,.int .u8 0,.int .u8 0,.int .u8 0,.int .u8 0,.int .u8 0,.int .u8 0,.int .u8 0,.int .u8 0,.int .u8 0,.int .u8 0,.int .u8 0,.int .u8 0,.int .u8 0,.int .u8 0,.int .u8 0,.int .u8 0,.int .u8 0,.int .u8 0,.int .u8 0,.int .u8 0,.int .u8 0,.int .u8 0,.int .u8 0,.int .u8 0,.int .u8 0,.int .u8 0,.int .u8 0,.int .u8 0,.int .u8 0,.int .u8 0,.int .u8 0,.int .u8 0,.int .u8 0,.int .u8 0,.int .u8 0,.int .u8 0] 177)=O:=I.symm;rw[e7,<-a2];have h9:=ae f6;have g5:=ae d7;have h3:=ae e8;have f9:=ae c8;have g6:=ae d8;clear f6 d7 e8 c8 d8 I e7 a2 V p l f;go_loopw [77] (λi wr=>∃k:Nat,k<=16/\i= .int .i64 k/\lj wr a 64 177 (λj=>fs ((Cha.outs X s 16).getD j 0)) (4*k)/\Words wr C 209 X/\Words wr (w.heap.size+1) 209 s/\Room wr w.heap.size 64 177/\dd w.heap.size w wr)
        (λi _=>16-(intOf i).toNat)
       case atStart=>exact⟨0,by omega,rfl,g6.o,h9.o,g5.o,h3.o,f9.o⟩
       case round=>
        obtain⟨k,j1,rfl,hp,hx,ho,hr,hb⟩:=hrel;have HP:=ae hp;have g:=ae hx;have p:=ae ho;have l:=ae hr;have f:=ae hb;by_cases i5:k<16
        ·obtain⟨y,hy⟩:=aK (Cha.eQ X k);obtain⟨z,hz⟩:=aK (Cha.eQ s k);have c1:=hx.cell k (by rw[i0.o];omega);have c2:=ho.cell k (by rw[K.o];omega);rw[<-hy]at c1;rw[<-hz]at c2;have HY:=ae hy;have HZ:=ae hz;clear hp hx ho hr hb hy hz;go_wp2
         go_quiet (fail)
         rw[Dn];obtain⟨n,N⟩:=aK (y+z);rw[<-N];have g3:=ae N;clear N c1 c2;have F:Room (wr.drewN nq) a 64 177:=by obtain⟨G,h1,h2,_⟩:=HP.o;exact⟨G,h1,h2⟩
         obtain⟨u0,L⟩:=F.cellAt (4*k) (by omega);have z0:=F.aO (4*k);have g1:∀v0,∃u,((wr.drewN nq).setCell (a,4*k) v0).cell? (a,4*k+1)=de u:=λv0=>F.set.cellAt _ (by omega);have z1:∀v0,((wr.drewN nq).setCell (a,4*k) v0).frozen? (a,4*k+1)=dT:=λv0=>F.set.aO _;have g2:∀v0 v1,∃u,(((wr.drewN nq).setCell (a,4*k) v0).setCell (a,4*k+1) v1).cell? (a,4*k+2)=de u:=λv0 v1=>F.set.set.cellAt _ (by omega);have z2:∀v0 v1,(((wr.drewN nq).setCell (a,4*k) v0).setCell (a,4*k+1) v1).frozen? (a,4*k+2)=dT:=λv0 v1=>F.set.set.aO _;have D:∀v0 v1 v2,∃u,((((wr.drewN nq).setCell (a,4*k) v0).setCell (a,4*k+1) v1).setCell (a,4*k+2) v2).cell? (a,4*k+3)=de u:=λv0 v1 v2=>F.set.set.set.cellAt _ (by omega);have z3:∀v0 v1 v2,((((wr.drewN nq).setCell (a,4*k) v0).setCell (a,4*k+1) v1).setCell (a,4*k+2) v2).frozen? (a,4*k+3)=dT:=λv0 v1 v2=>F.set.set.set.aO _;obtain⟨y1,g1⟩:∃y1:bd->bd,∀v0,((wr.drewN nq).setCell (a,4*k) v0).cell? (a,4*k+1)=de (y1 v0):=⟨λv=>(g1 v).choose,λv=>(g1 v).choose_spec⟩
         obtain⟨y2,g2⟩:∃y2:bd->bd->bd,∀v0 v1,(((wr.drewN nq).setCell (a,4*k) v0).setCell (a,4*k+1) v1).cell? (a,4*k+2)=de (y2 v0 v1):=⟨λv w=>(g2 v w).choose,λv w=>(g2 v w).choose_spec⟩
         obtain⟨y3,D⟩:∃y3:bd->bd->bd->bd,∀v0 v1 v2,((((wr.drewN nq).setCell (a,4*k) v0).setCell (a,4*k+1) v1).setCell (a,4*k+2) v2).cell? (a,4*k+3)=de (y3 v0 v1 v2):=⟨λv w x=>(D v w x).choose,λv w x=>(D v w x).choose_spec⟩
         clear F;go_wp2
         go_roundw
         case rel=>
          have Y:∀m,m<4->(Cha.outs X s 16).getD (4*k+m) 0=(Cha.JP n).getD m 0:=λm hm=>by
           rw[g3.o,HY.o,HZ.o];exact Cha.JD X s 16 k m i5 hm
          refine⟨k+1,by omega,by go_num,?_,(((g.o.drewN nq|>.other a _ _ (by omega)).other a _ _ (by omega)).other a _ _ (by omega)).other a _ _ (by omega),(((p.o.drewN nq|>.other a _ _ (by omega)).other a _ _ (by omega)).other a _ _ (by omega)).other a _ _ (by omega),(l.o.drewN nq).set.set.set.set,((((below_drewN f.o nq).setCell (by show w.heap.size<=a;omega) _).setCell (by show w.heap.size<=a;omega) _).setCell (by show w.heap.size<=a;omega) _).setCell (by show w.heap.size<=a;omega) _⟩;have p0:lj (wr.drewN nq) a 64 177 (λj=>fs ((Cha.outs X s 16).getD j 0)) (4*k):=HP.o;have p1:=p0.next (by omega) (.int .u8 (n.toNat%256)) (by rw[show(4*k)=4*k+0 from rfl,Y 0 (by omega)];exact(No n).symm);have p2:=p1.next (by omega) (.int .u8 (n.toNat/256%256)) (by rw[Y 1 (by omega)];exact(Nn n).symm);have p3:=p2.next (by omega) (.int .u8 (n.toNat/65536%256)) (by rw[show 4*k+1+1=4*k+2 from rfl,Y 2 (by omega)];exact(Nm n).symm);have p4:=p3.next (by omega) (.int .u8 (n.toNat/16777216%256)) (by rw[show 4*k+1+1+1=4*k+3 from rfl,Y 3 (by omega)];exact(Nl n).symm);exact p4
         case measure=>simp[intOf];omega
        ·have hk:k=16:=by omega
         have b5:=HP.o;rw[hk]at b5;obtain⟨B,Z⟩:=aK (Cha.outs X s 16);have a0:B.length=64:=by rw[Z];exact Cha.oH _ _ 16
         have hf:=b5.full;have e9:(List.range 64).map (λj=>fs ((Cha.outs X s 16).getD j 0))=B.map fs:=by
          rw[<-Z];apply List.ext_getElem (by simp[a0]);intro j h1 h2;have hj:j<B.length:=by simpa using h2
          simp[hj]
         rw[e9]at hf;have HF:=ae hf;have g0:=ae Z;have a5:=ae a0;have hrg:=bu hf;have Q:wr.there w.heap.size 0 64:=by
          obtain⟨G,h1,h2⟩:=hr;exact dr h1 h2
         have h5:=ae Q;have f2:(B.map fs).toArray.size=64:=by simp[a0]
         have c6:=ae f2;clear hp hx ho hr hb hk b5 hf e9 Z a0 Q f2;go_wp2_with (first
          |(refine cM rfl 177 (.tmp 13) rfl a 0 rfl (B.map fs) _ hrg Tryz.underlying177 rfl (by rw[aY,a5.o];kernel_rfl) ?_)
          |(refine bz rfl 177 (.tmp 6) (.tmp 114) rfl w.heap.size 0 (B.map fs).toArray rfl rfl (by rw[c6.o];exact h5.o) (by rw[c6.o];kernel_rfl) (dx (by intro v hv;obtain⟨x,_,rfl⟩:=cH.1 hv;rfl)) ?_))
         generalize b0:World.setCells _ _ _ _=w9;have i2:dd w.heap.size w w9:=by rw[<-b0];exact bp (ag _) _ _ _ f.o
         have d0:w9.heap[w.heap.size]?=de (.cells (B.map fs).toArray 177 (0,0)):=by
          obtain⟨G,h1,h2⟩:=l.o;rw[<-b0];exact dI h1 (by rw[h2];simp[a5.o])
         have i4:=aU (P:=ed) w9 w.heap.size 0 177 (B.map fs) _ (bu d0) Tryz.underlying177 rfl (by rw[aY,a5.o];kernel_rfl);have c9:Cha.block key counter o=B:=by rw[g0.o,i1.o,HS.o];rfl
         rw[c9];clear b0 d0 hrg c9;exact aH (v:= .agg (B.map fs).toArray) (lM Tryz.results91 rfl i4) rfl ⟨rfl,i2⟩
end Go.Proofs.YtcdmenphjilnnaaGreatDoor
namespace Go.Con.Cha
def oI(key:List UInt8)(c:Nat)(a data:List UInt8)(i:Nat):UInt8:=data.getD i 0^^^(block key (UInt32.ofNat (c+i/64)) a).getD (i%64) 0
def KR(key:List UInt8)(c:Nat)(a data:List UInt8):List UInt8:=(List.range data.length).map (oI key c a data)
end Go.Con.Cha
namespace Go.Proofs.YtcdmenphjilnnaaGreatDoor
open Go.RowKit Go.Con
theorem xi(a b:Option Addr)(c d:Nat)(n:Int)(w:ax)(h0:0<=n)(h1:n<=1073741824):
  bl ed 90 #[.slice a 32 c,n,.slice b 12 d] w λe w'=>e= .returned (0:Int)/\w=w':=by
 go_enter func90,ntmps90
 go_wp2
 go_ret
 exact⟨rfl,rfl⟩
theorem Rd.ofRow{w:ax}{g n:Nat}{t:TypeId}{f:Nat×Nat}{l:List UInt8}(h:w.heap[g]?=de (.cells (l.map fs).toArray t f))(a:l.length=n)(hm:n<=maxLen):Rd w (.slice (g,0) n n) l:=by
 subst a;refine⟨_,_,rfl,ag _,hm,(λh=>by cases h),λ_=>⟨_,_,rfl,λi hi=>?_⟩⟩;refine ej h _ ?_;simp[hi]
theorem Ao(a b:ax)(B:List UInt8)(hl:B.length=64)(h:(a.alloc (.cells #[.int .u8 0,.int .u8 0,.int .u8 0,.int .u8 0,.int .u8 0,.int .u8 0,.int .u8 0,.int .u8 0,.int .u8 0,.int .u8 0,.int .u8 0,.int .u8 0,.int .u8 0,.int .u8 0,.int .u8 0,.int .u8 0,.int .u8 0,.int .u8 0,.int .u8 0,.int .u8 0,.int .u8 0,.int .u8 0,.int .u8 0,.int .u8 0,.int .u8 0,.int .u8 0,.int .u8 0,.int .u8 0,.int .u8 0,.int .u8 0,.int .u8 0,.int .u8 0,.int .u8 0,.int .u8 0,.int .u8 0,.int .u8 0,.int .u8 0,.int .u8 0,.int .u8 0,.int .u8 0,.int .u8 0,.int .u8 0,.int .u8 0,.int .u8 0,.int .u8 0,.int .u8 0,.int .u8 0,.int .u8 0,.int .u8 0,.int .u8 0,.int .u8 0,.int .u8 0,.int .u8 0,.int .u8 0,.int .u8 0,.int .u8 0,.int .u8 0,.int .u8 0,.int .u8 0,.int .u8 0,.int .u8 0,.int .u8 0,.int .u8 0,.int .u8 0] 177)).setCells a.heap.size 0 (B.map fs).toArray.toList=b):
  Rd b (.slice (a.heap.size,0) 64 64) B/\dd a.heap.size a b:=by
 subst h;refine⟨Rd.ofRow (t:=177) (f:=(0,0)) ?_ hl (by decide),bp (ag _) _ _ _ ((aj _ _).alloc (ag _) _)⟩;exact dI (aL a _) (by simp[hl])
theorem IN(z A:bd)(key a:List UInt8)(c:UInt32)(w:ax)(hk:Rd w z key)(i:Rd w A a)(hkl:key.length=32)(j:a.length=12)(hc:c.toNat<=1073741824):
  bl ed 92 #[z,c.toNat,A] w (mM w (Cha.block key c a) 0):=by
 obtain⟨L,ko,M,rfl,_,_⟩:=hk.gL 32 hkl (by decide);obtain⟨nb,no,N,rfl,_,_⟩:=i.gL 12 j (by decide);obtain⟨B,f⟩:=aK (Cha.block key c a);have g:B.length=64:=by rw[f];exact Cha.oe _ _ _
 have h:=λw' h1 h2=>uT L ko M nb no N key a c w' hkl j h1 h2;rw[<-f]at h|-;have D:=ae h;have m:=ae g;have F:=ae hk;have G:=ae i;have u:(B.map fs).toArray.size=64:=by simp[g]
 have n:=ae u;clear h g f hk i hkl j u;go_enter func92,ntmps92
 go_wp2_with fail
 refine(xi _ _ _ _ _ _ (by omega) (by omega)).m ?_;rintro e _ ⟨rfl,rfl⟩;go_wp2_with fail
 refine(D.o _ F.o G.o).m ?_;rintro e C ⟨rfl,q⟩;have b:=ae q;have y:∀(W:ax),(W.alloc (.cells #[.int .u8 0,.int .u8 0,.int .u8 0,.int .u8 0,.int .u8 0,.int .u8 0,.int .u8 0,.int .u8 0,.int .u8 0,.int .u8 0,.int .u8 0,.int .u8 0,.int .u8 0,.int .u8 0,.int .u8 0,.int .u8 0,.int .u8 0,.int .u8 0,.int .u8 0,.int .u8 0,.int .u8 0,.int .u8 0,.int .u8 0,.int .u8 0,.int .u8 0,.int .u8 0,.int .u8 0,.int .u8 0,.int .u8 0,.int .u8 0,.int .u8 0,.int .u8 0,.int .u8 0,.int .u8 0,.int .u8 0,.int .u8 0,.int .u8 0,.int .u8 0,.int .u8 0,.int .u8 0,.int .u8 0,.int .u8 0,.int .u8 0,.int .u8 0,.int .u8 0,.int .u8 0,.int .u8 0,.int .u8 0,.int .u8 0,.int .u8 0,.int .u8 0,.int .u8 0,.int .u8 0,.int .u8 0,.int .u8 0,.int .u8 0,.int .u8 0,.int .u8 0,.int .u8 0,.int .u8 0,.int .u8 0,.int .u8 0,.int .u8 0,.int .u8 0] 177)).there W.heap.size 0 64:=λW=>dr (aL W _) rfl;have J:=ae y;clear q y;have t:=λ(W o:ax) (K:(W.alloc (.cells #[.int .u8 0,.int .u8 0,.int .u8 0,.int .u8 0,.int .u8 0,.int .u8 0,.int .u8 0,.int .u8 0,.int .u8 0,.int .u8 0,.int .u8 0,.int .u8 0,.int .u8 0,.int .u8 0,.int .u8 0,.int .u8 0,.int .u8 0,.int .u8 0,.int .u8 0,.int .u8 0,.int .u8 0,.int .u8 0,.int .u8 0,.int .u8 0,.int .u8 0,.int .u8 0,.int .u8 0,.int .u8 0,.int .u8 0,.int .u8 0,.int .u8 0,.int .u8 0,.int .u8 0,.int .u8 0,.int .u8 0,.int .u8 0,.int .u8 0,.int .u8 0,.int .u8 0,.int .u8 0,.int .u8 0,.int .u8 0,.int .u8 0,.int .u8 0,.int .u8 0,.int .u8 0,.int .u8 0,.int .u8 0,.int .u8 0,.int .u8 0,.int .u8 0,.int .u8 0,.int .u8 0,.int .u8 0,.int .u8 0,.int .u8 0,.int .u8 0,.int .u8 0,.int .u8 0,.int .u8 0,.int .u8 0,.int .u8 0,.int .u8 0,.int .u8 0] 177)).setCells W.heap.size 0 (B.map fs).toArray.toList=o)=>Ao W o B m.o K;have I:=ae t;clear t;go_wp2_with (first
  |(refine bz rfl 177 (.tmp 9) (.tmp 21) rfl C.heap.size 0 (B.map fs).toArray rfl rfl (by rw[n.o];exact J.o _) (by rw[n.o];kernel_rfl) (dx (by intro v hv;obtain⟨x,_,rfl⟩:=cH.1 hv;rfl)) ?_;generalize p:World.setCells _ _ _ _=O;have d:=ae (I.o C O p);clear p)
  |(at_builtin;refine uZ rfl (.const (.slice dl 0 0)) (.tmp 22) rfl w.heap.size (.slice dl 0 0) _ [] B rfl (Own.nil _ _) rfl d.o.1 (by have:=m.o;simp;omega) (aE b.o.size d.o.2.size) ?_;intro v3 w3 s r;have H:=ae s;have E:=ae r;clear s r))
 have l:=ae (b.o.t (d.o.2.m b.o.size));go_ret2
 exact⟨_,rfl,H.o,l.o.grown E.o l.o.size (λk hk=>by cases hk)⟩
theorem lj.below{w w':ax}{b n m B:Nat}{t:TypeId}{f:Nat->bd}(h:lj w b n t f m)(hb:dd B w w')(c:b<B):lj w' b n t f m:=by
 obtain⟨a,h1,h2,h3⟩:=h;exact⟨a,by rw[hb.block b c];exact h1,h2,h3⟩
theorem lj.zB{w:ax}{base g n:Nat}{l:List UInt8}(h:Own w base (.slice (g,0) n n) l)(hl:l.length=n)(f:Nat->bd):lj w g n 5 f 0/\base<=g:=by
 obtain⟨h1,h2⟩:=h;rcases h2 with⟨h3,_⟩|⟨g',cap,a,h3,hb,hg,k,e,i,m⟩
 ·cases h3
 ·injection h3 with e1 e2 e3;injection e1 with e1;injection e1 with b c d;subst b;exact⟨⟨a,hg,by omega,λj hj=>by omega⟩,hb⟩
theorem lj.MJ{w:ax}{base g n:Nat}{f:Nat->UInt8}(h:lj w g n 5 (λj=>fs (f j)) n)(hb:base<=g)(hm:n<=maxLen):Own w base (.slice (g,0) n n) ((List.range n).map f):=by
 have h1:=h.full;refine⟨by simp,.inr ⟨g,n,_,by simp,hb,h1,by simp,hm,by simp,?_⟩⟩;rw[bK (by simp)];simp
theorem Mv(kv nv dv:bd)(key d data:List UInt8)(c:UInt32)(w:ax)(hk:Rd w kv key)(S:Rd w nv d)(hd:Rd w dv data)(hkl:key.length=32)(T:d.length=12)(hc:c.toNat<=1073741824)(d2:data.length<=2000):
  bl ed 67 #[kv,c.toNat,nv,dv] w (mM w (Cha.KR key c.toNat d data) 0):=by
 obtain⟨kb,ko,kc,rfl,_,_⟩:=hk.gL 32 hkl (by decide);obtain⟨nb,no,nc,rfl,_,_⟩:=S.gL 12 T (by decide);obtain⟨L,N⟩:∃L,data.length=L:=⟨_,rfl⟩
 obtain⟨da,dc,rfl,d9,e0⟩:=hd.fB L N;have d8:L<=2000:=by omega
 have c1:=ae hk;have c4:=ae S;have a3:=ae hd;have z:=ae N;have c0:=ae hkl;have c3:=ae T;clear hk S hd N hkl T d2;go_enter func67,ntmps67
 go_wp2_with fail
 refine(xi _ _ _ _ _ _ (by omega) (by omega)).m ?_;rintro e _ ⟨rfl,rfl⟩;go_wp2_with (refine Nh _ rfl _ _ rfl L _ _ rfl rfl rfl rfl (by omega) ?_;intro w2 b4 a9;have a4:=ae b4;have Z:=ae a9;clear b4 a9)
 obtain⟨g,hg⟩:=aK w.heap.size;rw[<-hg];have U:=(lj.zB a4.o (by simp) (λj=>fs (Cha.oI key c.toNat d data j))).1;rw[<-hg]at U;have a8:dd g w w2:=by rw[hg];exact Z.o
 have c6:=ae U;have HG:=ae hg;have b8:=ae a8;have b3:w.heap.size=g:=hg.symm;have t:=ae b3;clear U hg a8 a4 Z b3;go_loopw [12] (λi wr=>∃q:Nat,64*q<L+64/\i= .int .i64 (64*q:Nat)/\lj wr g L 5 (λj=>fs (Cha.oI key c.toNat d data j)) (min (64*q) L)/\dd g w wr)
  (λi _=>L+64-(intOf i).toNat)
 case atStart=>exact⟨0,by omega,by go_num,by simpa using c6.o,b8.o⟩
 case round=>
  obtain⟨q,hq,rfl,hp,hb⟩:=hrel;have l:=ae hp;have f:=ae hb;by_cases hlt:64*q<L
  ·obtain⟨n,o,rfl⟩:∃n o,da=de ⟨n,o,dl⟩:=by
    obtain⟨b,off,c,e,_⟩:=a3.o.gL L z.o (by omega);injection e with e1 _ _;exact⟨b,off,e1⟩
   have b0:∀(W:ax),dd g w W->∀i,i<L->W.cell? ⟨n,o+i,dl⟩=de (.int .u8 (data.getD i 0).toNat):=by
    intro W hW i hi;have d1:dd w.heap.size w W:=by rw[t.o];exact hW
    obtain⟨a',c',e,_,_,_,h⟩:=a3.o.stay d1;obtain⟨b',off,K,h2⟩:=h (by intro h;have:=z.o;rw[h]at this;simp at this;omega);injection e with e1 e2 e3;subst e1;injection K with K;injection K with e5 e6;subst e5 e6;exact h2 i (by rw[z.o];exact hi)
   obtain⟨A,R⟩:∃A:UInt32,A.toNat=c.toNat+q:=⟨UInt32.ofNat (c.toNat+q),by rw[oy];omega⟩
   obtain⟨B,C⟩:=aK (Cha.block key A d);have M:B.length=64:=by rw[C];exact Cha.oe _ _ _
   have a5:B=Cha.block key (UInt32.ofNat (c.toNat+q)) d:=by
    rw[C];congr 1;apply UInt32.toNat_inj.1;rw[R,oy];omega
   have Q:=λw' h1 h2=>uT kb ko kc nb no nc key d A w' c0.o c3.o h1 h2;rw[<-C,R]at Q;have b9:=ae Q;have E:=ae M;have a0:=ae a5;have b6:(B.map fs).toArray.size=64:=by simp[M]
   have SZ:=ae b6;have a2:=ae b0;have P:dd w.heap.size w wr:=by rw[t.o];exact hb
   have c2:=ae (c1.o.stay P);have c5:=ae (c4.o.stay P);clear Q M C a5 b6 b0 P R;go_wp2_with fail
   refine(b9.o _ c2.o c5.o).m ?_;rintro e s ⟨rfl,a6⟩;have D:=ae a6;have b2:g<wr.heap.size:=by obtain⟨d7,h1,_⟩:=hp;exact hF h1
   have b7:∀(W:ax),(W.alloc (.cells #[.int .u8 0,.int .u8 0,.int .u8 0,.int .u8 0,.int .u8 0,.int .u8 0,.int .u8 0,.int .u8 0,.int .u8 0,.int .u8 0,.int .u8 0,.int .u8 0,.int .u8 0,.int .u8 0,.int .u8 0,.int .u8 0,.int .u8 0,.int .u8 0,.int .u8 0,.int .u8 0,.int .u8 0,.int .u8 0,.int .u8 0,.int .u8 0,.int .u8 0,.int .u8 0,.int .u8 0,.int .u8 0,.int .u8 0,.int .u8 0,.int .u8 0,.int .u8 0,.int .u8 0,.int .u8 0,.int .u8 0,.int .u8 0,.int .u8 0,.int .u8 0,.int .u8 0,.int .u8 0,.int .u8 0,.int .u8 0,.int .u8 0,.int .u8 0,.int .u8 0,.int .u8 0,.int .u8 0,.int .u8 0,.int .u8 0,.int .u8 0,.int .u8 0,.int .u8 0,.int .u8 0,.int .u8 0,.int .u8 0,.int .u8 0,.int .u8 0,.int .u8 0,.int .u8 0,.int .u8 0,.int .u8 0,.int .u8 0,.int .u8 0,.int .u8 0] 177)).there W.heap.size 0 64:=λW=>dr (aL W _) rfl;have c8:=ae b7;clear a6 b7;go_wp2_with (refine bz rfl 177 (.tmp 13) (.tmp 41) rfl s.heap.size 0 (B.map fs).toArray rfl rfl (by rw[SZ.o];exact c8.o _) (by rw[SZ.o];kernel_rfl) (dx (by intro v hv;obtain⟨x,_,rfl⟩:=cH.1 hv;rfl)) ?_)
   generalize O:World.setCells _ _ _ _=w3;obtain⟨m,a⟩:=aK s.heap.size;have b1:w3.heap[m]?=de (.cells (B.map fs).toArray 177 (0,0)):=by
    rw[<-O,a];exact dI (aL s _) (by simp[E.o])
   have a7:dd s.heap.size s w3:=by rw[<-O];exact bp (ag _) _ _ _ ((aj _ _).alloc (ag _) _)
   have e4:g<m:=by rw[a];have:=D.o.size;omega
   rw[<-a];have J:dd wr.heap.size wr w3:=D.o.t (a7.m D.o.size);have H:=ae (l.o.below J b2);have X:=ae (f.o.t (J.m (by omega)));have Y:=ae b1;have a1:=a2;rw[show min (64*q) L=64*q by omega]at H;clear b1 a7 O a J b2 a2 f l;by_cases e7:(L:Int)<((64*q:Nat):Int)+64
   ·have d6:L<64*q+64:=by omega
    have hE:L<=L:=by omega
    have c9:L<=64*q+64:=by omega
    have d0:64*q<=L:=by omega
    clear hp hb;go_loopw [14] (λi wr=>∃k:Nat,64*q<=k/\k<=L/\i= .int .i64 k/\lj wr g L 5 (λj=>fs (Cha.oI key c.toNat d data j)) k/\dd g w wr/\wr.heap[m]?=de (.cells (B.map fs).toArray 177 (0,0)))
     (λi _=>L-(intOf i).toNat)
    case atStart=>exact⟨64*q,by omega,by omega,by go_num,H.o,X.o,Y.o⟩
    case round=>
     obtain⟨k,d3,d4,rfl,hp,hb,a⟩:=hrel;have l:=ae hp;have f:=ae hb;have F:=ae a;by_cases d5:k<L
     ·obtain⟨x,hx⟩:=aK (data.getD k 0);obtain⟨y,hy⟩:=aK (B.getD (k-64*q) 0);have cx:wr.cell? (n,o+k)=de (.int .u8 x.toNat):=by rw[hx];exact a1.o wr hb k (by omega)
      have cy:wr.cell? (m,k-64*q)=de (.int .u8 y.toNat):=by
       rw[hy];refine ej a (k-64*q) ?_;have:k-64*q<B.length:=by rw[E.o];omega
       simp[this,fs]
      obtain⟨u,cu⟩:=hp.cell k (by omega);have fu:=hp.free k;have r:Cha.oI key c.toNat d data k=x^^^y:=by
       rw[Cha.oI,<-hx,show k/64=q by omega,<-a0.o,hy,show k%64=k-64*q by omega]
      have G:=ae r;clear hx hy hp hb a r;go_wp2
      refine bQ 13 (by kernel_rfl) (by kernel_rfl) ?_;simp only[bH,cQ,bT,cC];repeat (go_big_quiet_step (fail))
      refine bt ?_;intro w9 V;obtain⟨nq,rfl⟩:=V;go_wp2
      go_roundw
      case rel=>
       rw[qs];refine⟨k+1,by omega,by omega,by go_num,?_,(below_drewN f.o nq).setCell (ag _) _,?_⟩
       ·have h:lj (wr.drewN nq) g L 5 (λj=>fs (Cha.oI key c.toNat d data j)) k:=l.o;exact h.next (by omega) _ (by rw[G.o];rfl)
       ·rw[aA _ _ (by omega)];exact F.o
      case measure=>simp[intOf];omega
     ·have p:k=L:=by omega
      rw[p]at hp;have I:=ae hp;clear hp hb a p;go_wp2_with fail
      go_roundw
      case rel=>
       refine⟨q+1,by omega,by go_num,?_,f.o⟩;have h:=I.o;rw[show min (64*(q+1)) L=L by omega];exact h
      case measure=>simp[intOf];omega
   ·have d6:64*q+64<=L:=by omega
    have hE:(64*q+64)<=L:=by omega
    have c9:(64*q+64)<=64*q+64:=by omega
    have d0:64*q<=(64*q+64):=by omega
    clear hp hb;go_loopw [14] (λi wr=>∃k:Nat,64*q<=k/\k<=(64*q+64)/\i= .int .i64 k/\lj wr g L 5 (λj=>fs (Cha.oI key c.toNat d data j)) k/\dd g w wr/\wr.heap[m]?=de (.cells (B.map fs).toArray 177 (0,0)))
     (λi _=>(64*q+64)-(intOf i).toNat)
    case atStart=>exact⟨64*q,by omega,by omega,by go_num,H.o,X.o,Y.o⟩
    case round=>
     obtain⟨k,d3,d4,rfl,hp,hb,a⟩:=hrel;have l:=ae hp;have f:=ae hb;have F:=ae a;by_cases d5:k<(64*q+64)
     ·obtain⟨x,hx⟩:=aK (data.getD k 0);obtain⟨y,hy⟩:=aK (B.getD (k-64*q) 0);have cx:wr.cell? (n,o+k)=de (.int .u8 x.toNat):=by rw[hx];exact a1.o wr hb k (by omega)
      have cy:wr.cell? (m,k-64*q)=de (.int .u8 y.toNat):=by
       rw[hy];refine ej a (k-64*q) ?_;have:k-64*q<B.length:=by rw[E.o];omega
       simp[this,fs]
      obtain⟨u,cu⟩:=hp.cell k (by omega);have fu:=hp.free k;have r:Cha.oI key c.toNat d data k=x^^^y:=by
       rw[Cha.oI,<-hx,show k/64=q by omega,<-a0.o,hy,show k%64=k-64*q by omega]
      have G:=ae r;clear hx hy hp hb a r;go_wp2
      refine bQ 13 (by kernel_rfl) (by kernel_rfl) ?_;simp only[bH,cQ,bT,cC];repeat (go_big_quiet_step (fail))
      refine bt ?_;intro w9 V;obtain⟨nq,rfl⟩:=V;go_wp2
      go_roundw
      case rel=>
       rw[qs];refine⟨k+1,by omega,by omega,by go_num,?_,(below_drewN f.o nq).setCell (ag _) _,?_⟩
       ·have h:lj (wr.drewN nq) g L 5 (λj=>fs (Cha.oI key c.toNat d data j)) k:=l.o;exact h.next (by omega) _ (by rw[G.o];rfl)
       ·rw[aA _ _ (by omega)];exact F.o
      case measure=>simp[intOf];omega
     ·have p:k=(64*q+64):=by omega
      rw[p]at hp;have I:=ae hp;clear hp hb a p;go_wp2_with fail
      go_roundw
      case rel=>
       refine⟨q+1,by omega,by go_num,?_,f.o⟩;have h:=I.o;rw[show min (64*(q+1)) L=(64*q+64) by omega];exact h
      case measure=>simp[intOf];omega
  ·have b5:min (64*q) L=L:=by omega
   rw[b5]at hp;have c7:=ae hp;clear hp hb b5;go_wp2
   go_ret2
   refine⟨_,rfl,?_,?_⟩
   ·have h:=c7.o.MJ (base:=w.heap.size) (by rw[t.o];exact Nat.le_refl _) (by unfold maxLen;omega);unfold Cha.KR;rw[z.o];exact h
   ·rw[t.o];exact f.o
theorem Own.ne{w:ax}{base:Nat}{v:bd}{l:List UInt8}(h:Own w base v l){k:Nat}(hk:k<base):v.ownBlock≠de k:=λe=>by have:=(h.lt k e).1;omega
theorem xR(H v:bd)(k l:List UInt8)(w:ax)(z:Rd w H k)(hv:Rd w v l)(hkl:k.length<=1099511627776)(hl:l.length<=1099511627000)(hk:Kn w):
  bl ed 65 #[H,v] w (mX w (Sha.GA k l)):=by
 have p:=ae z;have N:=ae hv;have b:=ae hk;clear z hv hk;have hp:∀x,(Sha.lh k x).length=64:=Sha.kE k;have d:=ae hp;clear hp;go_enter func65,ntmps65
 go_wp2_with fail
 refine(CQ _ k 92 _ p.o hkl b.o).m ?_;rintro e U ⟨v1,rfl,A,q⟩;have c:=ae A;have a:=ae q;clear A q;go_wp2_with fail
 refine(CQ _ k 54 _ (p.o.stay a.o) hkl (b.o.stay a.o)).m ?_;rintro e Z ⟨v2,rfl,C,r⟩;have i:=ae C;have f:=ae r;clear C r;have O:=a.o.size;have P:=f.o.size;have j:=ae (a.o.t (f.o.m O));have T:=ae (N.o.stay j.o);have R:=ae (c.o.below f.o (λk hk=>(c.o.lt k hk).2));go_wp2_with (first
  |(go_at_call 85;fail)
  |(at_builtin;refine uZ rfl (.tmp 8) (.tmp 9) rfl U.heap.size v2 _ (Sha.lh k 54) l rfl i.o rfl T.o (by rw[d.o];omega) P ?_;intro v3 w3 D u;have J:=ae D;have h:=ae u;clear D u))
 have m:=ae (j.o.grown h.o (by omega) (λk hk=>by have:=(i.o.lt k hk).1;omega));refine(sX _ _ _ J.o.rd (by rw[aD,d.o];omega) (b.o.stay m.o)).m ?_;rintro e w4 ⟨v4,rfl,E,s⟩;have K:=ae E;have g:=ae s;clear E s;have W:=g.o.size;have V:=h.o.size;have S:=ae (R.o.kept h.o (λk hk Q=>by have:=(i.o.lt k hk).1;have:=(c.o.lt k Q).2;omega));have B:=ae (S.o.below g.o (λk hk=>by have:=(c.o.lt k hk).2;omega));go_wp2_with (first
  |(go_at_call 85;fail)
  |(at_builtin;refine uZ rfl (.tmp 6) (.tmp 11) rfl w.heap.size v1 v4 (Sha.lh k 92) _ rfl B.o rfl K.o.rd (by rw[d.o,Sha.gK];omega) (by omega) ?_;intro Y w5 F y;have L:=ae F;have o:=ae y;clear F y))
 have n:=ae ((m.o.t (g.o.m (by omega))).grown o.o (by omega) (λk hk=>(B.o.lt k hk).1));refine(sX _ _ _ L.o.rd (by rw[aD,d.o,Sha.gK];omega) (b.o.stay n.o)).m ?_;rintro e w6 ⟨v6,rfl,G,t⟩;have M:=ae G;have I:=ae t;clear G t;have X:=o.o.size;go_wp2
 go_ret
 exact⟨_,rfl,M.o.m (by omega),n.o.t (I.o.m (by omega))⟩
theorem Mw(g v:bd)(k l:List UInt8)(w:ax)(b:Rd w g k)(hv:Rd w v l)(hkl:k.length<=256)(hl:l.length<=2000)(hk:Kn w):
  bl ed 64 #[g,v] w (mM w (Sha.GA k l) 0):=by
 obtain⟨a,c,rfl,r,o⟩:=hv.slice;obtain⟨s,t,rfl,q,p⟩:=b.slice;have j:=ae b;have n:=ae hv;have i:=ae hk;clear b hv hk;go_enter func64,ntmps64
 go_wp2_with (go_at_call 65;refine(xR _ _ k l _ j.o n.o (by omega) (by omega) i.o).m ?_;rintro e u ⟨v1,rfl,f,d⟩;have m:=ae f;have h:=ae d;clear f d)
 go_ret2
 exact⟨_,rfl,m.o,h.o⟩
theorem lZ(a:Option Addr)(n c d b:Nat):(Value.slice a n c).ownBlock=(Value.slice a d b).ownBlock:=by cases a<;>rfl
theorem Rd.MY{w:ax}{a:Option Addr}{n c:Nat}{l:List UInt8}(h:Rd w (.slice a n c) l):Rd w (.slice a n n) l:=by
 obtain⟨a',d,he,f,e,h0,b⟩:=h;injection he with e1 e2 e3;subst e1 e2 e3;exact⟨a,_,rfl,ag _,by omega,λh=>by have:=h0 h;omega,b⟩
def Dt(w:ax)(R:List UInt8)(c:Int)(e:Ending)(w':ax):Prop:=
 ∃a,e= .returned (.tuple #[a,c])/\Rd w' a R/\(∀k,a.ownBlock=de k->w.heap.size<=k)/\dd w.heap.size w w'
theorem Du(sv S x:bd)(s a i:List UInt8)(n:Nat)(w:ax)(hs:Rd w sv s)(E:Rd w S a)(hi:Rd w x i)(e6:s.length<=256)(c9:a.length<=256)(d6:i.length<=256)(hn:n<=512)(hk:Kn w):
  bl ed 41 #[sv,S,x,n] w (Dt w (Sha.draw s a i n) 0):=by
 obtain⟨p1,c1,rfl,_,_⟩:=hs.slice;obtain⟨p2,c2,rfl,_,_⟩:=E.slice;obtain⟨p3,c3,rfl,_,_⟩:=hi.slice;have HS:=ae hs;have HA:=ae E;have HI:=ae hi;have L:=ae hk;clear hs E hi hk;have d9:¬(n:Int)<0:=by omega
 have d1:decide ((256:Int)<(s.length:Int))=dT:=by simp;omega
 have d2:decide ((256:Int)<(a.length:Int))=dT:=by simp;omega
 have d3:decide ((256:Int)<(i.length:Int))=dT:=by simp;omega
 have d4:decide ((512:Int)<(n:Int))=dT:=by simp;omega
 go_enter func41,ntmps41
 go_wp2_with (go_at_call 65;refine(xR _ _ a s _ HA.o HS.o (by omega) (by omega) L.o).m ?_;rintro e b ⟨v1,rfl,a4,V⟩;have r:=ae a4;have y:=ae V;clear a4 V)
 obtain⟨K,hK⟩:=aK (Sha.GA a s);rw[<-hK]at r;have U:K.length=32:=by rw[hK];rfl
 have b6:=ae hK;have b7:=ae U;clear hK U;have D:=y.o.size;go_loopw [11,12,13] (λo lv x wr=>∃j:Nat,∃q:Int,∃a c m,o= .slice a m c/\Hid (m=32*j)/\m<=1024/\x= .int .i64 q/\Hid (q=j+1)/\1<=q/\q<=40/\Hid (32*j<n+32)/\
   Own wr b.heap.size o (Sha.pieces K i j)/\Own wr b.heap.size lv (Sha.piece K i j)/\(∀k,o.ownBlock=de k->lv.ownBlock≠de k)/\dd b.heap.size b wr)
  (λo _ _ _=>1024-zL o)
 case atStart=>exact⟨0,1,dl,0,0,rfl,rfl,by omega,rfl,rfl,by omega,by omega,(by show _<_;omega),Own.nil _ _,Own.nil _ _,(λk hk=>by simp[Value.ownBlock]at hk),aj _ _⟩
 case round=>
  obtain⟨j,q,ao,co,m,rfl,l,hm,rfl,C,e4,e5,B,b0,a9,a3,X⟩:=hrel;have g:=ae b0;have Q:=ae a9;have N:=ae a3;have f:=ae X;clear b0 a9 a3 X;by_cases hlt:m<n
  ·have hx:q=((UInt8.ofNat (j+1)).toNat:Int):=by
    rw[bM];have:=C.o;omega
   have HX:=ae hx;clear hx;have T:=f.o.size;have hpl:(Sha.piece K i j).length<=32:=by cases j with
    |zero=>simp[Sha.piece]
    |succ j=>rw[Sha.qz];omega
   have I:=ae (y.o.t (f.o.m D));go_wp2_with (first
    |(go_at_call 65;fail)
    |(at_builtin;refine Mn rfl (.tmp 45) (.tmp 46) rfl b.heap.size _ _ _ i rfl Q.o rfl (HI.o.stay I.o) (by omega) T ?_;intro v2 w2 a5 Y b3;have O:=ae a5;have p:=ae Y;have c0:=ae b3;clear a5 Y b3)
    |(at_builtin;refine uZ rfl (.tmp 47) (.tmp 50) rfl b.heap.size v2 _ _ [UInt8.ofNat (j+1)] rfl (O.o.alloc _) rfl (zF _ _ _ HX.o) (by simp;omega) (by have:=p.o.size;simp;omega) ?_;intro v3 w3 a6 Z;have b8:=ae a6;have A:=ae Z;clear a6 Z))
   have e7:=p.o.size;have e8:w2.heap.size+1<=w3.heap.size:=by have:=A.o.size;simpa using this
   have l2:=λk hk=>(Q.o.lt k hk)
   have l3:=λk hk=>(O.o.lt k hk)
   have v:dd b.heap.size wr w3:=(((aj _ _).grown p.o T (λk hk=>(l2 k hk).1)).alloc (by omega) _).grown A.o (by simp;omega) (λk hk=>(l3 k hk).1);have c6:=ae (I.o.t (v.m D));have b1:Own w3 b.heap.size (.slice ao m co) (Sha.pieces K i j):=by
    have e1:=g.o.kept p.o (λk hk d=>N.o k d hk);refine(e1.alloc _).kept A.o (λk hk d=>?_);rcases c0.o with e|e
    ·exact N.o k d (e▸hk)
    ·rw[e]at hk;have:=(g.o.lt k d).2;injection hk with hk;omega
   have u:=ae b1;have b5:=ae ((r.o.below (f.o) (λk hk=>(r.o.lt k hk).2)).below v (λk hk=>(r.o.lt k hk).2));have c4:=ae v;clear b1 v l2 l3;refine(xR _ _ K (Sha.piece K i j++i++[UInt8.ofNat (j+1)]) _ b5.o.rd b8.o.rd (by rw[b7.o];omega) (by simp;omega) (L.o.stay c6.o)).m ?_;rintro e w4 ⟨v4,rfl,a7,W⟩;have t:=ae a7;have z:=ae W;clear a7 W;have e9:=z.o.size;have R:=ae (u.o.below z.o (λk hk=>(u.o.lt k hk).2));have a0:(Sha.pieces K i j).length+(Sha.GA K (Sha.piece K i j++i++[UInt8.ofNat (j+1)])).length<=140737488355328:=by rw[Sha.jo,Sha.uw];have:=l.o;omega
   go_wp2_with (at_builtin;refine Mn rfl (.tmp 53) (.tmp 54) rfl b.heap.size _ v4 _ _ rfl R.o rfl t.o.rd a0 (by omega) ?_;intro v5 w5 a8 F b4;have P:=ae a8;have J:=ae F;have c5:=ae b4;clear a8 F b4)
   have H:Sha.pieces K i j++Sha.GA K (Sha.piece K i j++i++[UInt8.ofNat (j+1)])=Sha.pieces K i (j+1):=rfl;obtain⟨g5,c8,rfl,F,d5,c7,d0⟩:=P.o.shape (by rw[H];intro h;have:=dz List.length h;rw[Sha.jo]at this;simp at this);have G:(Sha.pieces K i j++Sha.GA K (Sha.piece K i j++i++[UInt8.ofNat (j+1)])).length=32*j+32:=by rw[H,Sha.jo];omega
   rw[G]at c7|-;have M:=ae G;clear G H a0;go_roundw
   case rel=>
    refine⟨j+1,q+1,_,_,_,rfl,?_,?_,rfl,?_,by omega,?_,?_,?_,?_,?_,?_⟩
    ·show _=_;omega
    ·have:=B.o;omega
    ·show _=_;have:=C.o;omega
    ·have:=B.o;have:=C.o;omega
    ·show _<_;have:=l.o;omega
    ·have:=P.o;rw[M.o]at this;exact this
    ·refine Own.m (t.o.kept J.o (λk hk d=>?_)) (by omega);have:=(t.o.lt k d).1;have:=(u.o.lt k hk).2;omega
    ·intro k hk d;have a1:=t.o.lt k d;have a2:=c5.o;rw[M.o]at a2;rcases a2 with e|e
     ·have:=(u.o.lt k (show _ from e.symm.t hk)).2;omega
     ·rw[e]at hk;injection hk with hk;omega
    ·exact(f.o.t (c4.o.t (z.o.m (by omega)))).grown J.o (by omega) (λk hk=>(R.o.lt k hk).1)
   case measure=>simp[zL];have:=l.o;omega
  ·have d8:n<=m:=by omega
   have d7:m<=co:=by obtain⟨_,_,he,hle,_⟩:=g.o.rd;injection he with e1 e2 e3;omega
   have b2:=g.o.rd.pre n (by rw[Sha.jo];have:=l.o;omega);have b9:=ae b2;have e0:(n:Int)<=(co:Int):=by omega
   clear b2;go_wp2
   all_goals go_ret2
   all_goals
    refine⟨_,rfl,?_,?_,?_⟩
    ·have hj:j=Sha.JG n:=by unfold Sha.JG;have:=B.o;have:=l.o;omega
     have h:=b9.o.MY;rw[hj,b6.o]at h;exact h
    ·intro k hk;have:=(g.o.lt k ((lZ ao m co n n).t hk)).1;omega
    ·exact y.o.t (f.o.m D)
end Go.Proofs.YtcdmenphjilnnaaGreatDoor
