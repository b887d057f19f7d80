/-
  Parts of the proofs of the laws of the whole (what the functions compute, and plain laws of it); no conditions.
-/
import Derived.Test.YtcdmenphjilnnaaGreatDoorM15
import Derived.Test.YtcdmenphjilnnaaGreatDoorM17
import Derived.Test.YtcdmenphjilnnaaGreatDoorM18
set_option linter.unusedVariables false
set_option linter.unusedSimpArgs false
set_option maxRecDepth 100000
set_option maxHeartbeats 1000000
open Go.Proofs.Tryz
open Go renaming World->ax,Value->bd,Calls->bl
open Go.RowKit renaming Below->dd
open Option renaming some->de,none->dl
open Bool renaming true->dE,false->dT
open Go.Proofs.Tryz renaming prog->ed
namespace Go.Proofs.YtcdmenphjilnnaaGreatDoor
open Go.RowKit Go.Con
def AD(c:bk):Prop:=mD c.kind/\mD c.bD/\mD c.seq/\mD c.name/\mD c.value
theorem Nu{x y:bk}(hx:AD x)(hy:AD y)(W:ax):(binOp BinOp.eql 54 (eG x) (eG y)).run ed W= .ok (.bool (decide (x=y))) W:=by
 have h0:EqAt ed 10000 54:=run_equalIn_deep 9994 6 54 (by kernel_rfl);obtain⟨a0,a1,a2,a3,a4⟩:=x;obtain⟨a,b1,b2,b,c⟩:=y;obtain⟨d,f,g,i,j⟩:=hx;obtain⟨k,l,m,n,o⟩:=hy;obtain⟨r,h1,h2⟩:=h0 W _ _ (eG ⟨a0,a1,a2,a3,a4⟩) (eG ⟨a,b1,b2,b,c⟩) _ _ (by kernel_rfl) (by kernel_rfl) (pU 0 d f g i j) (pU 0 k l m n o);have h3:(Op.equal 54 (eG ⟨a0,a1,a2,a3,a4⟩) (eG ⟨a,b1,b2,b,c⟩)).run ed W= .ok r W:=h1;have h4:r=decide ((⟨a0,a1,a2,a3,a4⟩:bk)=⟨a,b1,b2,b,c⟩):=by
  have e:((⟨a0,a1,a2,a3,a4⟩:bk)=⟨a,b1,b2,b,c⟩)<->r=dE:=by
   rw[h2];simp
  cases r with
  |true=>exact(fG (e.2 rfl)).symm
  |false=>exact(gE (λh=>by have:=e.1 h;cases this)).symm
 rw[<-h4];unfold eG at h3|-;simp[binOp,go_sem,h3]
structure ND(B:Nat)(W0:ax)(n:dZ)(r:eW)(c:bk)(fin:Option Int)(k:Nat)(s:Int)(wr:ax):Prop where
 s:s=40-(k:Int)
 NW:k<=40
 fin:jr n r c k=fin
 b:dd B W0 wr
theorem He{W:ax}{N rb B A:Nat}{n:dZ}{r:eW}{la:Option Addr}{ln lc:Nat}(h4:W.cell? (rb,4)=de (.map (de B)))(b5:W.cell? (N,10)=de (.map (de A)))(b6:W.cell? (N,11)=de (.slice la ln lc))(c2:rb<W.heap.size)(b7:N<W.heap.size)
  (hp:dO W B (r.dD.map λp=>(p.1,eG p.2)))(hk:dO W A (n.known.map λp=>(p.1,eG p.2)))(b9:ln=n.log.length)(hl:ln<=40)(c:bk)(hc:AD c)(c0:∀s x,cd r.dD s=de x->AD x)(b8:∀s x,cd n.known s=de x->AD x):
  bl ed 110 #[ptr N,ptr rb,.agg (aQ c).toArray] W λe W'=>e= .returned (.tuple #[((jr n r c (40-n.log.length)).getD 0),.bool (jr n r c (40-n.log.length)).isSome])/\dd W.heap.size W W':=by
 obtain⟨fin,O⟩:=aK (jr n r c (40-n.log.length));rw[<-O];rw[<-b9]at O;have l:=ae (λ(x:bk) (hx:AD x) (w:ax)=>Nu hx hc w);obtain⟨C,hC⟩:=aK c;rw[<-hC]at O l;obtain⟨c1,q,t,u,c5⟩:=c;show bl ed 110 #[.pointer (de ⟨N,0,dl⟩),.pointer (de ⟨rb,0,dl⟩),.agg #[.int .i64 c1,.int .i64 q,.int .i64 t,.int .i64 u,.int .i64 c5]] W _;rw[hC]at l;unfold eG at l;dsimp only at l;have H4:=ae h4;have c4:=ae b5;have c6:=ae b6;have d2:=ae c2;have b0:=ae b7;have c9:=ae O;have HL:=ae hl;have HP:=ae hp;have HK:=ae hk;have d0:=ae c0;have b3:=ae b8;have m:=ae hC;clear h4 b5 b6 c2 b7 hp hk c0 b8 O hl hc b9 hC;go_enter func110,ntmps110
 go_upto_region 1 with fail
 generalize hW:World.alloc _ _=T;have B0:=ae (gv hW);have X0:=ae (show T.heap[W.heap.size]?=de (.cells #[c1,q,t,u,c5] 54 (0,0)) by rw[<-hW];exact aL _ _);clear hW;obtain⟨xb,a7⟩:=aK W.heap.size;have d6:=ae a7;rw[<-a7]at X0|-;have e4:=cZ B0.o b0.o c6.o;clear a7;go_wp2_with fail
 go_loopg [8] (40-ln) (λk s8 wr=>∃s:Int,s8= .int .i64 s/\Hid (ND T.heap.size T n r C fin k s wr))
 case atStart=>exact⟨_,rfl,ae ⟨by have:=HL.o;omega,by omega,c9.o.symm,aj _ _⟩⟩
 case round=>
  obtain⟨s,rfl,f⟩:=hrel;have f:=ae f.o;have h:=ae (B0.o.t (f.o.b.m B0.o.size));have c3:=f.o.s;obtain⟨po,S⟩:=aK (cd r.dD s);obtain⟨ko,P⟩:=aK (cd n.known s);have R:=λ(w:ax) (hw:dd wr.heap.size wr w)=>jx (dO.other HP.o (show w.heap[B]?=W.heap[B]? by
   obtain⟨es,ck,hb,-⟩:=HP.o;exact(hw.block B (ai (hF hb) h.o.size)).t (h.o.block B (hF hb)))) s
  have Q:=λ(w:ax) (hw:dd wr.heap.size wr w)=>jx (dO.other HK.o (show w.heap[A]?=W.heap[A]? by
   obtain⟨es,ck,hb,-⟩:=HK.o;exact(hw.block A (ai (hF hb) h.o.size)).t (h.o.block A (hF hb)))) s
  rw[<-S]at R;rw[<-P]at Q;by_cases a1:¬s<40
  ·obtain rfl:s=40:=by have:=f.o.NW;omega
   have d3:gk=0:=by omega
   have d4:fin=dl:=by rw[<-f.o.fin,d3];rfl
   have c8:=ae h.o;clear R Q S P c3 a1;go_wp2_with fail
   subst d4;refine aH (v:= .tuple #[(0:Int),.bool dT]) (by simp[results,Tryz.results110,go_sem]) rfl ⟨rfl,?_⟩;exact c8.o
  ·replace a1:=cN a1;obtain⟨g,hg⟩:∃g,gk=g+1:=⟨gk-1,by omega⟩
   have a6:s=39-(g:Int):=by omega
   have Z:jr n r C (g+1)=fin:=by rw[<-hg];exact f.o.fin
   have Z:(if po=de C\/ko=de C then dl else if po=dl/\ko=dl then de s else jr n r C g)=fin:=by
    rw[<-Z,S,P,a6];rfl
   have j:=ae Z;have HG:=ae hg;clear hg Z;obtain⟨z,hz⟩:=aK (po.getD bk.zero);obtain⟨d,hd⟩:=aK po.isSome;obtain⟨y,hy⟩:=aK (ko.getD bk.zero);obtain⟨e,he⟩:=aK ko.isSome;rw[<-hz,<-hd]at R;rw[<-hy,<-he]at Q;have HZ:=ae hz;have HD:=ae hd;have HY:=ae hy;have V:=ae he;have Y:=ae R;have X:=ae Q;have d1:=ae S;have b4:=ae P;have c7:=ae a6;clear R Q hz hd hy he S P c3 a6;obtain⟨z0,z1,z2,z3,z4⟩:=z;obtain⟨D,E,F,G,H⟩:=y;unfold eG at Y X;dsimp only at Y X;have lp:=Y.o wr (aj _ _);have q4:=cZ h.o d2.o H4.o;go_upto_region 4 with fail
   go_upto_region 5 with fail
   obtain⟨b1,a4⟩:=aK wr.heap.size;rw[<-a4];generalize a2:World.alloc _ _=w1;have U:=ae (gv a2);have X1:=ae (eZ a2 a4);clear a2 a4 lp q4;have lk:=X.o w1 U.o;have a9:=ae (h.o.t (U.o.m h.o.size));have d5:=cZ a9.o b0.o c4.o;go_upto_region 6 with fail
   obtain⟨b2,a5⟩:=aK w1.heap.size;rw[<-a5];generalize a3:World.alloc _ _=w2;have B2:=ae (gv a3);have L:=ae (eZ a3 a5);have K:=ae ((B2.o.block b1 (hF X1.o)).t X1.o);have a8:=ae (U.o.t (B2.o.m U.o.size));have BS:=ae (f.o.b.t (a8.o.m f.o.b.size));have I:=ae (h.o.t (a8.o.m h.o.size));have M:=ae ((BS.o.block xb (hF X0.o)).t X0.o);have o:=ae (λ(hf:jr n r C g=fin)=>show∃s':Int,Value.int .i64 (wrap64 (s+1))= .int .i64 s'/\Hid (ND T.heap.size T n r C fin g s' w2)from⟨_,rfl,ae ⟨by have h1:=c7.o;have h2:=HG.o;have h3:=f.o.NW;have h4:wrap64 (s+1)=s+1:=(by unfold wrap64;omega);omega,by have:=HG.o;have:=f.o.NW;omega,hf,BS.o⟩⟩);have a0:=ae (show g<gk by have:=HG.o;omega);clear a3 a5 lk d5 Y X a9;have p0:=ej K.o 0 rfl;have e5:=ej L.o 0 rfl;have d7:=ej M.o 0 rfl;have p1:=ej K.o 1 rfl;have e6:=ej L.o 1 rfl;have d8:=ej M.o 1 rfl;have p2:=ej K.o 2 rfl;have e7:=ej L.o 2 rfl;have d9:=ej M.o 2 rfl;have p3:=ej K.o 3 rfl;have e8:=ej L.o 3 rfl;have e0:=ej M.o 3 rfl;have p4:=ej K.o 4 rfl;have e9:=ej L.o 4 rfl;have e3:=ej M.o 4 rfl;cases d with
   |true=>
    have i:=ae (show po=de ⟨z0,z1,z2,z3,z4⟩ by
     cases po with
     |none=>have:=HD.o;cases this
     |some x=>rw[HZ.o];rfl)
    have ez:=l.o ⟨z0,z1,z2,z3,z4⟩ (d0.o s _ (d1.o.symm.t i.o));dsimp only at ez;cases e with
    |true=>
     have b:=ae (show ko=de ⟨D,E,F,G,H⟩ by
      cases ko with
      |none=>have:=V.o;cases this
      |some x=>rw[HY.o];rfl)
     have ey:=l.o ⟨D,E,F,G,H⟩ (b3.o s _ (b4.o.symm.t b.o));dsimp only at ey;by_cases e1:(⟨z0,z1,z2,z3,z4⟩:bk)=⟨c1,q,t,u,c5⟩
     ·have a:fin=dl:=by rw[<-j.o,i.o,b.o,m.o];exact ar (by simp[*])
      subst a;go_wp2_with fail
      refine aH (v:= .tuple #[(0:Int),.bool dT]) (by simp[results,Tryz.results110,go_sem]) rfl ⟨rfl,?_⟩;exact I.o
     ·by_cases e2:(⟨D,E,F,G,H⟩:bk)=⟨c1,q,t,u,c5⟩
      ·have a:fin=dl:=by rw[<-j.o,i.o,b.o,m.o];exact ar (by simp[*])
       subst a;go_wp2_with fail
       refine aH (v:= .tuple #[(0:Int),.bool dT]) (by simp[results,Tryz.results110,go_sem]) rfl ⟨rfl,?_⟩;exact I.o
      ·have a:jr n r C g=fin:=by rw[<-j.o,i.o,b.o,m.o,ak (by simp_all),ak (by simp)]
       have J:=ae (o.o a);clear a o;go_wp2_with fail
       go_roundg g
       ·exact J.o
       ·exact a0.o
    |false=>
     have b:=ae (show ko=dl by
      cases ko with
      |none=>rfl
      |some x=>have:=V.o;cases this)
     by_cases e1:(⟨z0,z1,z2,z3,z4⟩:bk)=⟨c1,q,t,u,c5⟩
     ·have a:fin=dl:=by rw[<-j.o,i.o,b.o,m.o];exact ar (by simp[*])
      subst a;go_wp2_with fail
      refine aH (v:= .tuple #[(0:Int),.bool dT]) (by simp[results,Tryz.results110,go_sem]) rfl ⟨rfl,?_⟩;exact I.o
     ·have a:jr n r C g=fin:=by rw[<-j.o,i.o,b.o,m.o,ak (by simp_all),ak (by simp)]
      have J:=ae (o.o a);clear a o;go_wp2_with fail
      go_roundg g
      ·exact J.o
      ·exact a0.o
   |false=>
    have i:=ae (show po=dl by
     cases po with
     |none=>rfl
     |some x=>have:=HD.o;cases this)
    cases e with
    |true=>
     have b:=ae (show ko=de ⟨D,E,F,G,H⟩ by
      cases ko with
      |none=>have:=V.o;cases this
      |some x=>rw[HY.o];rfl)
     have ey:=l.o ⟨D,E,F,G,H⟩ (b3.o s _ (b4.o.symm.t b.o));dsimp only at ey;by_cases e2:(⟨D,E,F,G,H⟩:bk)=⟨c1,q,t,u,c5⟩
     ·have a:fin=dl:=by rw[<-j.o,i.o,b.o,m.o];exact ar (by simp[*])
      subst a;go_wp2_with fail
      refine aH (v:= .tuple #[(0:Int),.bool dT]) (by simp[results,Tryz.results110,go_sem]) rfl ⟨rfl,?_⟩;exact I.o
     ·have a:jr n r C g=fin:=by rw[<-j.o,i.o,b.o,m.o,ak (by simp_all),ak (by simp)]
      have J:=ae (o.o a);clear a o;go_wp2_with fail
      go_roundg g
      ·exact J.o
      ·exact a0.o
    |false=>
     have b:=ae (show ko=dl by
      cases ko with
      |none=>rfl
      |some x=>have:=V.o;cases this)
     have a:fin=de s:=by rw[<-j.o,i.o,b.o,ak (by simp),ar ⟨rfl,rfl⟩]
     subst a;go_wp2_with fail
     refine aH (v:= .tuple #[s,.bool dE]) (by simp[results,Tryz.results110,go_sem]) rfl ⟨rfl,?_⟩;exact I.o
structure KG(hH:bI)(W:ax)(wb i:Nat)(G:Gh)(M:aT)(gr:GR)(r:eW)(v:bd)(t:Int)(k:Nat)(s:Int)(wq:ax):Prop where
 s0:((M.nd i).log.length:Int)<=s
 s1:s<=max (t+1) (M.nd i).log.length
 sk:k=(t+1-s).toNat
 sJ:∃hO G',dB hO wq wb G' (M.aX i {M.nd i with rg:=de {r with dD:=eM (M.nd i) r (M.nd i).log.length (s-(M.nd i).log.length).toNat}})/\(∀j,(G'.n j).b=(G.n j).b)/\(G'.n i).rg=de gr/\cG hH W hO wq (λt=>t.1<6)
 ls:vQ wq v r.lists
theorem Fa{hH:bI}{W:ax}{R i:Nat}{G:Gh}{M:aT}{b:GR}{r:eW}(h:dB hH W R G M)(hi:i<5)(hp:(M.nd i).cI=dl)(hg:(G.n i).rg=de b)(hr:(M.nd i).rg=de r)(hl:(M.nd i).log.length<=40)(d2:∀l∈r.lists,∀v∈l,jJ v=dE):
  bl ed 109 #[ptr (G.n i).b,ptr b.b] W λe W'=>e= .returned (.tuple #[])/\∃b7 G',dB b7 W' R G' (M.aX i {M.nd i with rg:=de (r.begin (M.nd i))})/\(∀j,(G'.n j).b=(G.n j).b)/\(∃gr',(G'.n i).rg=de gr'/\gr'.b=b.b)/\cG hH W b7 W' (λt=>t.1<6):=by
 obtain⟨gb,c8⟩:=aK ((G.n i).b);obtain⟨C,b4⟩:=aK b.b;obtain⟨n9,F,hR⟩:=h.wo hi hr;rw[hg]at F;injection F with F;subst F;have f:=hR.dM;rw[<-c8,<-b4];rw[<-b4]at f;obtain⟨pm,Y⟩:=aK b.prom;have b0:=hR.prom;have v2:(gP b r)[2]?=de (.map (de pm)):=by rw[Y];rfl
 obtain⟨RC,c5⟩:=aK (gP b r);rw[<-c5]at f v2;have HR:=ae h;have a3:=ae f;have V2:=ae v2;have n5:=ae Y;have n4:=ae b0;have f7:=ae hR;have e7:=ae c8;have c1:=ae b4;have HG:=ae hg;have j9:=ae hr;have HL:=ae hl;have j5:=ae d2;have HP:=ae hp;have k0:=ae (show∀l∈r.lists,∀v∈l,v.slot<=39 from λl hl v hv=>by have:=uk (d2 l hl v hv);omega);have n6:=ae c5;have LK:=ae (λ(w:ax) (hb:dd W.heap.size W w) (m:Nat)=>by
  have h1:=Es (dO.other b0 (show w.heap[b.prom]?=W.heap[b.prom]? by
   obtain⟨es,ck,a6,-⟩:=id b0;exact hb.block _ (hF a6))) m
  rw[<-Y]at h1;exact h1)
 show bl ed 109 #[.pointer (de ⟨gb,0,dl⟩),.pointer (de ⟨C,0,dl⟩)] W _;clear h c8 b4 hR f Y b0 v2 c5 hg hr hl d2 hp;go_enter func109,ntmps109
 go_wp2_with fail
 go_loopg [4,5,12] 5 (λk s4 s5 m4 wr=>∃(m:Nat) (t:Int) (n:Option Addr) (u o:Nat),m+k=5/\m4= .int .i64 m/\s5= .int .i64 t/\s4= .slice n u o/\Hid (t=tK (-1) (r.lists.take m).flatten)/\Hid (∃b7,sP W wr b7 (.slice n u o) ((List.range m).map (pF b r))))
 case atStart=>exact⟨0,-1,dl,0,0,rfl,rfl,rfl,rfl,ae rfl,ae ⟨_,sP.nil W W (aj _ _)⟩⟩
 case round=>
  obtain⟨m,t,n,u,o,hmk,rfl,rfl,rfl,HT,HB⟩:=hrel;by_cases h5:¬(m:Int)<5
  ·have V:m=5:=by omega
   subst V;clear h5;obtain⟨m0,A⟩:=HB.o;obtain⟨l9,h9⟩:=A.lists f7.o;have h8:r.lists.length=5:=by unfold eW.lists;rw[List.length_map,List.length_range]
   have b5:t=r.top:=by rw[HT.o,<-h8,dV];rfl
   have i5:t<=39:=by rw[b5];exact Je (by omega) (λv hv=>by
    obtain⟨l,hl,b6⟩:=np.1 hv;exact k0.o l hl v b6)
   have i4:-1<=t:=by rw[b5];exact Jf _ _
   have R5:=HR.o.below A.b;have J:=(R5.nd i hi).dM;rw[<-e7.o]at J;have l7:=(R5.nd i hi).pt.log.shape;obtain⟨la,lc,d1,-⟩:=l7;obtain⟨ln,P⟩:=aK ((M.nd i).log.length);rw[<-P]at d1;have g3:(aN i (G.n i) (M.nd i))[11]?=de (.slice la ln lc):=by rw[<-d1];rfl
   have m2:wr.cell? (gb,11)=de (.slice la ln lc):=(aR J 11).t g3;have n3:=ae P;have g0:=ae i5;have n8:=ae i4;have k7:=ae b5;have g2:=ae (show KG hH W R i G M b r (.slice n u o) t (t+1-(ln:Int)).toNat (ln:Int) wr from⟨by rw[P];exact jZ _,by rw[P];omega,rfl,by
    rw[P];refine⟨hH,G,?_,λ_=>rfl,HG.o,cG.below A.b⟩;rw[Int.sub_self];have e:({r with dD:=eM (M.nd i) r (M.nd i).log.length (0:Int).toNat}:eW)=r:=rfl;rw[e];have e2:({M.nd i with rg:=de r}:dZ)=M.nd i:=by rw[<-j9.o]
    rw[e2,oT];exact R5,h9⟩)
   clear A HB l9 h9 h8 b5 i5 i4 R5 J d1 P g3 HT hmk;go_wp2_with fail
   go_loopg [9] (t+1-(ln:Int)).toNat (λk s9 wq=>∃s:Int,s9= .int .i64 s/\Hid (KG hH W R i G M b r (.slice n u o) t k s wq))
   case atStart=>exact⟨_,rfl,g2⟩
   case round=>
    clear g2 m2;obtain⟨s,rfl,y⟩:=hrel;obtain⟨a0,G2,b3,a6,F,i7⟩:=y.o.sJ;obtain⟨L,U⟩:∃N,N={M.nd i with rg:=de {r with dD:=eM (M.nd i) r (M.nd i).log.length (s-(M.nd i).log.length).toNat}}:=⟨_,rfl⟩
    rw[<-U]at b3;have a9:(M.aX i L).nd i=L:=bf ..;have d7:((M.aX i L).nd i).rg=de {r with dD:=eM (M.nd i) r (M.nd i).log.length (s-(M.nd i).log.length).toNat}:=by rw[a9,U]
    have i1:((M.aX i L).nd i).cI=dl:=by rw[a9,U];exact HP.o
    have a5:=ae b3;have E:=ae a6;have b8:=ae F;have c2:=ae i7;have a4:=ae U;have b9:=ae a9;have f6:=ae d7;have f1:=ae i1;obtain⟨o0,a8,g5⟩:=b3.wo hi d7;rw[F]at a8;injection a8 with a8;subst a8;have f:=g5.dM;rw[<-c1.o]at f;have e5:=ae f;clear b3 a6 F i7 U a9 d7 i1 g5;by_cases i3:¬s<=t
    ·have h3:(r.begin (M.nd i))={r with dD:=eM (M.nd i) r (M.nd i).log.length (s-(M.nd i).log.length).toNat,begun:=dE}:=by
      unfold eW.begin;rw[<-k7.o,show(t+1-((M.nd i).log.length:Int)).toNat=(s-((M.nd i).log.length:Int)).toNat from by have h1:=y.o.s0;have h2:=y.o.s1;omega]
     have j4:=ae h3;have c3:=ej f 3 rfl;have f3:=aO f 3;clear f h3;go_wp2_with fail
     first|refine mh rfl rfl ⟨rfl,?_⟩|refine jH rfl rfl ⟨rfl,?_⟩
     obtain⟨G3,k1,k2,k3,k4⟩:=a5.o.begun hi f1.o b8.o f6.o;rw[<-c1.o]at k1 k4;rw[j4.o];refine⟨a0,G3,?_,λj=>(k2 j).t (E.o j),⟨b,k3,c1.o.symm⟩,c2.o.t k4⟩;rw[b9.o,a4.o,eU]at k1;exact k1
    ·replace i3:=cN i3;have J:=(a5.o.nd i hi).dM;have d0:=(a5.o.nd i hi).pt.kn;rw[E.o i,<-e7.o]at J;obtain⟨kn,hkn⟩:=aK ((G2.n i).kn);have v10:(aN i (G2.n i) ((M.aX i L).nd i))[10]?=de (.map (de kn)):=by rw[hkn];rfl
     have m1:wr.cell? (gb,10)=de (.map (de kn)):=(aR J 10).t v10;have h7:((M.aX i L).nd i).known=(M.nd i).known:=by rw[b9.o,a4.o]
     rw[<-hkn,h7]at d0;obtain⟨co,a7⟩:=aK (cd (M.nd i).known s);obtain⟨z,hz⟩:=aK (co.getD bk.zero);obtain⟨d,hd⟩:=aK co.isSome;have lk:=jx d0 s;rw[<-a7,<-hz,<-hd]at lk;obtain⟨z0,z1,z2,z3,z4⟩:=z;unfold eG at lk;dsimp only at lk;have hw:wrap64 (s+1)=s+1:=by have h1:=y.o.s0;have h2:=g0.o;unfold wrap64;omega
     obtain⟨Z,h6⟩:∃j,(s-((M.nd i).log.length:Int)).toNat=j:=⟨_,rfl⟩
     have d8:s=(((M.nd i).log.length+Z:Nat):Int):=by have h1:=y.o.s0;omega
     have h4:(s+1-((M.nd i).log.length:Int)).toNat=Z+1:=by omega
     obtain⟨g,hg⟩:∃g,gk=g+1:=⟨gk-1,by have:=y.o.sk;omega⟩
     have n2:=ae a7;have HD:=ae hd;have HJ:=ae h6;have n7:=ae d8;have e8:=ae h4;have I:=ae (show g<gk/\g=(t+1-(s+1)).toNat from⟨by omega,by have:=y.o.sk;omega⟩);have S:=ae (show((M.nd i).log.length:Int)<=s+1/\s+1<=max (t+1) (M.nd i).log.length from⟨by have:=y.o.s0;omega,by omega⟩);have f8:=ae (show 0<=s/\s<40 from⟨by have:=y.o.s0;omega,by have:=g0.o;omega⟩);have g9:eM (M.nd i) r (M.nd i).log.length (Z+1)=if co.isSome then eM (M.nd i) r (M.nd i).log.length Z else di (eM (M.nd i) r (M.nd i).log.length Z) s (r.pick s):=by
      rw[a7,d8];rfl
     have e6:=ae g9;clear f J d0 v10 h7 a7 hz hd h6 d8 h4 hg g9 hkn;go_upto_region 16 with fail
     generalize hW:World.alloc _ _=w7;have K:=ae (gv hW);clear hW lk m1;have R7:=ae (a5.o.below K.o);have c4:=ae (y.o.ls.stay K.o);cases d with
     |true=>
      have c0:=ae (show KG hH W R i G M b r (.slice n u o) t g (s+1) w7 from⟨S.o.1,S.o.2,I.o.2,by
       rw[e8.o,e6.o,ar HD.o.symm];have h1:=R7.o;rw[a4.o,HJ.o]at h1;exact⟨a0,G2,h1,E.o,b8.o,c2.o.t (cG.below K.o)⟩,c4.o⟩)
      go_wp2_with fail
      go_roundg g
      ·exact⟨s+1,by first|rfl|rw[hw],c0.o⟩
      ·exact I.o.1
     |false=>
      obtain⟨pb,d3⟩:=aK b.dD;have c6:=(K.o.block C (hF e5.o)).t e5.o;have Y4:=ae (show w7.cell? (C,4)=de (.map (de pb)) by rw[d3];exact ej c6 4 rfl);have k8:=ae (hF c6);have j6:=ae d3;have j7:=ae (λD (hb:dd w7.heap.size w7 D)=>IC (.slice n u o) r.lists s D (c4.o.stay hb) f8.o.1 f8.o.2 j5.o);clear d3 c6;go_upto_region 17 with fail
      refine bh (by kernel_rfl) (λw8 g8=>?_);have a2:=ae g8;clear g8;refine xH (λQ=>([(C,0),(C,0),(C,4),.map (de pb),s,.slice n u o,s,.tuple #[eG (dJ s cF.zero r.lists.flatten).cW,.bool (decide (0<(dJ s cF.zero r.lists.flatten).bG.1)),(0:Int)],.tuple #[eG (dJ s cF.zero r.lists.flatten).cW,.bool (decide (0<(dJ s cF.zero r.lists.flatten).bG.1)),(0:Int)],eG (dJ s cF.zero r.lists.flatten).cW,.bool (decide (0<(dJ s cF.zero r.lists.flatten).bG.1)),(0:Int)]:List bd).getD Q undef) (λQ=>[63,64,65,66,67,68,69,70,62,71,72,73].getD Q 0) 12 (λQ=>decide (Q=10\/Q=11)) (λD=>KG hH W R i G M b r (.slice n u o) t g (s+1) D) rfl (by kernel_rfl) ?_ ?_ ?_ ?_ ?_ ?_ ?_
      ·intro x e0;have hc:x=0\/x=1\/x=2\/x=3\/x=4\/x=5\/x=6\/x=7\/x=8\/x=9\/x=10\/x=11:=by omega
       rcases hc with rfl|rfl|rfl|rfl|rfl|rfl|rfl|rfl|rfl|rfl|rfl|rfl<;>exact⟨rfl,show _<77 by decide⟩
      ·show([63,64,65,66,67,68,69,70,62,71,72,73]:List Nat).Nodup;decide
      ·intro x e0 hlt;have hc:x=0\/x=1\/x=2\/x=3\/x=4\/x=5\/x=6\/x=7\/x=8\/x=9\/x=10\/x=11:=by omega
       rcases hc with rfl|rfl|rfl|rfl|rfl|rfl|rfl|rfl|rfl|rfl|rfl|rfl<;>first|(exact absurd hlt (by decide))|(show _=_;kernel_rfl)
      ·intro x e0 hlt a D hb X B;have hc:x=0\/x=1\/x=2\/x=3\/x=4\/x=5\/x=6\/x=7\/x=8\/x=9\/x=10\/x=11:=by omega
       have O:=a2.o.t (hb.m a2.o.size);rcases hc with rfl|rfl|rfl|rfl|rfl|rfl|rfl|rfl|rfl|rfl|rfl|rfl
       ·skip;have u1:a.eval (.tmp 1)= (C,0):=(X 1 (show∀k∈([0,1,2,3,4,5,6,7,8,9,10,11]:List Nat),([63,64,65,66,67,68,69,70,62,71,72,73]:List Nat).getD k 0≠1 by decide)).t rfl;rw[gm]at u1;refine jP rfl rfl rfl ?_;simp[execOp,go_sem,u1]
       ·skip;have j0:a.eval (.tmp 63)= (C,0):=B 0 (show 0<12 by decide) (by kernel_rfl);rw[gm]at j0;refine jP rfl rfl rfl ?_;simp[execOp,go_sem,j0]
       ·skip;have u64:a.eval (.tmp 64)= (C,0):=B 1 (show 1<12 by decide) (by kernel_rfl);rw[gm]at u64;refine jP rfl rfl rfl ?_;simp[execOp,go_sem,u64]
       ·skip;have j1:a.eval (.tmp 65)= (C,4):=B 2 (show 2<12 by decide) (by kernel_rfl);have f0:=cZ O k8.o Y4.o;rw[gm]at j1;refine jP rfl rfl rfl ?_;simp[execOp,go_sem,j1,f0]
       ·skip;have u9:a.eval (.tmp 9)= .int .i64 s:=(X 9 (show∀k∈([0,1,2,3,4,5,6,7,8,9,10,11]:List Nat),([63,64,65,66,67,68,69,70,62,71,72,73]:List Nat).getD k 0≠9 by decide)).t rfl;rw[gm]at u9;refine jP rfl rfl rfl ?_;simp[execOp,go_sem,u9]
       ·skip;have u4:a.eval (.tmp 4)= .slice n u o:=(X 4 (show∀k∈([0,1,2,3,4,5,6,7,8,9,10,11]:List Nat),([63,64,65,66,67,68,69,70,62,71,72,73]:List Nat).getD k 0≠4 by decide)).t rfl;rw[gm]at u4;refine jP rfl rfl rfl ?_;simp[execOp,go_sem,u4]
       ·skip;have u9:a.eval (.tmp 9)= .int .i64 s:=(X 9 (show∀k∈([0,1,2,3,4,5,6,7,8,9,10,11]:List Nat),([63,64,65,66,67,68,69,70,62,71,72,73]:List Nat).getD k 0≠9 by decide)).t rfl;rw[gm]at u9;refine jP rfl rfl rfl ?_;simp[execOp,go_sem,u9]
       ·skip;have m6:a.eval (.tmp 68)= .slice n u o:=B 5 (show 5<12 by decide) (by kernel_rfl);have m7:a.eval (.tmp 69)= .int .i64 s:=B 6 (show 6<12 by decide) (by kernel_rfl);refine ns rfl rfl 131 _ (tP (fn:=Tryz.f131) rfl rfl rfl (by simp[m6,m7]) rfl) (kB (j7.o D O) λe w8 hh=>?_);obtain⟨rfl,l0⟩:=hh;exact⟨_,rfl,rfl,l0⟩
       ·skip;have j2:a.eval (.tmp 70)= .tuple #[eG (dJ s cF.zero r.lists.flatten).cW,.bool (decide (0<(dJ s cF.zero r.lists.flatten).bG.1)),(0:Int)]:=B 7 (show 7<12 by decide) (by kernel_rfl);rw[gm]at j2;refine jP rfl rfl rfl ?_;simp[execOp,go_sem,j2]
       ·skip;have H:a.eval (.tmp 62)= .tuple #[eG (dJ s cF.zero r.lists.flatten).cW,.bool (decide (0<(dJ s cF.zero r.lists.flatten).bG.1)),(0:Int)]:=B 8 (show 8<12 by decide) (by kernel_rfl);rw[gm]at H;refine jP rfl rfl rfl ?_;simp[execOp,go_sem,H]
       ·exact absurd hlt (by decide)
       ·exact absurd hlt (by decide)
      ·intro x e0 hlt a D B;have hc:x=0\/x=1\/x=2\/x=3\/x=4\/x=5\/x=6\/x=7\/x=8\/x=9\/x=10\/x=11:=by omega
       rcases hc with rfl|rfl|rfl|rfl|rfl|rfl|rfl|rfl|rfl|rfl|rfl|rfl
       ·exact absurd hlt (by decide)
       ·exact absurd hlt (by decide)
       ·exact absurd hlt (by decide)
       ·exact absurd hlt (by decide)
       ·exact absurd hlt (by decide)
       ·exact absurd hlt (by decide)
       ·exact absurd hlt (by decide)
       ·exact absurd hlt (by decide)
       ·exact absurd hlt (by decide)
       ·exact absurd hlt (by decide)
       ·skip;have H:a.eval (.tmp 62)= .tuple #[eG (dJ s cF.zero r.lists.flatten).cW,.bool (decide (0<(dJ s cF.zero r.lists.flatten).bG.1)),(0:Int)]:=B 8 (show 8<12 by decide) (by kernel_rfl);rw[gm]at H;refine ui rfl rfl rfl ?_;simp[execOp,go_sem,H]
       ·skip;have H:a.eval (.tmp 62)= .tuple #[eG (dJ s cF.zero r.lists.flatten).cW,.bool (decide (0<(dJ s cF.zero r.lists.flatten).bG.1)),(0:Int)]:=B 8 (show 8<12 by decide) (by kernel_rfl);rw[gm]at H;refine ui rfl rfl rfl ?_;simp[execOp,go_sem,H]
      ·intro a D hb c9 X;have O:=a2.o.t (hb.m a2.o.size);have e3:a.eval (.tmp 66)= .map (de pb):=c9 3 (show 3<12 by decide) (by kernel_rfl);have e4:a.eval (.tmp 67)= .int .i64 s:=c9 4 (show 4<12 by decide) (by kernel_rfl);have e9:a.eval (.tmp 71)=eG (dJ s cF.zero r.lists.flatten).cW:=c9 9 (show 9<12 by decide) (by kernel_rfl);have R9:=R7.o.below O;obtain⟨w1,i2,⟨G3,k1,k2,k3,k4⟩,o4,l1⟩:=R9.CO hi f1.o b8.o f6.o s (dJ s cF.zero r.lists.flatten).cW;rw[<-j6.o]at i2;refine wH rfl rfl rfl 78 (.tmp 66) (.tmp 67) (.tmp 71) rfl e3 e4 e9 i2 ⟨rfl,S.o.1,S.o.2,I.o.2,?_,vQ.other (c4.o.stay O) (by omega) l1⟩;rw[e8.o,e6.o,ak (by rw[<-HD.o];decide)];rw[b9.o,a4.o,eU,HJ.o]at k1;have e:r.pick s=(dJ s cF.zero r.lists.flatten).cW:=by unfold eW.pick;rw[mW]
       rw[e];exact⟨a0,G3,k1,λj=>(k2 j).t (E.o j),k3,(c2.o.t (cG.below (K.o.t (O.m K.o.size)))).t k4⟩
      ·intro D g6;have c0:=ae g6;clear g6;rw[show List.range 12=[0,1,2,3,4,5,6,7,8,9,10,11]from rfl];simp only[fA,dH,List.foldl_nil,xC,List.getD_cons_succ,List.getD_cons_zero,Act.put,aq,aF,aG];go_wp2_with fail
       go_roundg g
       ·exact⟨s+1,by first|rfl|rw[hw],c0.o⟩
       ·exact I.o.1
  ·replace h5:=cN h5;have V:m<5:=by omega
   have o1:decide (m<5)=dE:=fG V;obtain⟨m0,A⟩:=HB.o;have S:=ae A;have q2:=cZ A.b (hF a3.o) ((aR a3.o 2).t V2.o);have i8:=LK.o wr A.b m;have b2:=tY f7.o m V;obtain⟨pa,pc,b1,d4,hpl⟩:=id b2.1;obtain⟨c,d5⟩:=aK ((r.lists.getD m []).length);rw[<-d5]at b1 d4;rw[b1]at i8 b2;have f5:=ae b1;have j8:=ae b2;have f4:=ae d5;obtain⟨v',w',g7,g4⟩:=A.Lh pa c pc (by rw[aY,List.length_range];omega) 219;have j3:=ae g7;have e1:=ae g4;clear b1 b2 d5 A HB g7 g4;go_upto_region 6 with(at_builtin;refine yM _ rfl (.tmp 15) (.tmp 22) 219 rfl _ _ rfl rfl j3.o ?_)
   obtain⟨a0,T⟩:=e1.o;obtain⟨m8,m9,b6,-,-⟩:=T.row.shape;obtain⟨n0,i6⟩:=aK (((List.range m).map (pF b r)++[Value.slice pa c pc]).length);rw[<-i6]at b6;subst b6;have E:=ae T;have m3:=cZ T.b (hF a3.o) ((aR a3.o 2).t V2.o);have i9:=LK.o w' T.b m;rw[f5.o]at i9;have o2:c<=pc:=d4;have f2:=ae (show pc<=9223372036854775807/\c<=pc from⟨hpl.1,d4⟩);obtain⟨g1,l5⟩:∃g,gk=g+1:=⟨gk-1,by omega⟩
   have I:=ae (show g1<gk/\(m+1)+g1=5 from⟨by omega,by omega⟩);clear q2 i8 T i6 e1 hpl hmk l5;go_wp2_with fail
   go_loopg [5,31] c (λk s5 m5 n1=>∃(q:Nat) (t2:Int),q+k=c/\m5= .int .i64 q/\s5= .int .i64 t2/\Hid (t2=tK t ((r.lists.getD m []).take q))/\Hid (dd w'.heap.size w' n1))
   case atStart=>exact⟨0,t,by omega,rfl,rfl,ae rfl,ae (aj _ _)⟩
   case round=>
    clear m3 i9;obtain⟨q,t2,o3,rfl,rfl,f9,a1⟩:=hrel;have Y:c<=9223372036854775807:=aE f2.o.2 f2.o.1;by_cases h2:q<c
    ·have l2:decide ((q:Int)<c)=dE:=by rw[ap];omega
     have l3:decide (q<c)=dE:=by rw[ap];omega
     obtain⟨fb,k9,l4,hfl,c7⟩:=j8.o.1.cells.2.2 q h2;have d6:q<(r.lists.getD m []).length:=by rw[<-f4.o];exact h2
     obtain⟨v,hv⟩:=aK ((r.lists.getD m []).getD q cF.zero);rw[<-hv]at c7;have d9:tK t ((r.lists.getD m []).take (q+1))=max t2 v.slot:=by
      rw[f9.o,<-DD,eA,aC d6,hv,au (l:=r.lists.getD m []),aC d6];rfl
     have h0:∀p,p<8->wr.cell? (fb,k9+(8*q+p))=(aS v)[p]?:=λp hp=>by
      rw[<-c7 p hp];exact aw (w:=W) ((a1.o.block fb (ai hfl E.o.b.size)).t (E.o.b.block fb hfl))
     obtain⟨sl,⟨br,bn⟩,⟨k,cl,sq,nm,vl⟩⟩:=v;obtain⟨x0,x1,x2,x3,x4,x5,x6,x7⟩:=rD h0;dsimp only at x0 x1 x2 x3 x4 x5 x6 x7 d9;subst l4;have k6:=ae d9;obtain⟨t3,l8⟩:∃t3,(if t2<sl then sl else t2)=t3:=⟨_,rfl⟩
     have k5:=ae (show t3=max t2 sl by rw[<-l8];split<;>omega);clear c7 h0 hv d9 d6 hfl;go_wp2_with fail
     go_roundg (gk-1)
     ·exact⟨q+1,t3,by omega,by go_num,rfl,ae (by rw[k5.o,k6.o]),ae (a1.o.t ((aj _ _).alloc a1.o.size _))⟩
     ·omega
    ·have l6:q=c:=by omega
     have l2:decide ((q:Int)<c)=dT:=by rw[ah];omega
     have l3:decide (q<c)=dT:=by rw[ah];omega
     go_wp2_with fail
     go_roundg g1
     ·refine⟨m+1,t2,m8,n0,m9,I.o.2,by go_num,rfl,rfl,ae ?_,ae ⟨a0,?_⟩⟩
      ·have i0:m<r.lists.length:=by unfold eW.lists;rw[List.length_map,List.length_range];exact V
       rw[f9.o,HT.o,<-rN,l6,f4.o,dV,eA,aC i0,au,aC i0,List.flatten_append];simp
      ·have h1:=E.o.below a1.o;rw[ly,du,List.map_singleton,f5.o];exact h1
     ·exact I.o.1
end Go.Proofs.YtcdmenphjilnnaaGreatDoor
