/-
  Parts of the proofs of the laws of the whole (what the functions compute, and plain laws of it); no conditions.
-/
import Derived.Test.YtcdmenphjilnnaaGreatDoorM2
import Derived.Test.YtcdmenphjilnnaaGreatDoorM4
import Derived.Test.YtcdmenphjilnnaaGreatDoorM5
import Derived.Deep.Fields
set_option linter.unusedVariables false
set_option linter.unusedSimpArgs false
set_option maxRecDepth 100000
set_option maxHeartbeats 1000000
open Go.Proofs.Tryz
open Go renaming World->ax,Value->bd,Calls->bl
open Go.RowKit renaming Below->dd
open Option renaming some->de,none->dl
open Bool renaming true->dE,false->dT
open Go.Proofs.Tryz renaming prog->ed
namespace Go.Proofs.YtcdmenphjilnnaaGreatDoor
open Go.ChangeShapes Go.WideShapes Go.ChangeAt Go.RowKit Go.Con Go.Deep
set_option maxHeartbeats 800000
section
variable{H:Type}{fS:TypeId×bd->H}{W:ax}{base b0:Nat}{sp:Nat->Bool}
def aQ(x:bk):List bd:=[x.kind,x.bD,x.seq,x.name,x.value]
def vu(w:ax)(v:bd)(l:List bk):Prop:=
 ∃a c,v= .slice a l.length c/\l.length<=c/\c<=maxLen/\(∀x∈l,Mp x)/\(l≠[]->∃b off,a=de ⟨b,off,dl⟩/\∀i,i<l.length->∀j,j<5->w.cell? ⟨b,off+(5*i+j),dl⟩=(aQ (l.getD i bk.zero))[j]?)
end
section
variable{H:Type}{fS:TypeId×bd->H}{W:ax}{base b0:Nat}{sp:Nat->Bool}
end
end Go.Proofs.YtcdmenphjilnnaaGreatDoor
namespace Go.Con
set_option maxHeartbeats 400000
theorem zy{p:Int×Int}:∀(l:List cF) (last:Int),kO p last l=dE<->(∀v∈l,jJ v=dE/\dX v.bG p<=0/\last<v.slot)/\l.Pairwise (λa b=>a.slot<b.slot)
 |[],last=>by simp[kO]
 |v::l,last=>by
  have e:kO p last (v::l)=(jJ v&&decide (last<v.slot)&&decide (dX v.bG p<=0)&&kO p v.slot l):=rfl;rw[e,aP,zy l v.slot,List.pairwise_cons];simp only[aP,ap,dF,forall_eq_or_imp];constructor
  ·rintro⟨⟨⟨h1,h2⟩,h3⟩,h4,h5⟩;exact⟨⟨⟨h1,h3,h2⟩,λu hu=>⟨(h4 u hu).1,(h4 u hu).2.1,by have:=(h4 u hu).2.2;omega⟩⟩,λu hu=>(h4 u hu).2.2,h5⟩
  ·rintro⟨⟨⟨h1,h3,h2⟩,h4⟩,h6,h5⟩;exact⟨⟨⟨h1,h2⟩,h3⟩,λu hu=>⟨(h4 u hu).1,(h4 u hu).2.1,h6 u hu⟩,h5⟩
theorem eV{v:cF}(h:jJ v=dE):0<=v.slot/\v.slot<40/\okB v.bG=dE/\cS v.cW=0:=by
 unfold jJ at h;simp only[aP,ap]at h;exact⟨h.1,h.2.1,h.2.2.1,h.2.2.2⟩
theorem qB{p:Int×Int}{l:List cF}:kf p l=dE<->(p=(0,0)\/okB p=dE)/\(∀v∈l,jJ v=dE/\dX v.bG p<=0)/\l.Pairwise (λa b=>a.slot<b.slot):=by
 unfold kf;rw[aP,zy,dS,ap];constructor
 ·rintro⟨h1,h2,h3⟩;exact⟨h1,λv hv=>⟨(h2 v hv).1,(h2 v hv).2.1⟩,h3⟩
 ·rintro⟨h1,h2,h3⟩;exact⟨h1,λv hv=>⟨(h2 v hv).1,(h2 v hv).2,by have:=(eV (h2 v hv).1).1;omega⟩,h3⟩
theorem nD{y v:cF}{l:List cF}:v∈mA y l<->v=y\/(v∈l/\v.slot≠y.slot):=by
 unfold mA;simp only[dR,dF,bZ,ap];constructor
 ·rintro(⟨h1,h2⟩|h|⟨h1,h2⟩)
  ·exact .inr ⟨h1,by omega⟩
  ·exact .inl h
  ·exact .inr ⟨h1,by omega⟩
 ·rintro(h|⟨h1,h2⟩)
  ·exact .inr (.inl h)
  ·rcases Int.lt_or_gt_of_ne h2 with h|h
   ·exact .inl ⟨h1,h⟩
   ·exact .inr (.inr ⟨h1,h⟩)
theorem CT{p:Int×Int}{l:List cF}{y:cF}(h:kf p l=dE)(hy:jJ y=dE)(hc:¬dX y.bG p<0):kf y.bG (mA y l)=dE:=by
 rw[qB]at h|-;obtain⟨h1,h2,h3⟩:=h;refine⟨.inr (eV hy).2.2.1,λv hv=>?_,?_⟩
 ·rcases nD.1 hv with rfl|⟨hv,-⟩
  ·exact⟨hy,by rw[pd];omega⟩
  ·refine⟨(h2 v hv).1,?_⟩;have h4:=(h2 v hv).2;rw[pd]at h4|-;rw[uO]at hc;omega
 ·unfold mA;rw[List.pairwise_append,List.pairwise_cons];refine⟨h3.filter _,⟨λu hu=>?_,h3.filter _⟩,λa c b hb=>?_⟩
  ·simp only[bZ,ap]at hu;exact hu.2
  ·simp only[bZ,ap]at c;rcases dF.1 hb with rfl|hb
   ·exact c.2
   ·simp only[bZ,ap]at hb;omega
end Go.Con
namespace Go.Proofs.YtcdmenphjilnnaaGreatDoor
open Go.RowKit Go.Con
set_option maxHeartbeats 400000
structure rJ(w wr:ax)(q:Nat)(p:Int×Int)(vs:bd)(L:List cF):Prop where
 o:wr.heap[w.heap.size]?=de (.cells #[(0:Int),(0:Int),.slice dl 0 0] 76 (0,0))
 acc:wr.heap[w.heap.size+1]?=de (.cells #[p.1,p.2,vs] 76 (0,0))
 hH:fk wr (w.heap.size+2) vs L
 ok:kf p L=dE
 Od:p.1<=9
 len:L.length<=q
 below:dd w.heap.size w wr
theorem qm(d c b a:Int)(v:bd)(l:List cF)(w:ax)(hv:fz w v l)(f:kf (d,c) l=dE)(hb:okB (b,a)=dE)(hl:l.length<=1000):
  bl ed 86 #[.agg #[d,c,v],.agg #[b,a]] w λe w'=>dd w.heap.size w w'/\((dX (b,a) (d,c)<0/\e= .returned (.tuple #[.agg #[(0:Int),(0:Int),.slice dl 0 0],.slice dl 0 0,(7:Int)]))\/(¬dX (b,a) (d,c)<0/\∃v1 v2,e= .returned (.tuple #[.agg #[b,a,v1],v2,(0:Int)])/\fk w' w.heap.size v1 l/\fk w' w.heap.size v2 l)):=
 Az (d,c) (b,a) v l w hv f hb hl
theorem rM(d c f a b g h i j k:Int)(v:bd)(l:List cF)(w:ax)(hv:fz w v l)(m:kf (d,c) l=dE)(hy:jJ ⟨f,(a,b),⟨g,h,i,j,k⟩⟩=dE)(hl:l.length<=1000):
  bl ed 88 #[.agg #[d,c,v],.agg #[f,a,b,g,h,i,j,k]] w λe w'=>dd w.heap.size w w'/\((dX (a,b) (d,c)<0/\e= .returned (.tuple #[.agg #[(0:Int),(0:Int),.slice dl 0 0],(7:Int)]))\/(¬dX (a,b) (d,c)<0/\∃v1,e= .returned (.tuple #[.agg #[a,b,v1],(0:Int)])/\fk w' w.heap.size v1 (mA ⟨f,(a,b),⟨g,h,i,j,k⟩⟩ l))):=
 CB (d,c) v l ⟨f,(a,b),⟨g,h,i,j,k⟩⟩ w hv m hy hl
theorem Ax(d c b a:Int)(v:bd)(l:List cF)(w:ax)(hv:fz w v l)(f:kf (d,c) l=dE)(hb:okB (b,a)=dE)(hl:l.length<=1000)(h:Hid (dX (b,a) (d,c)<0)):
  bl ed 86 #[.agg #[d,c,v],.agg #[b,a]] w λe w'=>e= .returned (.tuple #[.agg #[(0:Int),(0:Int),.slice dl 0 0],.slice dl 0 0,(7:Int)])/\dd w.heap.size w w':=
 (qm d c b a v l w hv f hb hl).m λe w' ⟨h1,h2⟩=>by
  rcases h2 with⟨-,h3⟩|⟨h3,-⟩
  ·exact⟨h3,h1⟩
  ·exact absurd h.o h3
theorem og(f d b a:Int)(v:bd)(l:List cF)(w:ax)(hv:fz w v l)(g:kf (f,d) l=dE)(hb:okB (b,a)=dE)(hl:l.length<=1000)(h:Hid (0<=dX (b,a) (f,d))):
  bl ed 86 #[.agg #[f,d,v],.agg #[b,a]] w λe w'=>∃a1 c1 a2 c,e= .returned (.tuple #[.agg #[b,a,.slice a1 l.length c1],.slice a2 l.length c,(0:Int)])/\fk w' w.heap.size (.slice a1 l.length c1) l/\fk w' w.heap.size (.slice a2 l.length c) l/\dd w.heap.size w w':=
 (qm f d b a v l w hv g hb hl).m λe w' ⟨h1,h2⟩=>by
  rcases h2 with⟨h3,-⟩|⟨-,v1,v2,h3,h4,h5⟩
  ·exact absurd h3 (Int.not_lt.2 h.o)
  ·obtain⟨a1,c1,rfl,-⟩:=id h4.row;obtain⟨a2,c,rfl,-⟩:=id h5.row;exact⟨a1,c1,a2,c,h3,h4,h5,h1⟩
theorem Cz(b a f c d g i j k m:Int)(v:bd)(l:List cF)(w:ax)(hv:fz w v l)(n:kf (b,a) l=dE)(hy:jJ ⟨f,(c,d),⟨g,i,j,k,m⟩⟩=dE)(hl:l.length<=1000)(h:Hid (dX (c,d) (b,a)<0)):
  bl ed 88 #[.agg #[b,a,v],.agg #[f,c,d,g,i,j,k,m]] w λe w'=>e= .returned (.tuple #[.agg #[(0:Int),(0:Int),.slice dl 0 0],(7:Int)])/\dd w.heap.size w w':=
 (rM b a f c d g i j k m v l w hv n hy hl).m λe w' ⟨h1,h2⟩=>by
  rcases h2 with⟨-,h3⟩|⟨h3,-⟩
  ·exact⟨h3,h1⟩
  ·exact absurd h.o h3
theorem sH(m k c a b d f g i j:Int)(v:bd)(l:List cF)(w:ax)(hv:fz w v l)(o:kf (m,k) l=dE)(hy:jJ ⟨c,(a,b),⟨d,f,g,i,j⟩⟩=dE)(hl:l.length<=1000)(h:Hid (0<=dX (a,b) (m,k))):
  bl ed 88 #[.agg #[m,k,v],.agg #[c,a,b,d,f,g,i,j]] w λe w'=>∃a1 c1 n,n=(mA ⟨c,(a,b),⟨d,f,g,i,j⟩⟩ l).length/\e= .returned (.tuple #[.agg #[a,b,.slice a1 n c1],(0:Int)])/\fk w' w.heap.size (.slice a1 n c1) (mA ⟨c,(a,b),⟨d,f,g,i,j⟩⟩ l)/\dd w.heap.size w w':=
 (rM m k c a b d f g i j v l w hv o hy hl).m λe w' ⟨h1,h2⟩=>by
  rcases h2 with⟨h3,-⟩|⟨-,v1,h3,h4⟩
  ·exact absurd h3 (Int.not_lt.2 h.o)
  ·obtain⟨a1,c1,rfl,-⟩:=id h4.row;exact⟨a1,c1,_,rfl,h3,h4,h1⟩
theorem rJ.keep{w wr a:ax}{q:Nat}{p:Int×Int}{vs:bd}{L:List cF}(h:rJ w wr q p vs L)(B:dd wr.heap.size wr a):rJ w a (q+1) p vs L:=by
 have h1:=hF h.acc;exact⟨(B.block _ (by omega)).t h.o,(B.block _ h1).t h.acc,ew h.hH (ag _) (λk _ hk=>B.block k hk),h.ok,h.Od,by have:=h.len;omega,h.below.t (B.m h.below.size)⟩
theorem rJ.fN{w wr a:ax}{q:Nat}{p b:Int×Int}{vs v1:bd}{L c:List cF}(h:rJ w wr q p vs L)(B:dd wr.heap.size wr a)(ho:fk a wr.heap.size v1 c)(e:kf b c=dE)(d:b.1<=9)(hl:c.length<=q+1):
  rJ w (((a.setCell (w.heap.size+1,0) b.1).setCell (w.heap.size+1,1) b.2).setCell (w.heap.size+1,2) v1) (q+1) b v1 c:=by
 have h1:=hF h.acc;have hs:=B.size;have hle:w.heap.size<=w.heap.size+1:=by omega
 have hq:∀k,k≠w.heap.size+1->(((a.setCell (w.heap.size+1,0) b.1).setCell (w.heap.size+1,1) b.2).setCell (w.heap.size+1,2) v1).heap[k]?=a.heap[k]?:=λk hk=>by
  rw[aA _ _ hk,aA _ _ hk,aA _ _ hk]
 refine⟨?_,aB (aB (aB ((B.block _ h1).t h.acc) _) _) _,?_,e,d,hl,?_⟩
 ·rw[hq _ (by omega)];exact(B.block _ (by omega)).t h.o
 ·exact ew ho (by omega) (λk hk _=>hq k (by omega))
 ·exact(((h.below.t (B.m h.below.size)).setCell hle _).setCell hle _).setCell hle _
set_option maxHeartbeats 1000000
theorem Ay(i h m k:Int)(v:bd)(l:List cF)(w:ax)(hv:fz w v l)(q:kf (i,h) l=dE)(hb:okB (m,k)=dT)(hl:l.length<=1000):
  bl ed 86 #[.agg #[i,h,v],.agg #[m,k]] w λe w'=>e= .returned (.tuple #[.agg #[(0:Int),(0:Int),.slice dl 0 0],.slice dl 0 0,(2:Int)])/\dd w.heap.size w w':=by
 obtain⟨ea,H,rfl,hle,I,-⟩:=id hv.1;obtain⟨n,p⟩:=aK l.length;rw[<-p]at hv hle hl|-;have x:=ae hv;have u:=ae (show(if kf (i,h) l then(0:Int)else 5)=0 by rw[q];rfl);have t:=ae hb;clear hv p q hb;go_enter func86,ntmps86
 go_upto_region 1 with fail
 generalize b:World.alloc _ _=J;have G:=ae (pg b);have a0:=ej G.o.1 0 rfl;have a1:=ej G.o.1 1 rfl;have a2:=ej G.o.1 2 rfl;clear b;go_upto_region 4 with(go_at_call 112;refine(mL _ _ _ _ l _ ((x.o.stay G.o.2.2.2.1).1) u).m ?_;rintro e K ⟨rfl,o⟩;have c:=ae o;clear o)
 clear a0 a1 a2;have d:=(c.o.block _ (hF G.o.2.1)).t G.o.2.1;have F:=ej d 0 rfl;have b1:=ej d 1 rfl;clear d;go_wp2_with (go_at_call 113;refine(nI _ _ _ _ t).m ?_;rintro e w3 ⟨rfl,f⟩;have s:=ae (G.o.2.2.2.1.t ((c.o.t (f.m c.o.size)).m G.o.2.2.2.1.size));have a:=((c.o.t (f.m c.o.size)).block _ (hF G.o.2.2.1)).t G.o.2.2.1;have y:=ae a;have B:=ej a 0 rfl;have C:=ej a 1 rfl;have D:=ej a 2 rfl;have E:=aO a;clear f a)
 generalize b:World.setCell _ _ _=r;have j:r.heap[w.heap.size+1+1]?=de (.cells #[(0:Int),(0:Int),.slice dl 0 0] 76 (0,0)):=by
  rw[<-b];exact aB (aB (aB y.o _) _) _
 have g:w.heap.size<=w.heap.size+1+1:=by omega
 have z:dd w.heap.size w r:=by rw[<-b];exact((s.o.setCell g _).setCell g _).setCell g _
 clear b B C D E;have A:=ej j 0 rfl;have e1:=ej j 1 rfl;have e2:=ej j 2 rfl;refine aH (v:= .tuple #[.agg #[(0:Int),(0:Int),.slice dl 0 0],.slice dl 0 0,(2:Int)]) ?_ rfl ⟨rfl,z⟩;simp[results,Tryz.results86,go_sem,A,e1,e2]
theorem CA(i h r s t u x y z A:Int)(v:bd)(l:List cF)(w:ax)(hv:fz w v l)(p:kf (i,h) l=dE)(hb:jJ ⟨r,(s,t),⟨u,x,y,z,A⟩⟩=dT)(hl:l.length<=1000):
  bl ed 88 #[.agg #[i,h,v],.agg #[r,s,t,u,x,y,z,A]] w λe w'=>e= .returned (.tuple #[.agg #[(0:Int),(0:Int),.slice dl 0 0],(2:Int)])/\dd w.heap.size w w':=by
 obtain⟨ea,R,rfl,hle,S,-⟩:=id hv.1;obtain⟨n,o⟩:=aK l.length;rw[<-o]at hv hle hl|-;have E:=ae hv;have D:=ae (show(if kf (i,h) l then(0:Int)else 5)=0 by rw[p];rfl);have C:=ae hb;clear hv o p hb;go_enter func88,ntmps88
 go_upto_region 1 with fail
 generalize c:World.alloc _ _=T;have G:=ae (pg c);have a0:=ej G.o.1 0 rfl;have a1:=ej G.o.1 1 rfl;have a2:=ej G.o.1 2 rfl;clear c;go_upto_region 4 with(go_at_call 112;refine(mL _ _ _ _ l _ ((E.o.stay G.o.2.2.2.1).1) D).m ?_;rintro e U ⟨rfl,m⟩;have d:=ae m;clear m)
 clear a0 a1 a2;have a:=(d.o.block _ (hF G.o.2.1)).t G.o.2.1;have M:=ej a 0 rfl;have b1:=ej a 1 rfl;have b2:=ej a 2 rfl;have N:=ej a 3 rfl;have O:=ej a 4 rfl;have k:=ej a 5 rfl;have P:=ej a 6 rfl;have Q:=ej a 7 rfl;clear a;go_wp2_with (go_at_call 116;refine(nO _ _ _ _ _ _ _ _ _ _ C).m ?_;rintro e w3 ⟨rfl,f⟩;have B:=ae (G.o.2.2.2.1.t ((d.o.t (f.m d.o.size)).m G.o.2.2.2.1.size));have b:=((d.o.t (f.m d.o.size)).block _ (hF G.o.2.2.1)).t G.o.2.2.1;have F:=ae b;have I:=ej b 0 rfl;have J:=ej b 1 rfl;have K:=ej b 2 rfl;have L:=aO b;clear f b)
 generalize c:World.setCell _ _ _=q;have j:q.heap[w.heap.size+1+1]?=de (.cells #[(0:Int),(0:Int),.slice dl 0 0] 76 (0,0)):=by
  rw[<-c];exact aB (aB (aB F.o _) _) _
 have g:w.heap.size<=w.heap.size+1+1:=by omega
 have k:dd w.heap.size w q:=by rw[<-c];exact((B.o.setCell g _).setCell g _).setCell g _
 clear c I J K L;have H:=ej j 0 rfl;have e1:=ej j 1 rfl;have e2:=ej j 2 rfl;refine aH (v:= .tuple #[.agg #[(0:Int),(0:Int),.slice dl 0 0],(2:Int)]) ?_ rfl ⟨rfl,k⟩;simp[results,Tryz.results88,go_sem,H,e1,e2]
set_option maxHeartbeats 2000000
theorem DZ{w:ax}{b:Nat}{s:dA}{t:TypeId}(h:s.Ok)(hx:w.heap[b]?=de (.cells s.cells.toArray t (0,0))):w.rangeAt b 0 (s.DB.map (Value.int .i64)):=λj v hv=>by
 have hj:j<8:=by have:=(cX.1 hv).1;simpa[CF h]using this
 rw[ca,jv hx h.ln (by omega),<-hv];unfold dA.DB;have h1:j<s.n.length:=by have:=h.ln;omega
 simp[cR,hj,h1]
theorem Bj{w:ax}{b:Nat}{s:dA}{t:TypeId}(h:s.Ok)(hx:w.heap[b]?=de (.cells s.cells.toArray t (0,0))):w.rangeAt b 8 (s.wP.map (Value.int .i64)):=λj v hv=>by
 have hj:j<8:=by have:=(cX.1 hv).1;simpa[zN h]using this
 rw[jv hx h.ln (by omega),<-hv];unfold dA.wP;have h1:8+j<s.n.length:=by have:=h.ln;omega
 simp[cR,hj,h1]
theorem rP(s:dA)(h:s.Ok)(w:ax):
  bl ed 73 #[.agg s.cells.toArray] w λe w'=>e= .returned (0:Int)/\dd w.heap.size w w':=by
 have a:=ae h;obtain⟨cs,r⟩:=aK s.cells.toArray;have X:(w.alloc (.cells cs 85)).heap[w.heap.size]?=de (.cells s.cells.toArray 85 (0,0)):=by rw[r];exact aL w _
 rw[<-r];obtain⟨v1,p⟩:=aK (s.DB.map (Value.int .i64));obtain⟨v2,q⟩:=aK (s.wP.map (Value.int .i64));have v:=DZ h X;have y:=Bj h X;have c:(prog.info? 79).map (λx=>x.size)=de v1.length:=by rw[p,aY,CF h];kernel_rfl
 have d:(prog.info? 79).map (λx=>x.size)=de v2.length:=by rw[q,aY,zN h];kernel_rfl
 have i1:∀k:Nat,k<8->∀W,(Instr.index 79 (.agg v1.toArray) k).run ed W= .ok (s.val k) W:=λk hk W=>by rw[p];exact BI h k hk W
 have i2:∀k:Nat,k<8->∀W,(Instr.index 79 (.agg v2.toArray) k).run ed W= .ok (s.last k) W:=λk hk W=>by rw[q];exact zR h k hk W
 rw[<-p]at v;rw[<-q]at y;have A:=ae X;have B:=ae i1;have C:=ae i2;have D:=ae v;have E:=ae y;have F:=ae c;have G:=ae d;clear i1 i2 X h r p q v y c d;go_enter func73,ntmps73
 go_wp2_with (refine cM rfl 79 (.tmp 7) rfl w.heap.size 0 rfl v1 _ D.o Tryz.underlying79 rfl F.o ?_)
 go_loop [9] (λi=>∃k:Nat,k<=8/\i= .int .i64 k) (λi=>8-(intOf i).toNat)
 case atStart=>exact⟨0,by omega,rfl⟩
 case round=>
  obtain⟨k,hk,rfl⟩:=hrel;by_cases hlt:k<8
  ·have J:decide ((k:Int)<8)=dE:=by rw[ap];omega
   have t:=B.o k hlt;have n0:=a.o.Lp k hlt;have z:=a.o.Lo k hlt;obtain⟨n,b⟩:=aK (s.val k);rw[<-b]at t n0 z;clear b;have d1:decide (n<0)=dT:=by rw[ah];omega
   have d2:decide ((1073741824:Int)<n)=dT:=by rw[ah];omega
   go_wp2_with fail
   go_round
   case rel=>exact⟨k+1,by omega,by go_num⟩
   case measure=>simp[intOf];omega
  ·have J:decide ((k:Int)<8)=dT:=by rw[ah];omega
   go_wp2_with (refine cM rfl 79 (.tmp 19) rfl w.heap.size 8 rfl v2 _ E.o Tryz.underlying79 rfl G.o ?_)
   go_loop [21] (λi=>∃k:Nat,k<=8/\i= .int .i64 k) (λi=>8-(intOf i).toNat)
   case atStart=>exact⟨0,by omega,rfl⟩
   case round=>
    obtain⟨j,hj,rfl⟩:=hrel;by_cases l:j<8
    ·have I:decide ((j:Int)<8)=dE:=by rw[ap];omega
     have t:=C.o j l;have n0:=a.o.KT j l;have z:=a.o.KS j l;have m:=a.o.none j l;have f:=jv (o:=16+j*2) A.o a.o.ln (by omega);have g:=jv (o:=16+j*2+1) A.o a.o.ln (by omega);rw[show 16+j*2=16+2*j by omega]at f;rw[show 16+j*2+1=17+2*j by omega]at g;obtain⟨n,b⟩:=aK (s.last j);rw[<-b]at t n0 z m;have d1:decide (n<0)=dT:=by rw[ah];omega
     have d2:decide ((1048577:Int)<n)=dT:=by rw[ah];omega
     by_cases u:n=0
     ·obtain⟨c,d⟩:=m u;unfold dA.code at c;unfold dA.qN at d;rw[c]at f;rw[d]at g;rw[show 16+2*j=16+j*2 by omega]at f;rw[show 17+2*j=16+j*2+1 by omega]at g;have H:(n==0)=dE:=by simp[u]
      clear b m c d;go_wp2_with fail
      go_round
      case rel=>exact⟨j+1,by omega,by go_num⟩
      case measure=>simp[intOf];omega
     ·have H:(n==0)=dT:=by simp[u]
      clear b m f g;go_wp2_with fail
      go_round
      case rel=>exact⟨j+1,by omega,by go_num⟩
      case measure=>simp[intOf];omega
    ·have I:decide ((j:Int)<8)=dT:=by rw[ah];omega
     go_wp2
     go_ret
     exact⟨rfl,(aj _ _).alloc (ag _) _⟩
end Go.Proofs.YtcdmenphjilnnaaGreatDoor
namespace Go.Con
open Go.RowKit
theorem BO{w a:ax}{A B C D:Obj}(h:dd ((((w.alloc A).alloc B).alloc C).alloc D).heap.size ((((w.alloc A).alloc B).alloc C).alloc D) a):
  a.heap[w.heap.size]?=de A/\a.heap[w.heap.size+1]?=de B/\a.heap[w.heap.size+1+1]?=de C/\a.heap[w.heap.size+1+1+1]?=de D/\w.heap.size+4<=a.heap.size/\dd w.heap.size w a:=by
 have e1:(w.alloc A).heap.size=w.heap.size+1:=by simp
 have e2:((w.alloc A).alloc B).heap.size=w.heap.size+1+1:=by simp
 have e3:(((w.alloc A).alloc B).alloc C).heap.size=w.heap.size+1+1+1:=by simp
 have b:((((w.alloc A).alloc B).alloc C).alloc D).heap.size=w.heap.size+4:=by simp
 rw[b]at h;refine⟨?_,?_,?_,?_,?_,?_⟩
 ·rw[h.block _ (by omega),bC _ _ _ (by omega),bC _ _ _ (by omega),bC _ _ _ (by omega)];exact aL _ _
 ·rw[h.block _ (by omega),bC _ _ _ (by omega),bC _ _ _ (by omega),<-e1];exact aL _ _
 ·rw[h.block _ (by omega),bC _ _ _ (by omega),<-e2];exact aL _ _
 ·rw[h.block _ (by omega),<-e3];exact aL _ _
 ·have:=h.size;rw[b]at this;exact this
 ·exact(((((aj w.heap.size w).alloc (ag _) _).alloc (by omega) _).alloc (by omega) _).alloc (by omega) _).t (h.m (by omega))
def dA.oO(s:dA)(c:bk):dA:=⟨if c.kind=1 then s.n.set c.name.toNat c.value else s.n,if c.kind=3 then s.r.set c.name.toNat dE else s.r⟩
end Go.Con
namespace Go.Proofs.YtcdmenphjilnnaaGreatDoor
open Go.RowKit Go.Con
theorem Kr(b:Nat)(s:dA)(h:s.n.length=32)(cl l c:Int)(a:Nat)(D:a<8)(w:ax)(hx:w.heap[b]?=de (.cells s.cells.toArray 85 (0,0))):
  bl ed 74 #[(b,0),.agg #[(1:Int),cl,l,a,c]] w λe w'=>e= .returned (.agg #[(0:Int),c])/\w'.heap[b]?=de (.cells (s.aX a c).cells.toArray 85 (0,0))/\Kept w.heap.size (λk=>k=b) w w':=by
 have C:=hF hx;have u:=jv (o:=a) hx h (by omega);have x:=aO hx a;have X:=ae hx;have H:=ae h;clear hx h;go_enter func74,ntmps74
 go_wp2_with fail
 refine bQ 8 (by kernel_rfl) (by kernel_rfl) ?_;simp only[bH,cQ,bT,cC];repeat (go_big_quiet_step (fail))
 refine bt ?_;intro z i;obtain⟨nq,rfl⟩:=i;go_wp2_with fail
 generalize d:World.setCell _ _ _=g;have j:g.heap[b]?=de (.cells (s.aX a c).cells.toArray 85 (0,0)):=by
  rw[<-d];refine sZ ?_ H.o (by omega) c;show((w.alloc _).alloc _).heap[b]?=_;rw[bC _ _ _ (by simp;omega),bC _ _ _ (by omega)];exact X.o
 have m:g.heap[w.heap.size]?=de (.cells #[(1:Int),cl,l,a,c] 54 (0,0)):=by
  rw[<-d,aA _ _ (by omega)];exact gT _ _ _
 have f:g.heap[w.heap.size+1]?=de (.cells #[(0:Int),(0:Int)] 81 (0,0)):=by
  rw[<-d,aA _ _ (by omega)];exact gl _ _ _
 have n:Kept w.heap.size (λk=>k=b) w g:=by
  rw[<-d];refine Kept.setCell (Kept.drewN (Kept.alloc (Kept.alloc (Kept.refl w.heap.size (λk=>k=b) w) (ag _) _) ?_ _) nq) (.inr (show b=b from rfl)) _;simp
 have r:=jv (o:=a) j (by unfold dA.aX;simp[H.o]) (by omega);have e2:(s.aX a c).n.getD a 0=c:=by unfold dA.aX;dsimp only;rw[qI,if_pos ⟨rfl,by have:=H.o;omega⟩]
 rw[e2]at r;have B:=ej m 3 rfl;have t:=ej f 0 rfl;have c5:=ej f 1 rfl;have f4:=aO f;have p:=ae j;have A:=ae f;have q:=ae n;clear d j m f n e2 u x;refine bQ 8 (by kernel_rfl) (by kernel_rfl) ?_;simp only[bH,cQ,bT,cC];repeat (go_big_quiet_step (fail))
 refine bt ?_;intro z i;obtain⟨y,rfl⟩:=i;go_wp2_with fail
 refine aH (v:= .agg #[(0:Int),c]) (by simp[results,Tryz.results74,go_sem,t,c5,f4]) rfl ⟨rfl,?_,?_⟩
 ·rw[aA _ _ (by omega),aA _ _ (by omega)];exact p.o
 ·exact((q.o.drewN y).setCell (.inl (by show w.heap.size<=w.heap.size+1;omega)) _).setCell (.inl (by show w.heap.size<=w.heap.size+1;omega)) _
theorem Ks(b:Nat)(s:dA)(h:s.n.length=32)(cl i j:Int)(a:Nat)(m:a<8)(w:ax)(hx:w.heap[b]?=de (.cells s.cells.toArray 85 (0,0))):
  bl ed 74 #[(b,0),.agg #[(2:Int),cl,i,a,j]] w λe w'=>e= .returned (.agg #[(0:Int),(s.val a)])/\w'.heap[b]?=de (.cells s.cells.toArray 85 (0,0))/\Kept w.heap.size (λk=>k=b) w w':=by
 have l:=hF hx;have d:=jv (o:=a) hx h (by omega);have c:s.n.getD a 0=s.val a:=rfl;rw[c]at d;have X:=ae hx;clear hx h c;go_enter func74,ntmps74
 go_wp2_with fail
 refine bQ 8 (by kernel_rfl) (by kernel_rfl) ?_;simp only[bH,cQ,bT,cC];repeat (go_big_quiet_step (fail))
 refine bt ?_;intro n f;obtain⟨g,rfl⟩:=f;go_wp2_with fail
 refine aH (v:= .agg #[(0:Int),(s.val a)]) (by simp[results,Tryz.results74,go_sem]) rfl ⟨rfl,?_,?_⟩
 ·rw[aA _ _ (by omega),aA _ _ (by omega)];show((w.alloc _).alloc _).heap[b]?=_;rw[bC _ _ _ (by simp;omega),bC _ _ _ (by omega)];exact X.o
 ·refine Kept.setCell (Kept.setCell (Kept.drewN (Kept.alloc (Kept.alloc (Kept.refl w.heap.size (λk=>k=b) w) (ag _) _) ?_ _) g) (.inl ?_) _) (.inl ?_) _
  ·simp
  ·show w.heap.size<=w.heap.size+1;omega
  ·show w.heap.size<=w.heap.size+1;omega
theorem Cn(b:Nat)(s:dA)(h:s.n.length=32)(hr:s.r.length=8)(cl g j:Int)(a:Nat)(c:a<8)(w:ax)(hx:w.heap[b]?=de (.cells s.cells.toArray 85 (0,0))):
  bl ed 74 #[(b,0),.agg #[(3:Int),cl,g,a,j]] w λe w'=>e= .returned (.agg #[(0:Int),(0:Int)])/\w'.heap[b]?=de (.cells (s.Jp a).cells.toArray 85 (0,0))/\Kept w.heap.size (λk=>k=b) w w':=by
 have n:=hF hx;have l:=xD (i:=a) hx h hr c;have m:=aO hx (32+a);have X:=ae hx;have H:=ae h;have d:=ae hr;clear hx h hr;go_enter func74,ntmps74
 go_wp2_with fail
 refine bQ 6 (by kernel_rfl) (by kernel_rfl) ?_;simp only[bH,cQ,bT,cC];repeat (go_big_quiet_step (fail))
 refine bt ?_;intro o f;obtain⟨nq,rfl⟩:=f;go_wp2_with fail
 refine aH (v:= .agg #[(0:Int),(0:Int)]) (by simp[results,Tryz.results74,go_sem]) rfl ⟨rfl,?_,?_⟩
 ·rw[aA _ _ (by omega),aA _ _ (by omega)];refine Jo ?_ H.o d.o c;show((w.alloc _).alloc _).heap[b]?=_;rw[bC _ _ _ (by simp;omega),bC _ _ _ (by omega)];exact X.o
 ·refine Kept.setCell (Kept.setCell (Kept.setCell (Kept.drewN (Kept.alloc (Kept.alloc (Kept.refl w.heap.size (λk=>k=b) w) (ag _) _) ?_ _) nq) (.inr (show b=b from rfl)) _) (.inl ?_) _) (.inl ?_) _
  ·simp
  ·show w.heap.size<=w.heap.size+1;omega
  ·show w.heap.size<=w.heap.size+1;omega
set_option maxHeartbeats 400000
theorem KX(w:ax)(X A B C:Obj):((((w.alloc X).alloc A).alloc B).alloc C).heap[w.heap.size]?=de X:=
 (BO (aj _ ((((w.alloc X).alloc A).alloc B).alloc C))).1
theorem uL{w:ax}{b:Nat}{tmps:Array bd}{s:dA}(h:s.Ok){a:Int×Int}{n:Int}(c:tmps.getD 4 undef= (b+1+1,0))(d:tmps.getD 5 undef= (b+1+1+1,0))(e:tmps.getD 6 undef= .int .i64 n)
  (h1:w.heap[b+1+1]?=de (.cells s.cells.toArray 85 (0,0)))(h2:w.heap[b+1+1+1]?=de (.cells #[a.1,a.2] 81 (0,0))):
  (results Tryz.f51 tmps).run ed w= .ok (.tuple #[.agg s.cells.toArray,.agg #[a.1,a.2],n]) w:=by
 have f:=aU (P:=ed) w (b+1+1) 0 85 s.cells _ (bu h1) Tryz.underlying85 rfl (by rw[jd h];exact oz);have g:=aU (P:=ed) w (b+1+1+1) 0 81 [a.1,a.2] _ (bu h2) Tryz.underlying81 rfl (by kernel_rfl);rw[zl Tryz.results51 c d f g,e]
theorem Kt(b:Nat)(s:dA)(h:s.n.length=32)(hr:s.r.length=8)(c:bk)(hc:c.Real)(w:ax)(hx:w.heap[b]?=de (.cells s.cells.toArray 85 (0,0))):
  bl ed 74 #[(b,0),.agg #[c.kind,c.bD,c.seq,c.name,c.value]] w λe w'=>e= .returned (.agg #[(0:Int),(s.told c)])/\w'.heap[b]?=de (.cells (s.oO c).cells.toArray 85 (0,0))/\Kept w.heap.size (λk=>k=b) w w':=by
 obtain⟨k,cl,a,f,d⟩:=c;have k1:=hc.k1;have k3:=hc.k3;have n0:=hc.n0;have n7:=hc.n7;dsimp only at k1 k3 n0 n7;obtain⟨n,rfl⟩:∃n:Nat,f=n:=⟨f.toNat,by omega⟩
 have hk:k=1\/k=2\/k=3:=by omega
 rcases hk with rfl|rfl|rfl
 ·exact Kr b s h cl a d n (by omega) w hx
 ·exact Ks b s h cl a d n (by omega) w hx
 ·exact Cn b s h hr cl a d n (by omega) w hx
theorem KF(s:dA)(h:s.Ok)(w:ax):
  bl ed 51 #[.agg s.cells.toArray,.agg #[(0:Int),(0:Int),(0:Int),(0:Int),(0:Int)]] w λe w'=>e= .returned (.tuple #[.agg s.cells.toArray,.agg #[(0:Int),(0:Int)],(0:Int)])/\dd w.heap.size w w':=by
 have hc:cS ⟨0,0,0,0,0⟩=0:=by decide
 obtain⟨cs,g⟩:=aK s.cells.toArray;have G:∀A B C,((((w.alloc (.cells cs 85)).alloc A).alloc B).alloc C).rangeAt w.heap.size 0 s.cells:=λA B C=>bu (t:=85) (f:=(0,0)) (by rw[g];exact KX w _ A B C);have len:(prog.info? 85).map (λx=>x.size)=de s.cells.length:=by rw[jd h];exact oz
 have E:de (Obj.cells cs 85 (0,0))=de (.cells s.cells.toArray 85 (0,0)):=by rw[g]
 have D:∀W,bl ed 42 #[.agg #[(0:Int),(0:Int),(0:Int),(0:Int),(0:Int)]] W λe w'=>e= .returned (0:Int)/\dd W.heap.size W w':=λW=>by
  have F:=lR ⟨0,0,0,0,0⟩ W;rw[hc]at F;exact F
 have U:=ae D;have X:=ae G;have l:=ae len;have i:=ae h;have V:=ae E;have T:=ae g;rw[<-g];clear G len h g E D;clear hc;go_enter func51,ntmps51
 go_wp2_with (first
  |(go_at_call 73;refine(rP s i.o _).m ?_;rintro e w1 ⟨rfl,z⟩;have c:=ae (BO z);clear z;have r:=ej c.o.2.1 0 rfl;have u:=ej c.o.2.1 1 rfl;have a1:=ej c.o.2.1 2 rfl;have a2:=ej c.o.2.1 3 rfl;have a3:=ej c.o.2.1 4 rfl)
  |(refine cM rfl 85 (.tmp 2) rfl w.heap.size 0 rfl s.cells _ ?_ Tryz.underlying85 rfl l.o ?_;(with_reducible exact X.o _ _ _)))
 refine(U.o _).m ?_;rintro e w2 ⟨rfl,d⟩;obtain⟨Z,J,K⟩:=(show∃Z,w1.heap[w.heap.size+1+1]?=de (.cells Z 85 (0,0))/\Z.size=40 from⟨_,c.o.2.2.1,rfl⟩)
 have H:=c.o.2.2.2.2.1;have P:=(d.block w.heap.size (by omega)).t (c.o.1.t V.o);have Q:=(d.block (w.heap.size+1) (by omega)).t c.o.2.1;have R:=(d.block (w.heap.size+1+1) (by omega)).t J;have S:=(d.block (w.heap.size+1+1+1) (by omega)).t c.o.2.2.2.1;have I:=aE H d.size;have y:=c.o.2.2.2.2.2.t (d.m (by omega));have X0:=ae P;have o:=ae Q;have p:=ae R;have X3:=ae S;have S2:=ae I;have Y:=ae y;have q:=ae K;clear d c J H P Q R S I y K r u a1 a2 a3;have r:=ej o.o 0 rfl;have u:=ej o.o 1 rfl;have hrg:=bu X0.o;have m:=i;have M:w2.there (w.heap.size+1+1) 0 s.cells.toArray.size:=by rw[iW i.o];exact dr p.o q.o
 have L:(prog.info? 85).map (λx=>x.size)=de s.cells.toArray.size:=by rw[iW i.o];exact oz
 have TH:=ae M;have a0:=ae L;clear M L;go_wp2_with (first
  |(refine cM rfl 85 (.tmp 2) rfl w.heap.size 0 rfl s.cells _ hrg Tryz.underlying85 rfl l.o ?_)
  |(refine bz rfl 85 (.tmp 4) (.tmp 33) rfl (w.heap.size+1+1) 0 s.cells.toArray rfl rfl ?_ a0.o (oA _) ?_;(with_reducible exact TH.o);generalize j:World.setCells _ _ _ _=k;have N:k.heap[w.heap.size+1+1]?=de (.cells s.cells.toArray 85 (0,0)):=(by rw[<-j];exact dI (vs:=s.cells) p.o (by rw[q.o,jd m.o]));have u3:k.heap[w.heap.size+1+1+1]?=de (.cells #[(0:Int),(0:Int)] 81 (0,0)):=(by rw[<-j,bE (by omega)];exact X3.o);have O:dd w.heap.size w k:=(by rw[<-j];exact bp (by omega) _ _ _ Y.o);have U2:=ae N;have U3:=ae u3;have UY:=ae O;have d0:=ej u3 0 rfl;have d1:=ej u3 1 rfl;have df:=aO u3;clear j N u3 O))
 rw[T.o];refine aH (v:= .tuple #[.agg s.cells.toArray,.agg #[(0:Int),(0:Int)],(0:Int)]) (uL (b:=w.heap.size) (s:=s) m.o (a:=(0,0)) (n:=0) rfl rfl rfl ?_ ?_) rfl ⟨rfl,?_⟩
 ·rw[aA _ _ (by omega),aA _ _ (by omega)];exact U2.o
 ·exact aB (aB U3.o _) _
 ·exact(UY.o.setCell (by show w.heap.size<=w.heap.size+1+1+1;omega) _).setCell (by show w.heap.size<=w.heap.size+1+1+1;omega) _
theorem yF(s:dA)(h:s.Ok)(k d g r:Int)(cl:Nat)(X:bk.Real ⟨k,cl,d,g,r⟩)(hc:cS ⟨k,cl,d,g,r⟩=0)(w:ax)(Z:Ending->ax->Prop)(f0:(d+1=s.last cl/\Z=λe w'=>e= .returned (.tuple #[.agg s.cells.toArray,.agg #[(s.code cl),(s.qN cl)],(0:Int)])/\dd w.heap.size w w')\/(d+1<s.last cl/\Z=λe w'=>e= .returned (.tuple #[.agg s.cells.toArray,.agg #[(7:Int),(0:Int)],(0:Int)])/\dd w.heap.size w w')\/(s.rev cl=dE/\s.last cl<=d/\Z=λe w'=>e= .returned (.tuple #[.agg s.cells.toArray,.agg #[(11:Int),(0:Int)],(0:Int)])/\dd w.heap.size w w')\/(s.rev cl=dT/\s.last cl<=d/\Z=λe w'=>e= .returned (.tuple #[.agg (s.done ⟨k,cl,d,g,r⟩).cells.toArray,.agg #[(0:Int),(s.told ⟨k,cl,d,g,r⟩)],(0:Int)])/\dd w.heap.size w w')):
  bl ed 51 #[.agg s.cells.toArray,.agg #[k,cl,d,g,r]] w Z:=by
 have a4:=ae f0;clear f0;obtain⟨cs,a8⟩:=aK s.cells.toArray;have e6:∀A B C,((((w.alloc (.cells cs 85)).alloc A).alloc B).alloc C).rangeAt w.heap.size 0 s.cells:=λA B C=>bu (t:=85) (f:=(0,0)) (by rw[a8];exact KX w _ A B C);have len:(prog.info? 85).map (λx=>x.size)=de s.cells.length:=by rw[jd h];exact oz
 have e3:de (Obj.cells cs 85 (0,0))=de (.cells s.cells.toArray 85 (0,0)):=by rw[a8]
 have e1:∀W,bl ed 42 #[.agg #[k,(cl:Int),d,g,r]] W λe w'=>e= .returned (0:Int)/\dd W.heap.size W w':=λW=>by
  have hh:=lR ⟨k,(cl:Int),d,g,r⟩ W;rw[hc]at hh;exact hh
 have f5:=ae e1;have f7:=ae e6;have a5:=ae len;have q:=ae h;have f6:=ae e3;have b4:=ae a8;rw[<-a8];clear e6 len h a8 e3 e1;have k1:=X.k1;have g6:=X.c7;have s0:=X.s0;have s1:=X.s1;dsimp only at k1 g6 s0 s1;have e2:cl<8:=by omega
 have ek:(k==0)=dT:=by rw[aJ];omega
 have b6:=ae X;clear hc X;go_enter func51,ntmps51
 go_wp2_with (first
  |(go_at_call 73;refine(rP s q.o _).m ?_;rintro e w1 ⟨rfl,d9⟩;have D:=ae (BO d9);clear d9;have c1:=ej D.o.2.1 0 rfl;have c2:=ej D.o.2.1 1 rfl;have c3:=ej D.o.2.1 2 rfl;have c4:=ej D.o.2.1 3 rfl;have c5:=ej D.o.2.1 4 rfl)
  |(refine cM rfl 85 (.tmp 2) rfl w.heap.size 0 rfl s.cells _ ?_ Tryz.underlying85 rfl a5.o ?_;(with_reducible exact f7.o _ _ _)))
 refine(f5.o _).m ?_;rintro e G ⟨rfl,Q⟩;obtain⟨Z,hz,f1⟩:=(show∃Z,w1.heap[w.heap.size+1+1]?=de (.cells Z 85 (0,0))/\Z.size=40 from⟨_,D.o.2.2.1,rfl⟩)
 have e8:=D.o.2.2.2.2.1;have x0:=(Q.block w.heap.size (by omega)).t (D.o.1.t f6.o);have x1:=(Q.block (w.heap.size+1) (by omega)).t D.o.2.1;have x2:=(Q.block (w.heap.size+1+1) (by omega)).t hz;have x3:=(Q.block (w.heap.size+1+1+1) (by omega)).t D.o.2.2.2.1;have e9:=aE e8 Q.size;have y:=D.o.2.2.2.2.2.t (Q.m (by omega));have H:=ae x0;have O:=ae x1;have U:=ae x2;have X3:=ae x3;have S2:=ae e9;have Y:=ae y;have P:=ae f1;clear Q D hz e8 x0 x1 x2 x3 e9 y f1 c1 c2 c3 c4 c5;have c1:=ej O.o 0 rfl;have c2:=ej O.o 1 rfl;have c3:=ej O.o 2 rfl;have e4:G.cell? (w.heap.size,8+cl)=(s.last cl):=jv (o:=8+cl) H.o q.o.ln (by omega);obtain⟨l,hl⟩:=aK (s.last cl);rw[<-hl]at e4;have b5:=ae hl;clear hl;have hrg:=bu H.o;have hlen:=a5.o;have J:=q;have th:∀n,(G.drewN n).there (w.heap.size+1+1) 0 s.cells.toArray.size:=by rw[iW q.o];exact λ_=>dr U.o P.o
 have f3:(prog.info? 85).map (λx=>x.size)=de s.cells.toArray.size:=by rw[iW q.o];exact oz
 have e7:∀n,(G.drewN n).rangeAt w.heap.size 0 s.cells:=λ_=>hrg;have TH:=ae th;have T:=ae f3;have RG:=ae e7;have b9:=ae (show∀n m,((G.drewN n).drewN m).rangeAt w.heap.size 0 s.cells from λ_ _=>hrg);have c0:=ae (show∀n m,((G.drewN n).drewN m).there (w.heap.size+1+1) 0 s.cells.toArray.size from λn _=>th n);clear th f3 hrg e7 hlen;rcases a4.o with⟨hy,rfl⟩|⟨hy,rfl⟩|⟨hr,hy,rfl⟩|⟨hr,hy,rfl⟩
 ·rw[<-b5.o]at hy;clear a4;have c6:(d+1==l)=dE:=by rw[eE];exact hy
  go_wp2_with fail
  refine dq (by kernel_rfl) (by kernel_rfl) ?_;repeat (go_big_quiet_step (fail))
  refine bt ?_;intro w9 z;obtain⟨d3,rfl⟩:=z;go_wp2_with fail
  refine wp_region_held_drew (S:=λW=>W.heap[w.heap.size]?=G.heap[w.heap.size]?/\W.heap[w.heap.size+1]?=G.heap[w.heap.size+1]?) (by kernel_rfl) ⟨rfl,rfl⟩ (λhS=>?_);refine dU (i:=0) (oi:={dst:=de 43,op:=_,type:=_,pos:=_,after:=_,guard:=dl}) (v:=_) rfl (by kernel_rfl) (by kernel_rfl) (by kernel_rfl) (λ_ _ _ h=>h) (yieldsIf_load_mid (by rfl) 85 (.tmp 2) rfl w.heap.size 0 rfl s.cells _ (λ_ h=>bu (h.1.t H.o)) Tryz.underlying85 rfl a5.o) hS ?_;try simp only[Act.put,aq,aF,aG]
  refine dU (i:=1) (oi:={dst:=de 44,op:=_,type:=_,pos:=_,after:=_,guard:=dl}) (v:= (w.heap.size+1,1)) rfl (by kernel_rfl) (by kernel_rfl) (by kernel_rfl) (λ_ _ _ h=>h) (Or.inl ⟨by rfl,λW hw=>?_⟩) hS ?_
  ·go_simp
  try simp only[Act.put,aq,aF,aG]
  refine dU (i:=2) (oi:={dst:=de 45,op:=_,type:=_,pos:=_,after:=_,guard:=dl}) (v:= .int .i64 cl) rfl (by kernel_rfl) (by kernel_rfl) (by kernel_rfl) (λ_ _ _ h=>h) (Or.inl ⟨by rfl,λW hw=>?_⟩) hS ?_
  ·have q1:=ej (hw.2.t O.o) 1 rfl;go_simp
  try simp only[Act.put,aq,aF,aG]
  refine dU (i:=3) (oi:={dst:=de 46,op:=_,type:=_,pos:=_,after:=_,guard:=dl}) (v:= (w.heap.size,16)) rfl (by kernel_rfl) (by kernel_rfl) (by kernel_rfl) (λ_ _ _ h=>h) (Or.inl ⟨by rfl,λW hw=>?_⟩) hS ?_
  ·go_simp
  try simp only[Act.put,aq,aF,aG]
  refine dU (i:=4) (oi:={dst:=de 47,op:=_,type:=_,pos:=_,after:=_,guard:=dl}) (v:= (w.heap.size,16+cl*2)) rfl (by kernel_rfl) (by kernel_rfl) (by kernel_rfl) (λ_ _ _ h=>h) (Or.inl ⟨by rfl,λW hw=>?_⟩) hS ?_
  ·go_simp;intro h8;exfalso;omega
  try simp only[Act.put,aq,aF,aG]
  refine dU (i:=5) (oi:={dst:=de 48,op:=_,type:=_,pos:=_,after:=_,guard:=dl}) (v:= .agg #[(s.code cl),(s.qN cl)]) rfl (by kernel_rfl) (by kernel_rfl) (by kernel_rfl) (λ_ _ _ h=>h) (Or.inl ⟨by rfl,λW hw=>?_⟩) hS ?_
  ·have q1:W.cell? (w.heap.size,16+cl*2)=(s.code cl):=(by rw[show 16+cl*2=16+2*cl by omega];exact jv (hw.1.t H.o) q.o.ln (by omega));have q2:W.cell? (w.heap.size,16+cl*2+1)=(s.qN cl):=(by rw[show 16+cl*2+1=17+2*cl by omega];exact jv (hw.1.t H.o) q.o.ln (by omega));go_simp
  try simp only[Act.put,aq,aF,aG]
  refine wpAnyH_ready (rs:=[6]) (by kernel_rfl) (by simp) ?_;refine AllReadyH.cons (o:={dst:=dl,op:= .store 85 (.tmp 4) (.tmp 43),type:=_,pos:=_,after:=_,guard:=dl}) rfl (λK hK=>?_) AllReadyH.nil;rw[ar (by rfl)];refine wp_store_mid 85 (.tmp 4) (.tmp 43) rfl (w.heap.size+1+1) 0 s.cells.toArray rfl rfl ?_ T.o (oA _) ?_
  ·rw[iW q.o];exact dr U.o P.o
  generalize c:World.setCells _ _ _ _=u;have E:u.heap[w.heap.size+1+1]?=de (.cells s.cells.toArray 85 (0,0)):=by rw[<-c];exact dI (vs:=s.cells) U.o (by rw[P.o,jd q.o])
  have u3:u.heap[w.heap.size+1+1+1]?=de (.cells #[(0:Int),(0:Int)] 81 (0,0)):=by rw[<-c,bE (by omega)];exact X3.o
  have F:dd w.heap.size w u:=by rw[<-c];refine bp (by omega) _ _ _ ?_;first|exact Below.drew Y.o|exact(below_drewN Y.o _).drew
  have L:=ae E;have M:=ae u3;have N:=ae F;have d0:=ej u3 0 rfl;have d1:=ej u3 1 rfl;have df:=aO u3;clear E u3 F;refine hK.out _ _ ⟨?_,?_⟩ (λa7=>?_)
  ·rw[<-c,bE (by omega)];exact hS.1
  ·rw[<-c,bE (by omega)];exact hS.2
  clear hK K c hS;try simp only[Act.put,aq,aF,aG]
  refine wpAnyH_ready (rs:=[7]) (by kernel_rfl) (by simp) ?_;refine AllReadyH.cons (o:={dst:=dl,op:= .store 81 (.tmp 5) (.tmp 48),type:=_,pos:=_,after:=_,guard:=dl}) rfl (λK hK=>?_) AllReadyH.nil;go_simp
  refine hK.out _ _ ⟨?_,?_⟩ (λhS=>?_)
  ·rw[aA _ _ (by omega),aA _ _ (by omega)];exact a7.1
  ·rw[aA _ _ (by omega),aA _ _ (by omega)];exact a7.2
  clear hK K;try simp only[Act.put,aq,aF,aG]
  refine dU (i:=8) (oi:={dst:=de 6,op:=_,type:=_,pos:=_,after:=_,guard:=dl}) (v:= .int .i64 0) rfl (by kernel_rfl) (by kernel_rfl) (by kernel_rfl) (λ_ _ _ h=>h) (Or.inl ⟨by rfl,λW hw=>?_⟩) hS ?_
  ·go_simp
  try simp only[Act.put,aq,aF,aG]
  refine wpAnyH_done (by kernel_rfl) ?_ _;go_wp2_with fail
  try rw[b4.o]
  refine aH (v:= .tuple #[.agg s.cells.toArray,.agg #[(s.code cl),(s.qN cl)],(0:Int)]) (uL (b:=w.heap.size) (s:=s) J.o (a:=((s.code cl),(s.qN cl))) (n:=0) rfl rfl rfl ?_ ?_) rfl ⟨rfl,?_⟩
  ·rw[aA _ _ (by omega),aA _ _ (by omega)];exact L.o
  ·exact aB (aB M.o _) _
  ·exact(N.o.setCell (by show w.heap.size<=w.heap.size+1+1+1;omega) _).setCell (by show w.heap.size<=w.heap.size+1+1+1;omega) _
 ·rw[<-b5.o]at hy;clear a4;have c6:(d+1==l)=dT:=by rw[aJ];omega
  have d7:decide (d<l)=dE:=by rw[ap];omega
  go_wp2_with fail
  refine dq (by kernel_rfl) (by kernel_rfl) ?_;repeat (go_big_quiet_step (fail))
  refine bt ?_;intro w9 z;obtain⟨d3,rfl⟩:=z;go_wp2_with fail
  refine dq (by kernel_rfl) (by kernel_rfl) ?_;repeat (go_big_quiet_step (fail))
  refine bt ?_;intro w9 z;obtain⟨f2,rfl⟩:=z;go_wp2_with (first
   |(refine cM rfl 85 (.tmp 2) rfl w.heap.size 0 rfl s.cells _ ?_ Tryz.underlying85 rfl a5.o ?_;(first|with_reducible exact RG.o _|with_reducible exact b9.o _ _))
   |(refine bz rfl 85 (.tmp 4) (.tmp 56) rfl (w.heap.size+1+1) 0 s.cells.toArray rfl rfl ?_ T.o (oA _) ?_;(first|with_reducible exact TH.o _|with_reducible exact c0.o _ _);generalize c:World.setCells _ _ _ _=u;have E:u.heap[w.heap.size+1+1]?=de (.cells s.cells.toArray 85 (0,0)):=(by rw[<-c];exact dI (vs:=s.cells) U.o (by rw[P.o,jd J.o]));have u3:u.heap[w.heap.size+1+1+1]?=de (.cells #[(0:Int),(0:Int)] 81 (0,0)):=(by rw[<-c,bE (by omega)];exact X3.o);have F:dd w.heap.size w u:=(by rw[<-c];exact bp (by omega) _ _ _ (by first|exact(below_drewN Y.o _)|exact below_drewN (below_drewN Y.o _) _));have L:=ae E;have M:=ae u3;have N:=ae F;have d0:=ej u3 0 rfl;have d1:=ej u3 1 rfl;have df:=aO u3;clear c E u3 F))
  try rw[b4.o]
  refine aH (v:= .tuple #[.agg s.cells.toArray,.agg #[(7:Int),(0:Int)],(0:Int)]) (uL (b:=w.heap.size) (s:=s) J.o (a:=(7,0)) (n:=0) rfl rfl rfl ?_ ?_) rfl ⟨rfl,?_⟩
  ·rw[aA _ _ (by omega),aA _ _ (by omega)];exact L.o
  ·exact aB (aB M.o _) _
  ·exact(N.o.setCell (by show w.heap.size<=w.heap.size+1+1+1;omega) _).setCell (by show w.heap.size<=w.heap.size+1+1+1;omega) _
 ·rw[<-b5.o]at hy;clear a4;have c6:(d+1==l)=dT:=by rw[aJ];omega
  have d7:decide (d<l)=dT:=by rw[ah];omega
  have e0:G.cell? (w.heap.size,32+cl)=de (.bool dE):=by rw[<-hr];exact xD H.o q.o.ln q.o.lr e2
  go_wp2_with fail
  refine dq (by kernel_rfl) (by kernel_rfl) ?_;repeat (go_big_quiet_step (fail))
  refine bt ?_;intro w9 z;obtain⟨d3,rfl⟩:=z;go_wp2_with fail
  refine dq (by kernel_rfl) (by kernel_rfl) ?_;repeat (go_big_quiet_step (fail))
  refine bt ?_;intro w9 z;obtain⟨f2,rfl⟩:=z;go_wp2_with (first
   |(refine cM rfl 85 (.tmp 2) rfl w.heap.size 0 rfl s.cells _ ?_ Tryz.underlying85 rfl a5.o ?_;(first|with_reducible exact RG.o _|with_reducible exact b9.o _ _))
   |(refine bz rfl 85 (.tmp 4) (.tmp 64) rfl (w.heap.size+1+1) 0 s.cells.toArray rfl rfl ?_ T.o (oA _) ?_;(first|with_reducible exact TH.o _|with_reducible exact c0.o _ _);generalize c:World.setCells _ _ _ _=u;have E:u.heap[w.heap.size+1+1]?=de (.cells s.cells.toArray 85 (0,0)):=(by rw[<-c];exact dI (vs:=s.cells) U.o (by rw[P.o,jd J.o]));have u3:u.heap[w.heap.size+1+1+1]?=de (.cells #[(0:Int),(0:Int)] 81 (0,0)):=(by rw[<-c,bE (by omega)];exact X3.o);have F:dd w.heap.size w u:=(by rw[<-c];exact bp (by omega) _ _ _ (by first|exact(below_drewN Y.o _)|exact below_drewN (below_drewN Y.o _) _));have L:=ae E;have M:=ae u3;have N:=ae F;have d0:=ej u3 0 rfl;have d1:=ej u3 1 rfl;have df:=aO u3;clear c E u3 F))
  try rw[b4.o]
  refine aH (v:= .tuple #[.agg s.cells.toArray,.agg #[(11:Int),(0:Int)],(0:Int)]) (uL (b:=w.heap.size) (s:=s) J.o (a:=(11,0)) (n:=0) rfl rfl rfl ?_ ?_) rfl ⟨rfl,?_⟩
  ·rw[aA _ _ (by omega),aA _ _ (by omega)];exact L.o
  ·exact aB (aB M.o _) _
  ·exact(N.o.setCell (by show w.heap.size<=w.heap.size+1+1+1;omega) _).setCell (by show w.heap.size<=w.heap.size+1+1+1;omega) _
 ·rw[<-b5.o]at hy;clear a4;have c6:(d+1==l)=dT:=by rw[aJ];omega
  have d7:decide (d<l)=dT:=by rw[ah];omega
  have e0:G.cell? (w.heap.size,32+cl)=de (.bool dT):=by rw[<-hr];exact xD H.o q.o.ln q.o.lr e2
  have c4:=ej O.o 3 rfl;have c5:=ej O.o 4 rfl;have g7:G.frozen? (w.heap.size,8+cl)=dT:=aO H.o _;go_wp2_with fail
  refine dq (by kernel_rfl) (by kernel_rfl) ?_;repeat (go_big_quiet_step (fail))
  refine bt ?_;intro w9 z;obtain⟨d3,rfl⟩:=z;go_wp2_with fail
  refine dq (by kernel_rfl) (by kernel_rfl) ?_;repeat (go_big_quiet_step (fail))
  refine bt ?_;intro w9 z;obtain⟨f2,rfl⟩:=z;go_wp2_with fail
  generalize c:World.setCell _ _ _=wa;have a0:wa.heap[w.heap.size]?=de (.cells (s.aX (8+cl) (d+1)).cells.toArray 85 (0,0)):=by rw[<-c];exact sZ H.o q.o.ln (by omega) (d+1)
  have a1:wa.heap[w.heap.size+1]?=de (.cells #[k,cl,d,g,r] 54 (0,0)):=by rw[<-c,aA _ _ (by omega)];exact O.o
  have a2:wa.heap[w.heap.size+1+1]?=de (.cells Z 85 (0,0)):=by rw[<-c,aA _ _ (by omega)];exact U.o
  have a3:wa.heap[w.heap.size+1+1+1]?=de (.cells #[(0:Int),(0:Int)] 81 (0,0)):=by rw[<-c,aA _ _ (by omega)];exact X3.o
  have ay:dd w.heap.size w wa:=by rw[<-c];refine kW (p:=(w.heap.size,8+cl)) ?_ (ag _) _;first|exact below_drewN Y.o _|exact below_drewN (below_drewN Y.o _) _
  have az:=hF a3;have A0:=ae a0;have A1:=ae a1;have A2:=ae a2;have A3:=ae a3;have AY:=ae ay;have AZ:=ae az;have g0:=ej a1 0 rfl;have g1:=ej a1 1 rfl;have g2:=ej a1 2 rfl;have g3:=ej a1 3 rfl;have g4:=ej a1 4 rfl;clear c a0 a1 a2 a3 ay c1 c2 c3 c4 c5 e4 e0 g7 g0 g1 g2 g3 g4;have c7:(s.aX (8+cl) (d+1)).n.length=32:=by unfold dA.aX;simp[q.o.ln]
  have e5:(s.aX (8+cl) (d+1)).r.length=8:=q.o.lr;refine(Kt w.heap.size (s.aX (8+cl) (d+1)) c7 e5 ⟨k,cl,d,g,r⟩ b6.o wa A0.o).m ?_;rintro e w3 ⟨rfl,b7,V⟩;have f4:(s.aX (8+cl) (d+1)).told ⟨k,cl,d,g,r⟩=s.told ⟨k,cl,d,g,r⟩:=by
   have h1:=b6.o.n0;have h2:=b6.o.n7;dsimp only at h1 h2;unfold dA.told dA.val dA.aX;dsimp only;have e:(s.n.set (8+cl) (d+1)).getD g.toNat 0=s.n.getD g.toNat 0:=by rw[qI,ak (by omega)]
   rw[e]
  rw[f4];have p1:=(V.block (w.heap.size+1) (by omega) (by omega)).t A1.o;have p2:=(V.block (w.heap.size+1+1) (by omega) (by omega)).t A2.o;have p3:=(V.block (w.heap.size+1+1+1) (by omega) (by omega)).t A3.o;have py:dd w.heap.size w w3:=AY.o.t ((V.m (B':=w.heap.size) (by omega) (λk _ h=>h)).below (λk hk he=>by omega));have pz:=ai AZ.o V.size;have a9:((s.aX (8+cl) (d+1)).oO ⟨k,cl,d,g,r⟩).n.length=32:=by unfold dA.oO;dsimp only;split<;>simp[c7]
  obtain⟨s3,c8⟩:=aK ((s.aX (8+cl) (d+1)).oO ⟨k,cl,d,g,r⟩);rw[<-c8]at b7 a9;have b8:∀o,(w3.alloc o).heap[w.heap.size]?=de (.cells s3.cells.toArray 85 (0,0)):=λo=>(bC _ _ _ (by omega)).t b7;have q0:∀o,(w3.alloc o).cell? (w.heap.size,16+cl*2)=_:=λo=>jv (o:=16+cl*2) (b8 o) a9 (by omega);have q1:∀o,(w3.alloc o).cell? (w.heap.size,16+cl*2+1)=_:=λo=>jv (o:=16+cl*2+1) (b8 o) a9 (by omega);have qf:∀o j,(w3.alloc o).frozen? ⟨w.heap.size,j,dl⟩=dT:=λo=>aO (b8 o);have r1:∀o,(w3.alloc o).cell? (w.heap.size+1,1)=cl:=λo=>ej ((bC _ _ _ (by omega)).t p1) 1 rfl;have P0:=ae b7;have P1:=ae p1;have P2:=ae p2;have P3:=ae p3;have PY:=ae py;have PZ:=ae pz;have f8:=ae c8;have d5:=ae a9;obtain⟨tv,d2⟩:=aK (s.told ⟨k,cl,d,g,r⟩);rw[<-d2];have d6:=ae d2;clear b7 b8 V p1 p2 p3 py f4 c7 e5 c8 a9 d2;go_wp2_with fail
  generalize c:World.setCell _ _ _=R;have b0:R.heap[w.heap.size]?=de (.cells ((s3.aX (16+cl*2) 0).aX (16+cl*2+1) tv).cells.toArray 85 (0,0)):=by
   rw[<-c];refine sZ (sZ ?_ d5.o (by omega) 0) (by unfold dA.aX;simp[d5.o]) (by omega) tv;rw[bC _ _ _ (by omega)];exact P0.o
  have b1:R.heap[w3.heap.size]?=de (.cells #[(0:Int),tv] 81 (0,0)):=by rw[<-c,aA _ _ (by omega),aA _ _ (by omega)];exact aL _ _
  have b2:R.heap[w.heap.size+1+1]?=de (.cells Z 85 (0,0)):=by rw[<-c,aA _ _ (by omega),aA _ _ (by omega),bC _ _ _ (by omega)];exact P2.o
  have b3:R.heap[w.heap.size+1+1+1]?=de (.cells #[(0:Int),(0:Int)] 81 (0,0)):=by rw[<-c,aA _ _ (by omega),aA _ _ (by omega),bC _ _ _ (by omega)];exact P3.o
  have bY:dd w.heap.size w R:=by rw[<-c];exact kW (p:=(w.heap.size,16+cl*2+1)) (kW (p:=(w.heap.size,16+cl*2)) (PY.o.alloc (by omega) _) (ag _) _) (ag _) _
  have d8:(s3.aX (16+cl*2) 0).aX (16+cl*2+1) tv=s.done ⟨k,cl,d,g,r⟩:=by
   rw[f8.o,d6.o];unfold dA.aX dA.oO dA.done;dsimp only;rw[show 16+cl*2=16+2*cl by omega,show 16+2*cl+1=17+2*cl by omega];rfl
  rw[d8]at b0;have d4:(s.done ⟨k,cl,d,g,r⟩).Ok:=s.Df q.o _ b6.o;obtain⟨I,c9⟩:=aK (s.done ⟨k,cl,d,g,r⟩);rw[<-c9]at b0 d4;have f9:=ae c9;have a6:=ae d4;have B0:=ae b0;have B1:=ae b1;have B2:=ae b2;have B3:=ae b3;have BY:=ae bY;have g8:=PZ.o;clear c b0 b1 b2 b3 bY d8 d4 c9 q0 q1 qf r1 T TH c0 RG b9;have g5:=ae (show(prog.info? 85).map (λx=>x.size)=de I.cells.length by rw[jd a6.o];exact oz);have T:=ae (show(prog.info? 85).map (λx=>x.size)=de I.cells.toArray.size by rw[iW a6.o];exact oz);have J:=a6;refine wp_region_held_drew (S:=λW=>W.heap[w.heap.size]?=R.heap[w.heap.size]?/\W.heap[w3.heap.size]?=R.heap[w3.heap.size]?) (by kernel_rfl) ⟨rfl,rfl⟩ (λhS=>?_);refine dU (i:=0) (oi:={dst:=de 78,op:=_,type:=_,pos:=_,after:=_,guard:=dl}) (v:=_) rfl (by kernel_rfl) (by kernel_rfl) (by kernel_rfl) (λ_ _ _ h=>h) (yieldsIf_load_mid (by rfl) 85 (.tmp 2) rfl w.heap.size 0 rfl I.cells _ (λ_ h=>bu (h.1.t B0.o)) Tryz.underlying85 rfl g5.o) hS ?_;try simp only[Act.put,aq,aF,aG]
  refine dU (i:=1) (oi:={dst:=de 79,op:=_,type:=_,pos:=_,after:=_,guard:=dl}) (v:=_) rfl (by kernel_rfl) (by kernel_rfl) (by kernel_rfl) (λ_ _ _ h=>h) (yieldsIf_load_mid (by rfl) 81 (.tmp 10) rfl w3.heap.size 0 rfl [(0:Int),tv] _ (λ_ h=>bu (h.2.t B1.o)) Tryz.underlying81 rfl (by kernel_rfl)) hS ?_;try simp only[Act.put,aq,aF,aG]
  refine wpAnyH_ready (rs:=[2]) (by kernel_rfl) (by simp) ?_;refine AllReadyH.cons (o:={dst:=dl,op:= .store 85 (.tmp 4) (.tmp 78),type:=_,pos:=_,after:=_,guard:=dl}) rfl (λK hK=>?_) AllReadyH.nil;rw[ar (by rfl)];refine wp_store_mid 85 (.tmp 4) (.tmp 78) rfl (w.heap.size+1+1) 0 I.cells.toArray rfl rfl ?_ T.o (oA _) ?_
  ·rw[iW a6.o];exact dr B2.o P.o
  generalize c:World.setCells _ _ _ _=u;have E:u.heap[w.heap.size+1+1]?=de (.cells I.cells.toArray 85 (0,0)):=by rw[<-c];exact dI (vs:=I.cells) B2.o (by rw[P.o,jd a6.o])
  have u3:u.heap[w.heap.size+1+1+1]?=de (.cells #[(0:Int),(0:Int)] 81 (0,0)):=by rw[<-c,bE (by omega)];exact B3.o
  have F:dd w.heap.size w u:=by rw[<-c];refine bp (by omega) _ _ _ ?_;first|exact Below.drew BY.o|exact(below_drewN BY.o _).drew
  have L:=ae E;have M:=ae u3;have N:=ae F;have d0:=ej u3 0 rfl;have d1:=ej u3 1 rfl;have df:=aO u3;clear E u3 F;refine hK.out _ _ ⟨?_,?_⟩ (λa7=>?_)
  ·rw[<-c,bE (by omega)];exact hS.1
  ·rw[<-c,bE (by omega)];exact hS.2
  clear hK K c hS;try simp only[Act.put,aq,aF,aG]
  refine wpAnyH_ready (rs:=[3]) (by kernel_rfl) (by simp) ?_;refine AllReadyH.cons (o:={dst:=dl,op:= .store 81 (.tmp 5) (.tmp 79),type:=_,pos:=_,after:=_,guard:=dl}) rfl (λK hK=>?_) AllReadyH.nil;go_simp
  refine hK.out _ _ ⟨?_,?_⟩ (λhS=>?_)
  ·rw[aA _ _ (by omega),aA _ _ (by omega)];exact a7.1
  ·rw[aA _ _ (by omega),aA _ _ (by omega)];exact a7.2
  clear hK K;try simp only[Act.put,aq,aF,aG]
  refine dU (i:=4) (oi:={dst:=de 6,op:=_,type:=_,pos:=_,after:=_,guard:=dl}) (v:= .int .i64 0) rfl (by kernel_rfl) (by kernel_rfl) (by kernel_rfl) (λ_ _ _ h=>h) (Or.inl ⟨by rfl,λW hw=>?_⟩) hS ?_
  ·go_simp
  try simp only[Act.put,aq,aF,aG]
  refine wpAnyH_done (by kernel_rfl) ?_ _;go_wp2_with fail
  try rw[b4.o]
  rw[<-f9.o,<-d6.o];refine aH (v:= .tuple #[.agg I.cells.toArray,.agg #[(0:Int),tv],(0:Int)]) (uL (b:=w.heap.size) (s:=I) J.o (a:=(0,tv)) (n:=0) rfl rfl rfl ?_ ?_) rfl ⟨rfl,?_⟩
  ·rw[aA _ _ (by omega),aA _ _ (by omega)];exact L.o
  ·exact aB (aB M.o _) _
  ·exact(N.o.setCell (by show w.heap.size<=w.heap.size+1+1+1;omega) _).setCell (by show w.heap.size<=w.heap.size+1+1+1;omega) _
theorem IM(s:dA)(h:s.Ok)(c:bk)(hc:cS c=0)(w:ax):
  bl ed 51 #[.agg s.cells.toArray,eG c] w λe w'=>e= .returned (.tuple #[.agg (s.next c).cells.toArray,.agg #[(s.answer c).1,(s.answer c).2],(0:Int)])/\dd w.heap.size w w':=by
 rcases oN hc with rfl|hr
 ·rw[(dA.wM s).1,(dA.wM s).2];exact KF s h w
 ·obtain⟨k,cl,a,b,d⟩:=c;have c0:=hr.c0;have c7:=hr.c7;dsimp only at c0 c7;obtain⟨n,rfl⟩:∃n:Nat,cl=n:=⟨cl.toNat,by omega⟩
  have g:((n:Int)).toNat=n:=rfl;by_cases h1:s.last n<=a
  ·by_cases h2:s.rev n=dE
   ·have q:=dA.Gt s ⟨k,n,a,b,d⟩ hr h1 h2;rw[q.1,q.2];exact yF s h k a b d n hr hc w _ (.inr (.inr (.inl ⟨h2,h1,rfl⟩)))
   ·have f:s.rev n=dT:=by simpa using h2
    have q:=dA.Bt s ⟨k,n,a,b,d⟩ hr h1 f;rw[q.1,q.2];exact yF s h k a b d n hr hc w _ (.inr (.inr (.inr ⟨f,h1,rfl⟩)))
  ·by_cases h2:a+1=s.last n
   ·have q:=dA.Em s ⟨k,n,a,b,d⟩ hr h2;rw[q.1,q.2];exact yF s h k a b d n hr hc w _ (.inl ⟨h2,rfl⟩)
   ·have h3:a+1<s.last n:=by omega
    have q:=dA.Gu s ⟨k,n,a,b,d⟩ hr h3;rw[q.1,q.2];exact yF s h k a b d n hr hc w _ (.inr (.inl ⟨h3,rfl⟩))
structure Li(T:Prop):Prop where
 o:T
theorem Hw{T G:Prop}(h:Li T->G)(t:T):G:=h ⟨t⟩
theorem yp{w a:ax}{A B:Obj}(h:(w.alloc A).alloc B=a):a.heap[w.heap.size]?=de A/\a.heap[w.heap.size+1]?=de B/\dd w.heap.size w a/\a.heap.size=w.heap.size+2:=by
 subst h;have e1:(w.alloc A).heap.size=w.heap.size+1:=by simp
 refine⟨by rw[bC _ _ _ (by simp)];exact aL _ _,?_,((aj w.heap.size w).alloc (ag _) _).alloc (by simp) _,by simp⟩;have:=aL (w.alloc A) B;rwa[e1]at this
def AG(w:ax)(b:Nat)(r n:Int)(v:bd):Prop:=w.heap[b]?=de (.cells #[r,n,v] 76 (0,0))
theorem AG.cells{w:ax}{b:Nat}{r n:Int}{v:bd}(h:AG w b r n v):w.cell? (b,0)=r/\w.cell? (b,1)=n/\w.cell? (b,2)=de v:=⟨ej h 0 rfl,ej h 1 rfl,ej h 2 rfl⟩
theorem AG.stay{w w':ax}{b:Nat}{r n:Int}{v:bd}(h:AG w b r n v)(hb:dd w.heap.size w w'):AG w' b r n v:=(hb.block b (hF h)).t h
def AE(w:ax)(b:Nat)(r n:Int):Prop:=w.heap[b]?=de (.cells #[r,n] 73 (0,0))
theorem AE.cells{w:ax}{b:Nat}{r n:Int}(h:AE w b r n):w.cell? (b,0)=r/\w.cell? (b,1)=n:=⟨ej h 0 rfl,ej h 1 rfl⟩
theorem AE.stay{w w':ax}{b:Nat}{r n:Int}(h:AE w b r n)(hb:dd w.heap.size w w'):AE w' b r n:=(hb.block b (hF h)).t h
theorem vu.stay{w w':ax}{v:bd}{l:List bk}(h:vu w v l)(hb:dd w.heap.size w w'):vu w' v l:=by
 obtain⟨a,c,rfl,h1,h2,h3,h4⟩:=h;refine⟨a,c,rfl,h1,h2,h3,λhl=>?_⟩;obtain⟨b,off,rfl,hc⟩:=h4 hl;refine⟨b,off,rfl,λi hi j hj=>?_⟩;have h5:=hc i hi j hj;rw[<-h5];have h6:(aQ (l.getD i bk.zero))[j]?=de ((aQ (l.getD i bk.zero))[j]'hj):=aC hj;rw[h6]at h5;exact aw (w:=w) (hb.block b (aI w _ h5))
section
variable{ops:Array Oper}{o:Oper}{a:Act}{w:ax}{K:Act->ax->Prop}{Q:Exit->Act->ax->Prop}{E:Prop}
end
end Go.Proofs.YtcdmenphjilnnaaGreatDoor
namespace Go.Proofs.YtcdmenphjilnnaaGreatDoor
open Go.ChangeShapes Go.WideShapes Go.ChangeAt Go.RowKit Go.Con Go.Deep
set_option maxHeartbeats 400000
section
variable{H:Type}{fS:TypeId×bd->H}{W:ax}{base b0:Nat}
end
end Go.Proofs.YtcdmenphjilnnaaGreatDoor
namespace Go.Proofs.YtcdmenphjilnnaaGreatDoor
open Go.RowKit Go.Con
set_option maxHeartbeats 400000
theorem gp{w a:ax}{A B C:Obj}(h:((w.alloc A).alloc B).alloc C=a):a.heap[w.heap.size]?=de A/\a.heap[w.heap.size+1]?=de B/\a.heap[w.heap.size+1+1]?=de C/\dd w.heap.size w a/\a.heap.size=w.heap.size+3:=by
 subst h;have e:((w.alloc A).alloc B).heap.size=w.heap.size+1+1:=by simp
 have e1:(w.alloc A).heap.size=w.heap.size+1:=by simp
 refine⟨?_,?_,?_,(((aj w.heap.size w).alloc (ag _) _).alloc (by simp) _).alloc (by simp;omega) _,by simp⟩
 ·rw[bC _ _ _ (by omega),bC _ _ _ (by omega)];exact aL _ _
 ·rw[bC _ _ _ (by omega)];have:=aL (w.alloc A) B;rwa[e1]at this
 ·have:=aL ((w.alloc A).alloc B) C;rwa[e]at this
end Go.Proofs.YtcdmenphjilnnaaGreatDoor
namespace Go.Con
def slotsOf(k:Int):List (Nat×Int):=
 if k=1\/k=2\/k=3\/k=9 then [(1,4)]else if k=4\/k=5\/k=6 then [(2,1048576)]else if k=8 then [(1,4),(3,100000)]else []
end Go.Con
namespace Go.Proofs.YtcdmenphjilnnaaGreatDoor
open Go.RowKit Go.Con
def oS(b:Nat):List (Nat×Int)->List bd
 |[]=>[]
 |(f,m)::l=>(b,f)::.int .i64 m::oS b l
def Kv(w:ax)(v:bd)(b a:Nat)(l:List (Nat×Int)):Prop:=
 (l=[]/\v= .slice dl 0 0)\/∃s,v= .slice (s,0) l.length l.length/\a<=s/\w.heap[s]?=de (.cells (oS b l).toArray 103 (0,0))
theorem DN(b:Nat)(k n a p:Int)(dv:bd)(w:ax)(hb:w.heap[b]?=de (.cells #[k,n,a,p,dv] 26 (0,0)))(hk:1<=k)(c:k<=9):
  bl ed 28 #[(b,0)] w λe w'=>∃v,e= .returned (.tuple #[v,.bool dE])/\Kv w' v b w.heap.size (slotsOf k)/\dd w.heap.size w w':=by
 have g:=ej hb 0 rfl;have f:b<w.heap.size:=hF hb;have d:=ae hb;clear hb;have hc:(k=1\/k=2\/k=3\/k=9)\/(k=4\/k=5\/k=6)\/k=7\/k=8:=by omega
 clear hk c;rcases hc with(rfl|rfl|rfl|rfl)|(rfl|rfl|rfl)|rfl|rfl
 ·go_enter func28,ntmps28
  go_wp2_with fail
  go_region_held3 (λw'=>w'.cell? (b,0)=(1:Int)) (go_keep) (fail)
  all_goals go_wp2_with fail
  all_goals
   go_ret2
   exact⟨_,rfl,.inr ⟨w.heap.size+1+1,rfl,by omega,(gp rfl).2.2.1⟩,(gp rfl).2.2.2.1.drew⟩
 ·go_enter func28,ntmps28
  go_wp2_with fail
  go_region_held3 (λw'=>w'.cell? (b,0)=(2:Int)) (go_keep) (fail)
  all_goals go_wp2_with fail
  all_goals
   go_ret2
   exact⟨_,rfl,.inr ⟨w.heap.size+1+1,rfl,by omega,(gp rfl).2.2.1⟩,(gp rfl).2.2.2.1.drew⟩
 ·go_enter func28,ntmps28
  go_wp2_with fail
  go_region_held3 (λw'=>w'.cell? (b,0)=(3:Int)) (go_keep) (fail)
  all_goals go_wp2_with fail
  all_goals
   go_ret2
   exact⟨_,rfl,.inr ⟨w.heap.size+1+1,rfl,by omega,(gp rfl).2.2.1⟩,(gp rfl).2.2.2.1.drew⟩
 ·go_enter func28,ntmps28
  go_wp2_with fail
  go_region_held3 (λw'=>w'.cell? (b,0)=(9:Int)) (go_keep) (fail)
  all_goals go_wp2_with fail
  all_goals
   go_ret2
   exact⟨_,rfl,.inr ⟨w.heap.size+1+1,rfl,by omega,(gp rfl).2.2.1⟩,(gp rfl).2.2.2.1.drew⟩
 ·go_enter func28,ntmps28
  go_wp2_with fail
  go_region_held3 (λw'=>w'.cell? (b,0)=(4:Int)) (go_keep) (fail)
  all_goals go_wp2_with fail
  all_goals
   go_ret2
   exact⟨_,rfl,.inr ⟨w.heap.size+1+1,rfl,by omega,(gp rfl).2.2.1⟩,(gp rfl).2.2.2.1.drew⟩
 ·go_enter func28,ntmps28
  go_wp2_with fail
  go_region_held3 (λw'=>w'.cell? (b,0)=(5:Int)) (go_keep) (fail)
  all_goals go_wp2_with fail
  all_goals
   go_ret2
   exact⟨_,rfl,.inr ⟨w.heap.size+1+1,rfl,by omega,(gp rfl).2.2.1⟩,(gp rfl).2.2.2.1.drew⟩
 ·go_enter func28,ntmps28
  go_wp2_with fail
  go_region_held3 (λw'=>w'.cell? (b,0)=(6:Int)) (go_keep) (fail)
  all_goals go_wp2_with fail
  all_goals
   go_ret2
   exact⟨_,rfl,.inr ⟨w.heap.size+1+1,rfl,by omega,(gp rfl).2.2.1⟩,(gp rfl).2.2.2.1.drew⟩
 ·go_enter func28,ntmps28
  go_wp2_with fail
  go_region_held3 (λw'=>w'.cell? (b,0)=(7:Int)) (go_keep) (fail)
  all_goals go_wp2_with fail
  all_goals
   go_ret2
   exact⟨_,rfl,.inl ⟨rfl,rfl⟩,(((aj _ _).alloc (ag _) _).alloc (by simp) _).drew⟩
 ·go_enter func28,ntmps28
  go_wp2_with fail
  go_region_held3 (λw'=>w'.cell? (b,0)=(8:Int)) (go_keep) (fail)
  all_goals go_wp2_with fail
  ·go_region_held3 (λw'=>w'.cell? (w.heap.size,0)=(b,1)/\w'.cell? (w.heap.size,1)=(4:Int)) (go_keep) (fail)
   all_goals go_wp2_with fail
   all_goals
    go_ret2
    exact⟨_,rfl,.inr ⟨w.heap.size+1+1,rfl,by omega,(gp rfl).2.2.1⟩,(gp rfl).2.2.2.1.drew.drew⟩
  ·go_region_held3 (λw'=>w'.cell? (w.heap.size+1,0)=(b,1)/\w'.cell? (w.heap.size+1,1)=(4:Int)) (go_keep) (fail)
   all_goals go_wp2_with fail
   all_goals
    go_ret2
    exact⟨_,rfl,.inr ⟨w.heap.size+1+1,rfl,by omega,(gp rfl).2.2.1⟩,(gp rfl).2.2.2.1.drew.drew⟩
end Go.Proofs.YtcdmenphjilnnaaGreatDoor
namespace Go.Con
def nP(C:List Int)(x:Nat×Int):Bool:=decide (C.getD x.1 0<0)||decide (x.2<C.getD x.1 0)
def fP(C:List Int):List (Nat×Int)->List Int
 |[]=>C
 |x::l=>fP (C.set x.1 0) l
def kH(k n a p:Int)(len:Nat):Int:=
 if(slotsOf k).any (nP [k,n,a,p])then 2
 else if 2000<len then 1
 else if(fP [k,n,a,p] (slotsOf k)).getD 1 0≠0\/(fP [k,n,a,p] (slotsOf k)).getD 2 0≠0\/(fP [k,n,a,p] (slotsOf k)).getD 3 0≠0\/(k≠1/\0<len)then 3 else 0
theorem AM(C:List Int)(l:List (Nat×Int))(x:Nat×Int):fP C (l++[x])=(fP C l).set x.1 0:=by
 induction l generalizing C with
 |nil=>rfl
 |cons y l a=>exact a _
theorem xz(C:List Int)(l:List (Nat×Int)):(fP C l).length=C.length:=by
 induction l generalizing C with
 |nil=>rfl
 |cons y l a=>rw[fP,a];simp
theorem yK(k n a p:Int):∃c1 b c,fP [k,n,a,p] (slotsOf k)=[k,c1,b,c]:=by
 unfold slotsOf;split
 ·exact⟨_,_,_,rfl⟩
 split
 ·exact⟨_,_,_,rfl⟩
 split
 ·exact⟨_,_,_,rfl⟩
 ·exact⟨_,_,_,rfl⟩
theorem AW(k:Int):(slotsOf k).length<=2/\∀x∈slotsOf k,1<=x.1/\x.1<=3:=by
 unfold slotsOf;split
 ·refine⟨by decide,λx hx=>?_⟩;simp at hx;subst hx;decide
 split
 ·refine⟨by decide,λx hx=>?_⟩;simp at hx;subst hx;decide
 split
 ·refine⟨by decide,λx hx=>?_⟩;simp at hx;rcases hx with rfl|rfl<;>decide
 ·exact⟨by decide,λx hx=>by simp at hx⟩
end Go.Con
namespace Go.Proofs.YtcdmenphjilnnaaGreatDoor
open Go.RowKit Go.Con
theorem qv(b:Nat)(l:List (Nat×Int))(j:Nat)(hj:j<l.length):(oS b l)[j*2]?=(b,(l.getD j (0,0)).1)/\(oS b l)[j*2+1]?=(l.getD j (0,0)).2:=by
 induction l generalizing j with
 |nil=>cases hj
 |cons x l a=>
  obtain⟨f,m⟩:=x;cases j with
  |zero=>exact⟨rfl,rfl⟩
  |succ j=>
   have h:=a j (by simpa using hj);rw[show(j+1)*2=j*2+1+1 by omega];exact h
def js(C:List Int)(dv:bd):Array bd:=(C.map (Value.int .i64)++[dv]).toArray
theorem sF(C:List Int)(dv:bd)(f:Nat)(h:f<C.length):(js C dv)[f]?=(C.getD f 0):=by
 unfold js;simp[bU,h]
theorem yr(C:List Int)(dv:bd)(f:Nat)(h:f<C.length):(js C dv).setIfInBounds f (0:Int)=js (C.set f 0) dv:=by
 unfold js;simp[List.set_append,h,List.map_set]
theorem Cw(k n a p:Int)(dv:bd)(l:List UInt8)(w:ax)(hk:1<=k)(d7:k<=9)(hd:Rd w dv l):
  bl ed 19 #[.agg #[k,n,a,p,dv]] w λe w'=>e= .returned (kH k n a p l.length)/\dd w.heap.size w w':=by
 obtain⟨d,g,rfl,d6,e2⟩:=hd.slice;obtain⟨len,hlen⟩:=aK l.length;rw[<-hlen]at d6|-;clear hd hlen;obtain⟨r,hr⟩:=aK (kH k n a p len);rw[<-hr];have P:=ae hr;clear hr;obtain⟨S,hS⟩:=aK (slotsOf k);obtain⟨b6,Z⟩:=AW k;rw[<-hS]at b6 Z;have b4:=ae Z;have I:=ae hS;obtain⟨m,hm⟩:=aK S.length;rw[<-hm]at b6;have z:=ae hm;clear Z hS hm;go_enter func19,ntmps19
 have c4:=ae (DN w.heap.size k n a p (.slice d len g) (w.alloc (.cells #[k,n,a,p,.slice d len g] 26)) (aL _ _) hk d7);go_upto_region 2 with(go_at_call 28;refine c4.o.m ?_;rintro e c ⟨sv,rfl,c6,K⟩;have X:=ae c6;have B1:=ae K;clear c6 K)
 rw[<-I.o]at X;have a8:c.heap[w.heap.size]?=de (.cells (js [k,n,a,p] (.slice d len g)) 26 (0,0)):=(B1.o.block _ (by simp)).t (aL _ _);have y:=ae (show dd w.heap.size w c from((aj _ _).alloc (ag _) _).t (B1.o.m (by simp)));have Q:w.heap.size<c.heap.size:=hF a8;have Z1:=ae a8;have c8:(w.alloc (.cells #[k,n,a,p,.slice d len g] 26)).heap.size=w.heap.size+1:=by simp
 have SV:Hid (∃sa,sv= .slice sa m m/\(∀j,j<m->∃s,sa=(s,0)/\w.heap.size<s/\c.cell? (s,j*2)=(w.heap.size,(S.getD j (0,0)).1)/\c.cell? (s,j*2+1)=(S.getD j (0,0)).2)):=ae (by
  rcases X.o with⟨h1,h2⟩|⟨s,h1,h2,h3⟩
  ·have d8:m=0:=by rw[z.o,h1];rfl
   subst d8;exact⟨dl,h2,λj hj=>absurd hj (by omega)⟩
  ·rw[c8]at h2;rw[<-z.o]at h1;refine⟨_,h1,λj hj=>⟨s,rfl,by omega,?_,?_⟩⟩
   ·obtain⟨q1,q2⟩:=qv w.heap.size S j (by rw[<-z.o];exact hj);exact ej h3 (j*2) (by simpa using q1)
   ·obtain⟨q1,q2⟩:=qv w.heap.size S j (by rw[<-z.o];exact hj);exact ej h3 (j*2+1) (by simpa using q2))
 obtain⟨sa,rfl,c7⟩:=SV.o;have b5:=ae c7;clear c7 SV X a8 c4 c8;go_wp2_with fail
 go_loopw [17] (λi wr=>∃j:Nat,j<=m/\i= .int .i64 j/\Hid ((∀q,q<j->nP [k,n,a,p] (S.getD q (0,0))=dT)/\dd c.heap.size c wr)) (λi _=>m-(intOf i).toNat)
 case atStart=>exact⟨0,by omega,rfl,ae ⟨λq hq=>absurd hq (by omega),aj _ _⟩⟩
 case round=>
  obtain⟨j,a6,rfl,b⟩:=hrel;by_cases h1:j<m
  ·have a1:decide ((j:Int)<m)=dE:=by rw[ap];omega
   have a2:decide (j<m)=dE:=by rw[ap];omega
   obtain⟨s,rfl,e1,u,A⟩:=b5.o j h1;obtain⟨f,v⟩:=aK ((S.getD j (0,0)).1);obtain⟨C,F⟩:=aK ((S.getD j (0,0)).2);rw[<-v]at u;rw[<-F]at A;have E:S.getD j (0,0)∈S:=by
    have h2:j<S.length:=by rw[<-z.o];exact h1
    rw[au,aC h2];exact dW _
   obtain⟨a3,a4⟩:=b4.o _ E;rw[<-v]at a3 a4;obtain⟨t,G⟩:∃x,x=([k,n,a,p]:List Int).getD f 0:=⟨_,rfl⟩
   have b8:nP [k,n,a,p] (S.getD j (0,0))=(decide (t<0)||decide (C<t)):=by
    unfold nP;rw[<-v,<-F,<-G]
   have b9:wr.cell? (w.heap.size,f)=t:=by
    have h:=ej Z1.o f (sF [k,n,a,p] (.slice d len g) f (by show f<4;omega));rw[<-G]at h;rw[<-h];exact aw (w:=c) (b.o.2.block _ Q)
   have L:s<c.heap.size:=aI c _ u;have d4:wr.cell? (s,j*2)=(w.heap.size,f):=by rw[<-u];exact aw (w:=c) (b.o.2.block _ L)
   have d5:wr.cell? (s,j*2+1)=C:=by rw[<-A];exact aw (w:=c) (b.o.2.block _ L)
   have O:w.heap.size<wr.heap.size:=ai Q b.o.2.size;have W:=ae b8;have b2:=ae E;clear v F G b8 u A E;by_cases b7:t<0
   ·have T:decide (t<0)=dE:=by rw[ap];exact b7
    have a7:r=2:=by
     rw[P.o];unfold kH;rw[ar (gg.2 ⟨_,by rw[<-I.o];exact b2.o,by rw[W.o,T];rfl⟩)]
    subst a7;go_wp2_with fail
    refine dq (by kernel_rfl) (by kernel_rfl) ?_;repeat (go_big_quiet_step (fail))
    refine bt ?_;intro w9 N;obtain⟨nq,rfl⟩:=N;go_wp2_with fail
    go_ret
    exact⟨rfl,below_drewN ((y.o.t (b.o.2.m y.o.size)).alloc (fH O) _) nq⟩
   ·have T:decide (t<0)=dT:=by rw[ah];exact b7
    by_cases K:C<t
    ·have a0:decide (C<t)=dE:=by rw[ap];exact K
     have a7:r=2:=by
      rw[P.o];unfold kH;rw[ar (gg.2 ⟨_,by rw[<-I.o];exact b2.o,by rw[W.o,a0,T];rfl⟩)]
     subst a7;go_wp2_with fail
     refine dq (by kernel_rfl) (by kernel_rfl) ?_;repeat (go_big_quiet_step (fail))
     refine bt ?_;intro w9 N;obtain⟨nq,rfl⟩:=N;go_wp2_with fail
     go_ret
     exact⟨rfl,below_drewN ((y.o.t (b.o.2.m y.o.size)).alloc (fH O) _) nq⟩
    ·have a0:decide (C<t)=dT:=by rw[ah];exact K
     go_wp2_with fail
     refine dq (by kernel_rfl) (by kernel_rfl) ?_;repeat (go_big_quiet_step (fail))
     refine bt ?_;intro w9 N;obtain⟨nq,rfl⟩:=N;go_wp2_with fail
     go_roundw
     case rel=>
      refine⟨j+1,by omega,by go_num,ae ⟨λq hq=>?_,below_drewN (b.o.2.alloc b.o.2.size _) nq⟩⟩;by_cases d9:q=j
      ·subst d9;rw[W.o,T,a0];rfl
      ·exact b.o.1 q (by omega)
     case measure=>simp[intOf];omega
  ·have M:j=m:=by omega
   have a1:decide ((j:Int)<m)=dT:=by rw[ah];omega
   have a2:decide (j<m)=dT:=by rw[ah];omega
   have c0:(slotsOf k).any (nP [k,n,a,p])=dT:=by
    rw[<-I.o,List.any_eq_false];intro x hx;obtain⟨q,hq,rfl⟩:=fO hx;have h:=b.o.1 q (by rw[M,z.o];exact hq);rw[au,aC hq]at h;rw[show nP [k,n,a,p] S[q]=dT from h];decide
   have HG:=ae c0;have H:=ae b.o.2;have a9:wr.heap[w.heap.size]?=de (.cells (js [k,n,a,p] (.slice d len g)) 26 (0,0)):=(b.o.2.block _ Q).t Z1.o;have Z2:=ae a9;have x4:wr.cell? (w.heap.size,4)=de (.slice d len g):=ej a9 4 rfl;clear c0 a9 b a6 M h1;by_cases hl:2000<len
   ·have c2:decide ((2000:Int)<len)=dE:=by rw[ap];omega
    have c3:decide (2000<len)=dE:=by rw[ap];omega
    have e0:r=1:=by rw[P.o];unfold kH;rw[if_neg (by rw[HG.o];decide),if_pos hl]
    subst e0;go_wp2_with fail
    go_ret
    exact⟨rfl,y.o.t (H.o.m y.o.size)⟩
   ·have c2:decide ((2000:Int)<len)=dT:=by rw[ah];omega
    have c3:decide (2000<len)=dT:=by rw[ah];omega
    go_wp2_with fail
    clear x4;have c9:Hid ((∀q,q<c.heap.size->q≠w.heap.size->wr.heap[q]?=c.heap[q]?)/\wr.heap[w.heap.size]?=de (.cells (js (fP [k,n,a,p] (S.take 0)) (.slice d len g)) 26 (0,0))/\dd w.heap.size w wr/\c.heap.size<=wr.heap.size):=
     ae ⟨λq hq _=>H.o.block q hq,Z2.o,y.o.t (H.o.m y.o.size),H.o.size⟩
    have HL:=ae hl;clear Z2 H hl c2 c3;go_loopw [42] (λi V=>∃j:Nat,j<=m/\i= .int .i64 j/\Hid ((∀q,q<c.heap.size->q≠w.heap.size->V.heap[q]?=c.heap[q]?)/\V.heap[w.heap.size]?=de (.cells (js (fP [k,n,a,p] (S.take j)) (.slice d len g)) 26 (0,0))/\dd w.heap.size w V/\c.heap.size<=V.heap.size)) (λi _=>m-(intOf i).toNat)
    case atStart=>exact⟨0,by omega,rfl,c9⟩
    case round=>
     clear c9;obtain⟨j,a6,rfl,b⟩:=hrel;by_cases h1:j<m
     ·have a1:decide ((j:Int)<m)=dE:=by rw[ap];omega
      have a2:decide (j<m)=dE:=by rw[ap];omega
      obtain⟨s,rfl,e1,u,A⟩:=b5.o j h1;obtain⟨f,v⟩:=aK ((S.getD j (0,0)).1);obtain⟨C,F⟩:=aK ((S.getD j (0,0)).2);rw[<-v]at u;rw[<-F]at A;have a5:j<S.length:=by rw[<-z.o];exact h1
      have E:S.getD j (0,0)∈S:=by
       rw[au,aC a5];exact dW _
      obtain⟨a3,a4⟩:=b4.o _ E;rw[<-v]at a3 a4;have b0:(fP [k,n,a,p] (S.take j)).length=4:=by rw[xz];rfl
      have b9:=ej b.o.2.1 f (sF _ (.slice d len g) f (by rw[b0];omega));obtain⟨t,G⟩:=aK ((fP [k,n,a,p] (S.take j)).getD f 0);rw[<-G]at b9;have e3:wr.frozen? (w.heap.size,f)=dT:=aO b.o.2.1 _;have L:s<c.heap.size:=aI c _ u;have d4:wr.cell? (s,j*2)=(w.heap.size,f):=by rw[<-u];exact aw (w:=c) (b.o.1 s L (by omega))
      have d5:wr.cell? (s,j*2+1)=C:=by rw[<-A];exact aw (w:=c) (b.o.1 s L (by omega))
      have O:w.heap.size<wr.heap.size:=ai Q b.o.2.2.2;have hZ:fP [k,n,a,p] (S.take (j+1))=(fP [k,n,a,p] (S.take j)).set f 0:=by
       rw[eA,aC a5];show fP _ (S.take j++[S[j]])=_;rw[AM,v,au,aC a5];rfl
      have HZ:=ae hZ;have d0:=ae b0;clear v F G u A E hZ b0;go_wp2_with fail
      generalize hW:World.alloc _ _=U;have d1:Hid ((∀q,q<c.heap.size->q≠w.heap.size->U.heap[q]?=c.heap[q]?)/\U.heap[w.heap.size]?=de (.cells (js (fP [k,n,a,p] (S.take (j+1))) (.slice d len g)) 26 (0,0))/\dd w.heap.size w U/\c.heap.size<=U.heap.size):=ae (by
       rw[<-hW];refine⟨λq h2 h3=>?_,?_,?_,?_⟩
       ·rw[bC _ _ _ (by simp;exact ai h2 b.o.2.2.2),aA _ _ h3];exact b.o.1 q h2 h3
       ·rw[bC _ _ _ (by simpa using O)];have h:=aB (o:=f) b.o.2.1 (0:Int);rw[yr _ _ _ (by rw[d0.o];omega),<-HZ.o]at h;exact h
       ·exact(b.o.2.2.1.setCell (by show w.heap.size<=w.heap.size;exact ag _) _).alloc (by simpa using fH O) _
       ·have h:=b.o.2.2.2;simp;omega)
      clear hW;go_wp2_with fail
      go_roundw
      case rel=>exact⟨j+1,by omega,by go_num,d1⟩
      case measure=>simp[intOf];omega
     ·have M:j=m:=by omega
      have a1:decide ((j:Int)<m)=dT:=by rw[ah];omega
      have a2:decide (j<m)=dT:=by rw[ah];omega
      obtain⟨c1,D,J,b1⟩:=yK k n a p;have hT:S.take j=slotsOf k:=by rw[M,z.o,dV];exact I.o
      have B:=b.o.2.1;rw[hT,b1]at B;have x0:wr.cell? (w.heap.size,0)=k:=ej B 0 rfl;have x1:wr.cell? (w.heap.size,1)=c1:=ej B 1 rfl;have x2:wr.cell? (w.heap.size,2)=D:=ej B 2 rfl;have x3:wr.cell? (w.heap.size,3)=J:=ej B 3 rfl;have x4:wr.cell? (w.heap.size,4)=de (.slice d len g):=ej B 4 rfl;have BF:=ae b.o.2.2.1;have c5:r=if c1≠0\/D≠0\/J≠0\/(k≠1/\0<len)then 3 else 0:=by
       rw[P.o];unfold kH;rw[ak (by rw[HG.o];decide),ak (by have:=HL.o;omega),b1];rfl
      have b3:=ae c5;clear c5 B b1 hT b a6 M;have d3:(r=3/\(((c1 !=0)=dE)\/((c1 !=0)=dT/\(D !=0)=dE)\/((c1 !=0)=dT/\(D !=0)=dT/\(J !=0)=dE)\/((c1 !=0)=dT/\(D !=0)=dT/\(J !=0)=dT/\(k !=1)=dE/\decide (0<len)=dE/\decide ((0:Int)<len)=dE)))\/
        (r=0/\(c1 !=0)=dT/\(D !=0)=dT/\(J !=0)=dT/\(((k !=1)=dT)\/((k !=1)=dE/\decide (0<len)=dT/\decide ((0:Int)<len)=dT))):=by
       have h3:=b3.o;simp only[eP,ne_eq,kI,ap,ah];split at h3<;>omega
      clear b3;rcases d3 with⟨rfl,R|⟨R,Y⟩|⟨R,Y,hC⟩|⟨R,Y,hC,hD,hE,d2⟩⟩|⟨rfl,R,Y,hC,hD|⟨hD,hE,d2⟩⟩
      all_goals
       go_wp2_with fail
       go_ret
       exact⟨rfl,BF.o⟩
set_option maxHeartbeats 400000
theorem AV(b:Nat)(k n a p:Int)(dv:bd)(w:ax)(hb:w.heap[b]?=de (.cells #[k,n,a,p,dv] 26 (0,0)))(hk:¬(1<=k/\k<=9)):
  bl ed 28 #[(b,0)] w λe w'=>e= .returned (.tuple #[.slice dl 0 0,.bool dT])/\dd w.heap.size w w':=by
 have i:=ej hb 0 rfl;have d:b<w.heap.size:=hF hb;have c:=ae hb;clear hb;have k1:(k==1)=dT:=by rw[aJ];omega
 have k2:(k==2)=dT:=by rw[aJ];omega
 have k3:(k==3)=dT:=by rw[aJ];omega
 have k4:(k==4)=dT:=by rw[aJ];omega
 have f:(k==5)=dT:=by rw[aJ];omega
 have k6:(k==6)=dT:=by rw[aJ];omega
 have g:(k==7)=dT:=by rw[aJ];omega
 have h:(k==8)=dT:=by rw[aJ];omega
 have k9:(k==9)=dT:=by rw[aJ];omega
 clear hk;go_enter func28,ntmps28
 go_wp2_with fail
 go_region_held3 (λw'=>w'.cell? (b,0)=k) (go_keep) (fail)
 all_goals go_wp2_with fail
 all_goals
  go_ret2
  exact⟨rfl,(((aj _ _).alloc (ag _) _).alloc (by simp) _).drew⟩
theorem Cv(k n a p:Int)(dv:bd)(w:ax)(hk:¬(1<=k/\k<=9)):
  bl ed 19 #[.agg #[k,n,a,p,dv]] w λe w'=>e= .returned (4:Int)/\dd w.heap.size w w':=by
 go_enter func19,ntmps19
 have d:=ae (AV w.heap.size k n a p dv (w.alloc (.cells #[k,n,a,p,dv] 26)) (aL _ _) hk);go_wp2_with (go_at_call 28;refine d.o.m ?_;rintro e f ⟨rfl,b⟩;have c:=ae b;clear b)
 go_ret
 exact⟨rfl,((aj _ _).alloc (ag _) _).t (c.o.m (by simp))⟩
structure mE where
 k:Int
 n:Int
 a:Int
 p:Int
 dv:bd
 d:List UInt8
def mE.zero:mE:=⟨0,0,0,0,.slice dl 0 0,[]⟩
def vg(x:mE):List bd:=[x.k,x.n,x.a,x.p,x.dv]
structure mE.Ok(x:mE):Prop where
 k1:1<=x.k
 k9:x.k<=9
 code:kH x.k x.n x.a x.p x.d.length=0
def lm(w:ax)(v:bd)(l:List mE):Prop:=gN 5 vg mE.zero w v l/\∀x∈l,Rd w x.dv x.d
theorem lm.stay{w w':ax}{v:bd}{l:List mE}(h:lm w v l)(hb:dd w.heap.size w w'):lm w' v l:=⟨h.1.stay hb,λx hx=>(h.2 x hx).stay hb⟩
def sM(x:mE):Int:=if 1<=x.k/\x.k<=9 then kH x.k x.n x.a x.p x.d.length else 4
theorem yl{x:mE}(h:sM x=0):x.Ok:=by
 unfold sM at h;split at h
 ·rename_i e;exact⟨e.1,e.2,h⟩
 ·cases h
end Go.Proofs.YtcdmenphjilnnaaGreatDoor
