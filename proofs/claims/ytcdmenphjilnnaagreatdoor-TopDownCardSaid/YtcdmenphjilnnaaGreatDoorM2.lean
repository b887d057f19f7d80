/-
  Parts of the proofs of the laws of the whole (what the functions compute, and plain laws of it); no conditions.
-/
import Derived.Test.YtcdmenphjilnnaaGreatDoorM1
import Derived.Shelf.Abstract
import Derived.Laws.CopyRow
import Derived.Laws.Externs
import Derived.Lib.Overlaps
set_option linter.unusedVariables false
set_option linter.unusedSimpArgs false
set_option maxRecDepth 100000
set_option maxHeartbeats 1000000
open Go.Proofs.Tryz
open Go renaming World->ax,Value->bd,Calls->bl
open Go.RowKit renaming Below->dd
open Option renaming some->de,none->dl
open Bool renaming true->dE,false->dT
open Go.Proofs.Tryz renaming prog->ed
namespace Go.Proofs.YtcdmenphjilnnaaGreatDoor
open Go.RowKit Go.Con
set_option maxHeartbeats 8000000
theorem Ig(w:ax):bl ed 115 #[.slice dl 0 0] w λe w'=>e= .returned (.slice dl 0 0)/\w'=w:=by
 have a:=λ(w:ax)=>im (P:=ed) w 74 109 dl 0 0 0 0 Tryz.underlying74;go_enter func115,ntmps115
 go_wp2_with fail
 go_ret
 exact⟨rfl,rfl⟩
theorem ES(a:Addr)(n c:Nat)(l:List cF)(w:ax)(hv:Dr w (.slice (de a) n c) l)(hl:l.length<=100000):
  bl ed 115 #[.slice (de a) n c] w λe w'=>∃f,e= .returned f/\fk w' w.heap.size f l/\dd w.heap.size w w':=by
 have m:=λ(w:ax)=>im (P:=ed) w 74 109 (de a) n c 0 0 Tryz.underlying74;have i:=ae hv;clear hv;go_enter func115,ntmps115
 go_wp2_with (at_builtin;refine Oo rfl (.tmp 5) (.tmp 6) rfl w.heap.size (.slice (w.heap.size,0) 0 0) [] l (de a) n c rfl ⟨rfl,.inr ⟨w.heap.size,0,#[],rfl,ag _,aL _ _,ag _,by decide,rfl,rfl⟩⟩ rfl (gN.stay i.o ((aj _ _).alloc (ag _) _)) (λh=>by cases h) (by simp;omega) (by simp) ?_;intro v2 o d b _;have j:=ae d;have g:=ae b;clear d b)
 go_ret
 refine⟨_,rfl,by have h:=j.o;rwa[cK]at h,((aj _ _).alloc (ag _) _).grown g.o (by simp) (λk hk=>by injection hk with hk;subst hk;exact ag _)⟩
theorem uQ(v:bd)(l:List cF)(w:ax)(hv:Dr w v l)(f:v= .slice dl 0 0\/∃a n c,v= .slice (de a) n c)(hl:l.length<=100000):
  bl ed 115 #[v] w λe w'=>∃b,e= .returned b/\fk w' w.heap.size b l/\dd w.heap.size w w':=by
 rcases f with rfl|⟨a,n,c,rfl⟩
 ·have d:l=[]:=by
   obtain⟨a,c,h,-⟩:=hv;injection h with h1 h2 h3;exact bq h2.symm
  subst d;exact(Ig w).m λe w' ⟨h1,h2⟩=>⟨_,h1,World.ownsRow_nil _ _ _ _,by rw[h2];exact aj _ _⟩
 ·exact ES a n c l w hv hl
theorem JY(a b c:Int)(w:ax)(h:Hid (mC a b=c)):
  bl ed 119 #[a,b] w λe w'=>e= .returned c/\w=w':=
 (Ib a b c w h).m λe w' ⟨h1,h2⟩=>⟨h1,h2.symm⟩
theorem tM(a d f g i j k l b m n o p q r s c:Int)(w:ax)(h:Hid (mC a b=c)):
  bl ed 118 #[.agg #[a,d,f,g,i,j,k,l],.agg #[b,m,n,o,p,q,r,s]] w λe w'=>e= .returned c/\dd w.heap.size w w':=by
 go_enter func118,ntmps118
 go_wp2_with (go_at_call 119;refine(JY _ _ _ _ (by assumption)).m ?_;rintro e _ ⟨rfl,rfl⟩)
 go_ret
 exact⟨rfl,((aj _ _).alloc (ag _) _).alloc (by simp) _⟩
def FN(l:List cF)(s:Int)(i:Nat):Prop:=i<=l.length/\(∀q,q<i->(l.getD q cF.zero).slot<s)/\(∀q,i<=q->q<l.length->s<=(l.getD q cF.zero).slot)
theorem Bc(v:bd)(l:List cF)(y:cF)(w:ax)(hv:Dr w v l)(a2:∀a b,a<b->b<l.length->(l.getD a cF.zero).slot<(l.getD b cF.zero).slot)(hl:l.length<=100000):
  bl ed 117 #[v,qq y,.func (.func 118) #[] #[]] w λe w'=>∃i:Nat,FN l y.slot i/\e= .returned (.tuple #[.int .i64 i,.bool (decide (i<l.length/\(l.getD i cF.zero).slot=y.slot))])/\dd w.heap.size w w':=by
 obtain⟨sl,⟨D,C⟩,⟨ck,E,G,F,H⟩⟩:=y;dsimp only;obtain⟨ea,ec,rfl,hle,a5,-⟩:=id hv;obtain⟨n,hn⟩:=aK l.length;rw[<-hn]at hv hle a2 hl|-;show bl ed 117 #[.slice ea n ec,.agg #[sl,D,C,ck,E,G,F,H],.func (.func 118) #[] #[]] w _;have b5:ec<=9223372036854775807:=a5;have HV:=ae hv;have W:=ae hn;have a3:=ae a2;clear hv hn a2;go_enter func117,ntmps117
 go_wp2_with fail
 generalize hW:World.alloc _ _=x;have a4:Hid (x.heap[w.heap.size]?=de (.cells #[sl,D,C,ck,E,G,F,H] 109 (0,0))):=ae (by rw[<-hW];exact aL _ _);have BW:=ae (gv hW);have RM:w.heap.size<x.heap.size:=hF a4.o;clear hW;go_loopw [9,10] (λa b wr=>∃d hi:Nat,a= .int .i64 d/\b= .int .i64 hi/\d<=hi/\hi<=n/\Hid ((∀q,q<d->(l.getD q cF.zero).slot<sl)/\(∀q,hi<=q->q<n->sl<=(l.getD q cF.zero).slot)/\dd x.heap.size x wr)) (λa b _=>(intOf b).toNat-(intOf a).toNat)
 case atStart=>exact⟨0,n,rfl,rfl,bX _,ag _,ae ⟨λq hq=>absurd hq (by omega),λq h1 h2=>by omega,aj _ _⟩⟩
 case round=>
  obtain⟨d,hi,rfl,rfl,a9,a1,s⟩:=hrel;have m:=ae ((s.o.2.2.block _ RM).t a4.o);have o:=ae (BW.o.t (s.o.2.2.m BW.o.size));by_cases hlt:d<hi
  ·obtain⟨k,hk⟩:=aK ((d+hi)/2);have b9:((d:Int)+(hi:Int))/2=(k:Int):=by omega
   have b7:d<=k:=by omega
   have b8:k<hi:=by omega
   clear hk;obtain⟨g,j,rfl,r,B⟩:=HV.o.cells.2.2 k (by omega);obtain⟨y,hy⟩:=aK (l.getD k cF.zero);rw[<-hy]at B;have J:=ae hy;have K:∀q,q<8->wr.cell? (g,j+(8*k+q))=(aS y)[q]?:=λq hq=>by
    rw[<-B q hq];exact aw (w:=w) (o.o.block g r)
   obtain⟨vs,⟨v1,v2⟩,⟨v3,v4,L,v6,M⟩⟩:=y;obtain⟨N,O,P,Q,R,S,T,U⟩:=rD K;dsimp only at N O P Q R S T U;have y0:=ej m.o 0 rfl;have y1:=ej m.o 1 rfl;have y2:=ej m.o 2 rfl;have y3:=ej m.o 3 rfl;have y4:=ej m.o 4 rfl;have y5:=ej m.o 5 rfl;have y6:=ej m.o 6 rfl;have y7:=ej m.o 7 rfl;have b1:k<n:=by omega
   have b6:(0:Int)<=(k:Int):=by omega
   have hkn:(k:Int)<(n:Int):=by omega
   have c0:(k:Int)<=(n:Int):=by omega
   clear B K hy;have a0:=il vs sl;have X0:=ae N;have Y0:=ae y0;have X1:=ae O;have Y1:=ae y1;have X2:=ae P;have Y2:=ae y2;have X3:=ae Q;have Y3:=ae y3;have X4:=ae R;have Y4:=ae y4;have X5:=ae S;have Y5:=ae y5;have X6:=ae T;have Y6:=ae y6;have X7:=ae U;have Y7:=ae y7;obtain⟨c9,t⟩:∃c,mC vs sl=c:=⟨_,rfl⟩
   have z:=ae t;clear t;go_upto_region 5 with fail
   go_region_held3 (λw'=>w'.cell? (g,j+k*8)=vs/\w'.cell? (g,j+k*8+1)=v1/\w'.cell? (g,j+k*8+2)=v2/\w'.cell? (g,j+k*8+3)=v3/\w'.cell? (g,j+k*8+4)=v4/\w'.cell? (g,j+k*8+5)=L/\w'.cell? (g,j+k*8+6)=v6/\w'.cell? (g,j+k*8+7)=M/\w'.cell? (w.heap.size,0)=sl/\w'.cell? (w.heap.size,1)=D/\w'.cell? (w.heap.size,2)=C/\w'.cell? (w.heap.size,3)=ck/\w'.cell? (w.heap.size,4)=E/\w'.cell? (w.heap.size,5)=G/\w'.cell? (w.heap.size,6)=F/\w'.cell? (w.heap.size,7)=H) (first|exact Z|go_keep) (first
    |(first|go_at_call 118|go_at_fn 118);refine(tM _ _ _ _ _ _ _ _ _ _ _ _ _ _ _ _ _ _ z).m ?_;rintro e f ⟨rfl,A⟩;have c5:∀p:Addr,p.block<wr.heap.size->f.cell? p=wr.cell? p:=λp hp=>aw (w:=wr) (A.block p.block hp);have V:=ae (show dd wr.heap.size wr f from(aj wr.heap.size wr).drew.t A);have Z:f.cell? (g,j+k*8)=vs/\f.cell? (g,j+k*8+1)=v1/\f.cell? (g,j+k*8+2)=v2/\f.cell? (g,j+k*8+3)=v3/\f.cell? (g,j+k*8+4)=v4/\f.cell? (g,j+k*8+5)=L/\f.cell? (g,j+k*8+6)=v6/\f.cell? (g,j+k*8+7)=M/\f.cell? (w.heap.size,0)=sl/\f.cell? (w.heap.size,1)=D/\f.cell? (w.heap.size,2)=C/\f.cell? (w.heap.size,3)=ck/\f.cell? (w.heap.size,4)=E/\f.cell? (w.heap.size,5)=G/\f.cell? (w.heap.size,6)=F/\f.cell? (w.heap.size,7)=H:=⟨(c5 _ (ai r o.o.size)).t X0.o,(c5 _ (ai r o.o.size)).t X1.o,(c5 _ (ai r o.o.size)).t X2.o,(c5 _ (ai r o.o.size)).t X3.o,(c5 _ (ai r o.o.size)).t X4.o,(c5 _ (ai r o.o.size)).t X5.o,(c5 _ (ai r o.o.size)).t X6.o,(c5 _ (ai r o.o.size)).t X7.o,(c5 _ (hF m.o)).t Y0.o,(c5 _ (hF m.o)).t Y1.o,(c5 _ (hF m.o)).t Y2.o,(c5 _ (hF m.o)).t Y3.o,(c5 _ (hF m.o)).t Y4.o,(c5 _ (hF m.o)).t Y5.o,(c5 _ (hF m.o)).t Y6.o,(c5 _ (hF m.o)).t Y7.o⟩;clear A c5)
   rcases a0 with⟨u,hc⟩|⟨u,hc⟩|⟨u,hc⟩
   all_goals
    have t:=z.o.symm.t hc;subst t;have I:=ae u;clear u hc z;go_wp2_with fail
   ·have Y:Hid ((∀q,q<k+1->(l.getD q cF.zero).slot<sl)/\(∀q,hi<=q->q<n->sl<=(l.getD q cF.zero).slot)/\dd x.heap.size x f):=ae ⟨λq hq=>by
     rcases dy q k with h|h
     ·have h2:=a3.o q k h b1;have h3:=dz cF.slot J.o;have h4:=I.o;dsimp only at h3;omega
     ·have h3:=dz cF.slot J.o;have h4:=I.o;rw[show q=k by omega];dsimp only at h3;omega,s.o.2.1,s.o.2.2.t (V.o.m s.o.2.2.size)⟩
    go_roundw
    case rel=>exact⟨k+1,hi,by go_num,rfl,by omega,a1,Y⟩
    case measure=>simp[intOf];omega
   all_goals
    have Y:Hid ((∀q,q<d->(l.getD q cF.zero).slot<sl)/\(∀q,k<=q->q<n->sl<=(l.getD q cF.zero).slot)/\dd x.heap.size x f):=ae ⟨s.o.1,λq hq b2=>by
     have h3:=dz cF.slot J.o;have h4:=I.o;dsimp only at h3;rcases dy k q with h|h
     ·have h2:=a3.o k q h b2;omega
     ·rw[show q=k by omega];omega,s.o.2.2.t (V.o.m s.o.2.2.size)⟩
    go_roundw
    case rel=>exact⟨d,k,rfl,by go_num,by omega,by omega,Y⟩
    case measure=>simp[intOf];omega
  ·have b0:d=hi:=by omega
   subst b0;clear a9 hlt;by_cases X:d<n
   ·have a6:decide ((d:Int)<n)=dE:=by rw[ap];omega
    have a7:decide (d<n)=dE:=by rw[ap];omega
    obtain⟨g,j,rfl,r,B⟩:=HV.o.cells.2.2 d X;obtain⟨y,hy⟩:=aK (l.getD d cF.zero);rw[<-hy]at B;have J:=ae hy;have K:∀q,q<8->wr.cell? (g,j+(8*d+q))=(aS y)[q]?:=λq hq=>by
     rw[<-B q hq];exact aw (w:=w) (o.o.block g r)
    obtain⟨vs,⟨v1,v2⟩,⟨v3,v4,L,v6,M⟩⟩:=y;obtain⟨N,O,P,Q,R,S,T,U⟩:=rD K;dsimp only at N O P Q R S T U;have b3:sl<=vs:=by
     have h3:=dz cF.slot hy;dsimp only at h3;have h4:=s.o.2.1 d (ag _) X;omega
    have y0:=ej m.o 0 rfl;have y1:=ej m.o 1 rfl;have y2:=ej m.o 2 rfl;have y3:=ej m.o 3 rfl;have y4:=ej m.o 4 rfl;have y5:=ej m.o 5 rfl;have y6:=ej m.o 6 rfl;have y7:=ej m.o 7 rfl;have X0:=ae N;have Y0:=ae y0;have X1:=ae O;have Y1:=ae y1;have X2:=ae P;have Y2:=ae y2;have X3:=ae Q;have Y3:=ae y3;have X4:=ae R;have Y4:=ae y4;have X5:=ae S;have Y5:=ae y5;have X6:=ae T;have Y6:=ae y6;have X7:=ae U;have Y7:=ae y7;clear B K hy;have a0:(vs=sl/\mC vs sl=0/\((0:Int)==0)=dE)\/(vs≠sl/\mC vs sl=1/\((1:Int)==0)=dT):=by
     rcases il vs sl with⟨h1,h2⟩|⟨h1,h2⟩|⟨h1,h2⟩
     ·omega
     ·exact .inl ⟨h1,h2,rfl⟩
     ·exact .inr ⟨by omega,h2,rfl⟩
    obtain⟨c9,t⟩:∃c,mC vs sl=c:=⟨_,rfl⟩
    have z:=ae t;clear t b3;go_wp2_with fail
    go_region_held3 (λw'=>w'.cell? (g,j+d*8)=vs/\w'.cell? (g,j+d*8+1)=v1/\w'.cell? (g,j+d*8+2)=v2/\w'.cell? (g,j+d*8+3)=v3/\w'.cell? (g,j+d*8+4)=v4/\w'.cell? (g,j+d*8+5)=L/\w'.cell? (g,j+d*8+6)=v6/\w'.cell? (g,j+d*8+7)=M/\w'.cell? (w.heap.size,0)=sl/\w'.cell? (w.heap.size,1)=D/\w'.cell? (w.heap.size,2)=C/\w'.cell? (w.heap.size,3)=ck/\w'.cell? (w.heap.size,4)=E/\w'.cell? (w.heap.size,5)=G/\w'.cell? (w.heap.size,6)=F/\w'.cell? (w.heap.size,7)=H) (first|exact Z|go_keep) (first
     |(first|go_at_call 118|go_at_fn 118);refine(tM _ _ _ _ _ _ _ _ _ _ _ _ _ _ _ _ _ _ z).m ?_;rintro e f ⟨rfl,A⟩;have c5:∀p:Addr,p.block<wr.heap.size->f.cell? p=wr.cell? p:=λp hp=>aw (w:=wr) (A.block p.block hp);have V:=ae (show dd wr.heap.size wr f from(aj wr.heap.size wr).drew.t A);have Z:f.cell? ⟨g,j+d*8,dl⟩=de (.int .i64 vs)/\f.cell? ⟨g,j+d*8+1,dl⟩=de (.int .i64 v1)/\f.cell? ⟨g,j+d*8+2,dl⟩=de (.int .i64 v2)/\f.cell? ⟨g,j+d*8+3,dl⟩=de (.int .i64 v3)/\f.cell? ⟨g,j+d*8+4,dl⟩=de (.int .i64 v4)/\f.cell? ⟨g,j+d*8+5,dl⟩=de (.int .i64 L)/\f.cell? ⟨g,j+d*8+6,dl⟩=de (.int .i64 v6)/\f.cell? ⟨g,j+d*8+7,dl⟩=de (.int .i64 M)/\f.cell? ⟨w.heap.size,0,dl⟩=de (.int .i64 sl)/\f.cell? ⟨w.heap.size,1,dl⟩=de (.int .i64 D)/\f.cell? ⟨w.heap.size,2,dl⟩=de (.int .i64 C)/\f.cell? ⟨w.heap.size,3,dl⟩=de (.int .i64 ck)/\f.cell? ⟨w.heap.size,4,dl⟩=de (.int .i64 E)/\f.cell? ⟨w.heap.size,5,dl⟩=de (.int .i64 G)/\f.cell? ⟨w.heap.size,6,dl⟩=de (.int .i64 F)/\f.cell? ⟨w.heap.size,7,dl⟩=de (.int .i64 H):=⟨(c5 _ (ai r o.o.size)).t X0.o,(c5 _ (ai r o.o.size)).t X1.o,(c5 _ (ai r o.o.size)).t X2.o,(c5 _ (ai r o.o.size)).t X3.o,(c5 _ (ai r o.o.size)).t X4.o,(c5 _ (ai r o.o.size)).t X5.o,(c5 _ (ai r o.o.size)).t X6.o,(c5 _ (ai r o.o.size)).t X7.o,(c5 _ (hF m.o)).t Y0.o,(c5 _ (hF m.o)).t Y1.o,(c5 _ (hF m.o)).t Y2.o,(c5 _ (hF m.o)).t Y3.o,(c5 _ (hF m.o)).t Y4.o,(c5 _ (hF m.o)).t Y5.o,(c5 _ (hF m.o)).t Y6.o,(c5 _ (hF m.o)).t Y7.o⟩;clear A c5)
    rcases a0 with⟨u,hc,a8⟩|⟨u,hc,a8⟩
    all_goals
     have t:=z.o.symm.t hc;subst t;have I:=ae u;clear u hc z;go_wp2_with fail
     go_ret2
     exact⟨d,⟨by rw[<-W.o];exact a1,s.o.1,by rw[<-W.o];exact s.o.2.1⟩,by
      have h3:=dz cF.slot J.o;have h4:=I.o;dsimp only at h3;first|(rw[fG (show d<n/\(l.getD d cF.zero).slot=sl from⟨X,by omega⟩)];rfl)|(rw[gE (show¬(d<n/\(l.getD d cF.zero).slot=sl)from λh=>by omega)];rfl),o.o.t (V.o.m o.o.size)⟩
   ·have a6:decide ((d:Int)<n)=dT:=by rw[ah];omega
    have a7:decide (d<n)=dT:=by rw[ah];omega
    go_wp2_with fail
    refine dq (by kernel_rfl) (by kernel_rfl) ?_;repeat (go_big_quiet_step (fail))
    refine bt ?_;intro w9 b4;obtain⟨nq,rfl⟩:=b4;go_wp2_with fail
    go_ret2
    exact⟨d,⟨by rw[<-W.o];exact a1,s.o.1,by rw[<-W.o];exact s.o.2.1⟩,by
     rw[gE (show¬(d<n/\(l.getD d cF.zero).slot=sl)from λh=>X h.1)];rfl,below_drewN o.o nq⟩
end Go.Proofs.YtcdmenphjilnnaaGreatDoor
namespace Go
open Go.RowKit Go.Con
set_option maxHeartbeats 8000000
theorem kC{P:Program}(w:ax)(d r ty elem:TypeId)(g o c f:Nat)(a:Addr)(e q k m:Nat)(b:Array bd)(t:TypeId)(cs:List bd)
  (hu:P.underlying d=de (.slice elem))(hs:(P.info? elem).map (·.size)=de k)
  (hg:w.heap[g]?=de (.cells b t (0,0)))(hm:m=Nat.min e c)(l:cs.length=m*k)
  (n:∀j v,cs[j]?=de v->w.cell? (a.add j)=de v)(h:o+cs.length<=b.size)(h1:∀v∈cs,v.oneCell'=dE):
  (Builtin.copy_ #[d,r] ty #[.slice (g,o) c f,.slice (de a) e q]).run P w=
   .ok (goInt m) (w.setRow g (b.toList.take o++cs++b.toList.drop (o+cs.length)).toArray):=by
 have hl:=run_loadCells_list (P:=P) w a cs n;have p:=run_storeCells_at P g o t cs 0 b w hg (by simpa using h) h1;cases hq:P.info? elem with
 |none=>simp[hq]at hs
 |some i=>
  have hi:i.size=k:=by simpa[hq]using hs
  rw[l]at hl;simp[Builtin.copy_,dt hu,Builtin.lenOf,Builtin.firstCells,sizeOf,typeInfo,hq,hi,<-hm,hl,p]
theorem xB{P:Program}(w:ax){o:Oper}{a:Act}{K:Act->ax->Prop}{Q:Exit->Act->ax->Prop}(d s:Operand)(t b:TypeId)
  (ho:o.op= .call {callee:= .builtin .copy,args:=#[d,s],argTypes:=#[t,b]})(v u:bd)(hd:a.eval d=v)(hs:a.eval s=u){c:bd}{w':ax}
  (hr:(Builtin.copy_ #[t,b] o.type #[v,u]).run P w= .ok c w')(h:K (a.put o.dst c) w'):o.wp P a w K Q:=by
 unfold Oper.wp execOp;simp only[ho,resolve,invoke,builtin,eu,gW,eX,List.map_toArray,dm,List.map_nil,hd,hs,hr];exact h
theorem oB{P:Program}{ops:Array Oper}{o:Oper}{a:Act}{w:ax}{K:Act->ax->Prop}{Q:Exit->Act->ax->Prop}{E:Prop}
  (hg:o.guard=dl)(d x:Operand)(b c:TypeId)(f:o.op=Op.call {callee:=Callee.builtin Builtin.copy,args:=#[d,x],argTypes:=#[b,c]})
  (v u:bd)(hd:a.eval d=v)(hx:a.eval x=u){e:bd}{w':ax}(hr:(Builtin.copy_ #[b,c] o.type #[v,u]).run P w= .ok e w')(hK:K (a.put o.dst e) w'):
  if Region.wanted o (yielded ops a.tmps)=dE then Oper.wp P o a w K Q else E:=by
 have hw:Region.wanted o (yielded ops a.tmps)=dE:=by simp[Region.wanted,hg]
 rw[ar hw];exact xB w d x b c f v u hd hx hr hK
theorem AX{A X D R:List bd}{k:Nat}(b:X.length=k)(a:k<=R.length):
  (((A++D++R).take (A.length+k)++D++(A++D++R).drop (A.length+k+D.length)).take A.length++X++((A++D++R).take (A.length+k)++D++(A++D++R).drop (A.length+k+D.length)).drop (A.length+k)).take (A.length+k+D.length)=A++X++D:=by
 have h1:((A++D++R).take (A.length+k)).length=A.length+k:=by simp;omega
 have h2:((A++D++R).take (A.length+k)++D++(A++D++R).drop (A.length+k+D.length)).take A.length=A:=by
  rw[bJ,gu (by rw[h1];omega),iS,show min A.length (A.length+k)=A.length by omega,bJ,gF];rfl
 have h3:((A++D++R).take (A.length+k)++D++(A++D++R).drop (A.length+k+D.length)).drop (A.length+k)=D++(A++D++R).drop (A.length+k+D.length):=by
  rw[bJ,List.drop_left' h1]
 rw[h2,h3,<-bJ,gF];simp;omega
theorem EB{A X D Z:List bd}{k:Nat}(a:X.length=k)(b:k+D.length<=Z.length):
  ((((A++Z).take A.length++X++(A++Z).drop (A.length+k)).take (A.length+k)++D++((A++Z).take A.length++X++(A++Z).drop (A.length+k)).drop (A.length+k+D.length))).take (A.length+k+D.length)=A++X++D:=by
 have h1:(A++Z).take A.length=A:=gF rfl;have h2:(A++X++(A++Z).drop (A.length+k)).take (A.length+k)=A++X:=gF (by simp;omega);rw[h1,h2,gF];simp;omega
end Go
namespace Go.Proofs.YtcdmenphjilnnaaGreatDoor
open Go.RowKit Go.Con
set_option maxHeartbeats 8000000
theorem Ju{W:ax}{g:Nat}{v:cF}(h:W.heap[g]?=de (.cells (aS v).toArray 109 (0,0))):Dr W (.slice (g,0) 1 1) [v]:=by
 refine⟨_,_,rfl,ag _,by decide,λ_=>⟨_,_,rfl,hF h,λi hi j hj=>?_⟩⟩;have a:i=0:=by simpa using hi
 subst a;rw[Nat.mul_zero,ca,ca];have hlt:j<(aS v).length:=hj;have:(([v]:List cF).getD 0 cF.zero)=v:=rfl;rw[this,aC hlt];exact ej h j (by simp[hlt])
theorem iV(l:List cF):(l.flatMap aS).length=l.length*8:=fg aS 8 (λ_=>rfl) l
theorem lZ(ea:Option Addr)(a b c d:Nat):(Value.slice ea a b).ownBlock=(Value.slice ea c d).ownBlock:=by cases ea<;>rfl
theorem td:(prog.info? 109).map (·.size)=de 8:=by kernel_rfl
theorem FP:∀w,(Go.sizeOf 109).run ed w= .ok 8 w:=by
 intro w;obtain⟨i,hi,b,a,hb⟩:=gD xY;simp[Go.sizeOf,typeInfo,hi,a]
theorem shapeOf{w:ax}{b:Nat}{c:Array bd}{t:TypeId}{f:Nat×Nat}(h:w.heap[b]?=de (.cells c t f)):w.shape? b=de (t,c.size):=by
 unfold World.shape?;rw[h]
theorem GO(base:Nat)(v:bd)(l:List cF)(x:cF)(d:Nat)(w:ax)(a:fk w base v l)(j:w.heap[d]?=de (.cells (aS x).toArray 109 (0,0)))(hlen:l.length<=100000)(q:base<=w.heap.size):
  bl ed 120 #[v,.int .i64 l.length,.slice (de ⟨d,0,dl⟩) 1 1] w λe w'=>∃k,e= .returned k/\fk w' base k (l++[x])/\w.grownBy w' v.ownBlock:=by
 obtain⟨ea,b,rfl,hle,r,-⟩:=id a.row;obtain⟨n,c⟩:=aK l.length;rw[<-c]at a hle|-;have o:=ae a;have m:=ae (Ju j);have t:=ae c;have u:b<=9223372036854775807:=r;clear a j c;go_enter func120,ntmps120
 go_wp2_with (at_builtin;refine Oo rfl (.tmp 23) (.tmp 24) rfl base _ l [x] (de ⟨d,0,dl⟩) 1 1 rfl o.o rfl m.o (λh=>by cases h) (by simp;omega) q ?_;intro v2 s i g _;have p:=ae i;have f:=ae (show w.grownBy s (Value.slice ea n b).ownBlock from g);clear i g)
 all_goals
  go_ret
  exact⟨_,rfl,p.o,by first|exact f.o|(rw[lZ ea n n n b];exact f.o)⟩
theorem Ew(base g cap:Nat)(a:Array bd)(l:List cF)(i:Nat)(x:cF)(c:Nat)(w:ax)(hg:w.heap[g]?=de (.cells a 109 (0,0)))(F:a.size=cap*8)(K:a.toList.take (l.length*8)=l.flatMap aS)(U:cap<=maxLen)(hi:i<l.length)(a2:l.length+1<=cap)(y:w.heap[c]?=de (.cells (aS x).toArray 109 (0,0)))(Z:c≠g)(hlen:l.length<=100000)(a7:base<=g):
  bl ed 120 #[.slice (de ⟨g,0,dl⟩) l.length cap,.int .i64 i,.slice (de ⟨c,0,dl⟩) 1 1] w λe w'=>∃v',e= .returned v'/\fk w' base v' (l.take i++x::l.drop i)/\w.grownBy w' (de g):=by
 obtain⟨n,J⟩:=aK l.length;rw[<-J]at K hi a2 hlen|-;have b2:cap<=9223372036854775807:=U;have a0:∀M z,(callFunc 135 #[.slice (c,0) 1 1,.slice (g,(i+1)*8) M z]).run ed w= .ok (.value (.bool dT)) w:=λM z=>by
  rw[run_callFunc_extern func135 (by kernel_rfl) (by kernel_rfl) (by kernel_rfl) (e:=Extern.SlicesOverlaps.overlaps #[74,74] #[4]) (by kernel_rfl),
   Lib.run_overlaps_apart w 74 4 109 Tryz.underlying74 8 FP ⟨c,0,dl⟩ ⟨g,(i+1)*8,dl⟩ 1 1 M z Z _ _ _ _ (shapeOf y) (shapeOf hg) (by omega) (aO y _) (aO y _)]
  rfl
 have E:a.toList.length=cap*8:=by rw[iR,F]
 have H:(l.drop i).length=n-i:=by rw[cO,<-J]
 have m:((l.drop i).flatMap aS).length=(n-i)*8:=by rw[iV,H]
 have L:(l.take i).length=i:=by rw[aM];omega
 have v:l.flatMap aS=(l.take i).flatMap aS++(l.drop i).flatMap aS:=by
  rw[<-dP,dg]
 obtain⟨A,q⟩:=aK ((l.take i).flatMap aS);obtain⟨D,r⟩:=aK ((l.drop i).flatMap aS);obtain⟨R,B⟩:=aK (a.toList.drop (n*8));have o:A.length=i*8:=by rw[q,iV,L]
 rw[<-r]at m v;rw[<-q]at v;have G:a.toList=A++D++R:=by
  rw[<-v,<-K,B,dg]
 have S:R.length=cap*8-n*8:=by rw[B,cO,E]
 have P:∀u∈D,u.oneCell'=dE:=by rw[r];exact jM _
 have Q:∀u∈aS x,u.oneCell'=dE:=by
  have h:=jM [x];rwa[List.flatMap_singleton]at h
 obtain⟨c1,s⟩:=aK ((a.toList.take ((i+1)*8)++D++a.toList.drop ((i+1)*8+D.length)).toArray);obtain⟨b,p⟩:=aK (w.drew.setRow g c1);have V:∀ty f N,(Builtin.copy_ #[74,74] ty #[.slice (g,(i+1)*8) (n-i) f,.slice (g,i*8) (n+1-i) N]).run ed w.drew= .ok (goInt ((n-i:Nat):Int)) b:=λty f N=>by
  rw[p,s];exact kC w.drew _ _ ty 109 g ((i+1)*8) (n-i) f (g,i*8) (n+1-i) N 8 (n-i) a 109 D Tryz.underlying74 td hg (by simp only[Nat.min_def];split<;>omega) m
   (λj u hu=>by
    have hj:j<D.length:=(cX.1 hu).1;rw[gY];refine ej (w:=w) hg (i*8+j) ?_;rw[<-fU,G,bJ,bF (by omega),o,show i*8+j-i*8=j by omega,bU hj];exact hu) (by rw[m,F];omega) P
 have C:c1.size=cap*8:=by
  rw[s];simp[E,m];omega
 have I:b.heap[g]?=de (.cells c1 109 (0,0)):=by rw[p];exact setRow_heap w.drew g a c1 _ _ hg
 obtain⟨d,t⟩:=aK ((c1.toList.take (i*8)++aS x++c1.toList.drop (i*8+(aS x).length)).toArray);have a3:b.heap[c]?=de (.cells (aS x).toArray 109 (0,0)):=by rw[p,mZ w.drew g c c1 Z];exact y
 have W:∀ty f,(Builtin.copy_ #[74,74] ty #[.slice (g,i*8) (n+1-i) f,.slice (c,0) 1 1]).run ed b= .ok (goInt 1) (b.setRow g d):=λty f=>by
  rw[t];exact kC b _ _ ty 109 g (i*8) (n+1-i) f (c,0) 1 1 8 1 c1 109 (aS x) Tryz.underlying74 td I (by simp only[Nat.min_def];split<;>omega) rfl
   (λj u hu=>by
    rw[gY,ca];exact ej a3 j (by simpa using hu)) (by rw[C];show i*8+8<=_;omega) Q
 have a1:d.toList.take ((n+1)*8)=A++aS x++D:=by
  have h:=AX (A:=A) (X:=aS x) (D:=D) (R:=R) (k:=8) rfl (by rw[S];omega);rw[t,s,G];simp only[List.toList_toArray];rw[show(n+1)*8=A.length+8+D.length by rw[o,m];omega,show(i+1)*8=A.length+8 by rw[o];omega,show i*8=A.length by rw[o]];exact h
 have T:d.size=cap*8:=by
  rw[t];have:(aS x).length=8:=rfl;simp[C,this];omega
 have a6:Hid (fk (b.setRow g d) base (.slice (de ⟨g,0,dl⟩) (n+1) cap) (l.take i++x::l.drop i)):=ae (by
  have Y:(l.take i++x::l.drop i).length=n+1:=by simp[H,L];omega
  unfold fk;rw[Y];refine⟨by rw[iV,Y],.inr ⟨g,cap,d,rfl,a7,setRow_heap b g c1 d _ _ I,a2,U,T,?_⟩⟩;rw[a1,q,r];simp)
 have GR:Hid (w.grownBy (b.setRow g d) (de g)):=ae (by
  rw[p];refine⟨rfl,rfl,rfl,by simp,λk _ hk=>?_⟩;rw[mZ _ g k d (λe=>hk (by rw[e])),mZ _ g k c1 (λe=>hk (by rw[e]))];rfl)
 have c2:((i:Int)==(n:Int))=dT:=by rw[aJ];omega
 have c3:(i==n)=dT:=by rw[aJ];omega
 have b4:decide ((cap:Int)<(n:Int)+1)=dT:=by rw[ah];omega
 have b5:decide (cap<n+1)=dT:=by rw[ah];omega
 have b9:IntKind.i64.wrap ((i:Int)+1)=(i:Int)+1:=by rw[jg];omega
 have c0:IntKind.i64.wrap ((n:Int)+1)=(n:Int)+1:=by rw[jg];omega
 have b6:i<=n:=by omega
 have a8:(0:Int)<=(i:Int)+1:=by omega
 have b7:((i:Int)+1).toNat=i+1:=by omega
 have b8:((n:Int)+1).toNat=n+1:=by omega
 have a9:¬(cap=i+1):=by omega
 have b0:(i:Int)<=(n:Int)+1:=by omega
 have b1:¬(cap=i):=by omega
 have a5:=ae a0;have O:=ae V;have a4:=ae W;clear V W a0 a1 T t a3 C s G v q r B o m S P Q L H E F K I p J;go_enter func120,ntmps120
 go_wp2_with (simp only[a5.o])
 go_region_held3 (λ_=>True) (trivial) (first
  |(refine oB rfl (.tmp 73) (.tmp 76) 74 74 rfl (.slice (g,(i+1)*8) (n-i) (cap-(i+1))) (.slice (g,i*8) (n+1-i) (cap-i)) rfl rfl (O.o _ (cap-(i+1)) (cap-i)) ?_))
 clear O;have b3:=a4.o;go_wp2_with fail
 go_ret
 exact⟨_,rfl,a6.o,GR.o⟩
theorem Mm(A:List bd)(B:Array bd):A.toArray++B=(A++B.toList).toArray:=by
 apply Array.ext';simp
theorem tG(m:Nat):(Builtin.zeroCells (Value.agg #[(0:Int),(0:Int),(0:Int),(0:Int),(0:Int),(0:Int),(0:Int),(0:Int)]).cells m).size=m*8:=by
 rw[size_zeroCells];rfl
theorem Ex(base g:Nat)(c:Array bd)(l:List cF)(i:Nat)(x:cF)(s:Nat)(w:ax)(hg:w.heap[g]?=de (.cells c 109 (0,0)))(N:c.size=l.length*8)(U:c.toList.take (l.length*8)=l.flatMap aS)(hi:i<l.length)(b5:w.heap[s]?=de (.cells (aS x).toArray 109 (0,0)))(hlen:l.length<=100000)(c2:base<=w.heap.size):
  bl ed 120 #[.slice (de ⟨g,0,dl⟩) l.length l.length,.int .i64 i,.slice (de ⟨s,0,dl⟩) 1 1] w λe w'=>∃v',e= .returned v'/\fk w' base v' (l.take i++x::l.drop i)/\w.grownBy w' (de g):=by
 obtain⟨n,T⟩:=aK l.length;rw[<-T]at U hi hlen N|-;have a4:c.toList.length=n*8:=by rw[iR,N]
 have Q:(l.drop i).length=n-i:=by rw[cO,<-T]
 have m:((l.drop i).flatMap aS).length=(n-i)*8:=by rw[iV,Q]
 have V:(l.take i).length=i:=by rw[aM];omega
 have F:l.flatMap aS=(l.take i).flatMap aS++(l.drop i).flatMap aS:=by
  rw[<-dP,dg]
 obtain⟨A,t⟩:=aK ((l.take i).flatMap aS);obtain⟨D,v⟩:=aK ((l.drop i).flatMap aS);have f:A.length=i*8:=by rw[t,iV,V]
 rw[<-v]at m F;rw[<-t]at F;have O:c.toList=A++D:=by
  rw[<-F,<-U,bK (by rw[a4];omega)]
 have a0:∀u∈D,u.oneCell'=dE:=by rw[v];exact jM _
 have a1:∀u∈aS x,u.oneCell'=dE:=by
  have h:=jM [x];rwa[List.flatMap_singleton]at h
 obtain⟨k,hk⟩:=aK (n+1-i);have d4:(n:Int)+1-(i:Int)=(k:Int):=by omega
 have b0:i+k=n+1:=by omega
 obtain⟨ti,b4,hz,b3,K⟩:=gD xY;have c5:=hF hg;obtain⟨gc,E⟩:=aK (grownCap w (n+1) n 109);have c4:n+1<=gc:=by rw[E];exact grownCap_ge w (n+1) n 109
 have a7:gc<=maxLen:=by rw[E];exact grownCap_le_maxLen w (n+1) n 109 (by unfold maxLen;omega)
 obtain⟨Z,I⟩:=aK ((Builtin.zeroCells (Value.agg #[(0:Int),(0:Int),(0:Int),(0:Int),(0:Int),(0:Int),(0:Int),(0:Int)]).cells k++Builtin.zeroCells (Value.agg #[(0:Int),(0:Int),(0:Int),(0:Int),(0:Int),(0:Int),(0:Int),(0:Int)]).cells (gc-(n+1))).toList);have J:Z.length=gc*8-i*8:=by
  rw[I,iR,Array.size_append,tG,tG];omega
 obtain⟨c0,z⟩:=aK ((A++Z).toArray);obtain⟨a,p⟩:=aK (w.drew.alloc (.cells c0 109));have a2:∀ty,(Builtin.append_ #[74,3] ty #[.slice (de ⟨g,0,dl⟩) i n,.int .i64 k]).run ed w= .ok (.slice (de ⟨w.heap.size,0,dl⟩) (n+1) gc) a:=λty=>by
  have hold:=run_firstCells_some (P:=ed) w.drew ti.size i (g,0) i n A (by rw[b3,f]) (λj u hu=>by
   have hj:j<A.length:=(cX.1 hu).1;rw[gY,ca];refine ej (w:=w) hg j ?_;rw[<-fU,O,bU hj];exact hu)
  have h:=Lib.run_append_grow_zeros (P:=ed) w 74 3 ty 109 ti _ .i64 .i64 Tryz.underlying74 Tryz.underlying3 b4 hz (g,0) i n A hold k (by omega) (by omega) (by omega) (by omega) (by rw[K];omega) (growslice_fits (by omega) (by rw[K];omega));rw[b0,<-E]at h;rw[h,p,z,I,<-Mm,Array.append_assoc]
 have L:c0.size=gc*8:=by rw[z];simp[f,J];omega
 have R:a.heap[w.heap.size]?=de (.cells c0 109 (0,0)):=by rw[p];exact aL w.drew _
 have b6:a.heap[s]?=de (.cells (aS x).toArray 109 (0,0)):=by rw[p];exact(bC w.drew _ _ (hF b5)).t b5
 have a8:a.heap[g]?=de (.cells c 109 (0,0)):=by rw[p];exact(bC w.drew _ _ c5).t hg
 obtain⟨c1,B⟩:=aK ((c0.toList.take (i*8)++aS x++c0.toList.drop (i*8+(aS x).length)).toArray);have H:(aS x).length=8:=rfl;obtain⟨b,r⟩:=aK (a.setRow w.heap.size c1);have a5:∀ty d,(Builtin.copy_ #[74,74] ty #[.slice (w.heap.size,i*8) (n+1-i) d,.slice (s,0) 1 1]).run ed a= .ok (goInt 1) b:=λty d=>by
  rw[r,B];exact kC a _ _ ty 109 w.heap.size (i*8) (n+1-i) d (s,0) 1 1 8 1 c0 109 (aS x) Tryz.underlying74 td R (by simp only[Nat.min_def];split<;>omega) rfl
   (λj u hu=>by
    rw[gY,ca];exact ej b6 j (by simpa using hu)) (by rw[L,H];omega) a1
 have M:c1.size=gc*8:=by rw[B];simp[L,H];omega
 have S:b.heap[w.heap.size]?=de (.cells c1 109 (0,0)):=by rw[r];exact setRow_heap a _ c0 c1 _ _ R
 have a9:b.heap[g]?=de (.cells c 109 (0,0)):=by rw[r,mZ a _ g c1 (by omega)];exact a8
 obtain⟨o,C⟩:=aK ((c1.toList.take ((i+1)*8)++D++c1.toList.drop ((i+1)*8+D.length)).toArray);obtain⟨G,y⟩:=aK (b.drew.setRow w.heap.size o);have a6:∀ty d W,(Builtin.copy_ #[74,74] ty #[.slice (w.heap.size,(i+1)*8) (n-i) d,.slice (g,i*8) (n-i) W]).run ed b.drew= .ok (goInt ((n-i:Nat):Int)) G:=λty d W=>by
  rw[y,C];exact kC b.drew _ _ ty 109 w.heap.size ((i+1)*8) (n-i) d (g,i*8) (n-i) W 8 (n-i) c1 109 D Tryz.underlying74 td S (by simp only[Nat.min_def];split<;>omega) m
   (λj u hu=>by
    have hj:j<D.length:=(cX.1 hu).1;rw[gY];refine ej (w:=b) a9 (i*8+j) ?_;rw[<-fU,O,bF (by omega),f,show i*8+j-i*8=j by omega];exact hu) (by rw[m,M];omega) a0
 have b2:o.toList.take ((n+1)*8)=A++aS x++D:=by
  have h:=EB (A:=A) (X:=aS x) (D:=D) (Z:=Z) (k:=8) rfl (by rw[J,m];omega);rw[C,B,z];simp only[List.toList_toArray];rw[show(n+1)*8=A.length+8+D.length by rw[f,m];omega,show(i+1)*8=A.length+8 by rw[f];omega,show i*8=A.length by rw[f]];exact h
 have a3:o.size=gc*8:=by rw[C];simp[M,m];omega
 have b9:Hid (fk G base (.slice (w.heap.size,0) (n+1) gc) (l.take i++x::l.drop i)):=ae (by
  have b1:(l.take i++x::l.drop i).length=n+1:=by simp[Q,V];omega
  unfold fk;rw[b1,y];refine⟨by rw[iV,b1],.inr ⟨w.heap.size,gc,o,rfl,c2,setRow_heap b.drew _ c1 o _ _ S,c4,a7,a3,?_⟩⟩;rw[b2,t,v];simp)
 have GR:Hid (w.grownBy G (de g)):=ae (by
  rw[y,r,p];refine⟨rfl,rfl,rfl,by simp,λq hq _=>?_⟩;rw[mZ _ _ q o (by omega)];show(World.setRow _ _ c1).heap[q]?=_;rw[mZ _ _ q c1 (by omega)];exact bC w.drew _ _ hq)
 have d8:((i:Int)==(n:Int))=dT:=by rw[aJ];omega
 have d9:(i==n)=dT:=by rw[aJ];omega
 have d2:decide ((n:Int)<(n:Int)+1)=dE:=by rw[ap];omega
 have d6:IntKind.i64.wrap ((i:Int)+1)=(i:Int)+1:=by rw[jg];omega
 have d7:IntKind.i64.wrap ((n:Int)+1)=(n:Int)+1:=by rw[jg];omega
 have d3:i<=n:=by omega
 have c6:(0:Int)<=(i:Int)+1:=by omega
 have d5:((i:Int)+1).toNat=i+1:=by omega
 have c7:¬(gc=i+1):=by omega
 have c8:(i:Int)<=(n:Int)+1:=by omega
 have c9:¬(gc=i):=by omega
 have hb5:¬(n=i):=by omega
 have d0:i<=n+1:=by omega
 have d1:gc<=9223372036854775807:=a7;have b7:=ae a2;have b8:=ae a5;have Y:=ae a6;clear a2 a5 a6 b2 a3 C M B z L O F t v f m a0 a1 V Q a4 N U S r T R a8 a9 b6 p y J I E H b4 hz b3 K b0 hk;go_enter func120,ntmps120
 have c3:=b8.o;go_wp2_with (at_builtin;refine Lib.wpList_append_run w rfl (.tmp 34) (.tmp 39) _ _ rfl (.slice (de ⟨g,0,dl⟩) i n) (.int .i64 k) rfl rfl _ _ (b7.o _) ?_)
 clear c3;go_region_held3 (λ_=>True) (trivial) (first
  |(refine oB rfl (.tmp 50) (.tmp 53) 74 74 rfl (.slice (w.heap.size,(i+1)*8) (n-i) (gc-(i+1))) (.slice (g,i*8) (n-i) (n-i)) rfl rfl (Y.o _ (gc-(i+1)) (n-i)) ?_))
 clear Y;go_wp2_with fail
 go_ret
 exact⟨_,rfl,b9.o,GR.o⟩
theorem GP(base:Nat)(v:bd)(l:List cF)(i:Nat)(x:cF)(a:Nat)(w:ax)(j:fk w base v l)(hi:i<=l.length)(b:w.heap[a]?=de (.cells (aS x).toArray 109 (0,0)))(p:v.ownBlock≠de a)(hlen:l.length<=100000)(d:base<=w.heap.size):
  bl ed 120 #[v,.int .i64 i,.slice (de ⟨a,0,dl⟩) 1 1] w λe w'=>∃m,e= .returned m/\fk w' base m (l.take i++x::l.drop i)/\w.grownBy w' v.ownBlock:=by
 rcases dy i l.length with h|h
 ·obtain⟨h1,h2⟩:=id j;rcases h2 with⟨rfl,r⟩|⟨g,cap,c,rfl,n,hg,s,o,f,k⟩
  ·omega
  ·have q:a≠g:=λe=>p (by rw[e];rfl);rcases dy l.length cap with h3|h3
   ·exact Ew base g cap c l i x a w hg f k o h h3 b q hlen n
   ·obtain rfl:cap=l.length:=by omega
    exact Ex base g c l i x a w hg f k h b hlen d
 ·obtain rfl:i=l.length:=by omega
  rw[dV,List.drop_length];exact GO base v l x a w j b hlen d
end Go.Proofs.YtcdmenphjilnnaaGreatDoor
namespace Go.Con
set_option maxHeartbeats 8000000
theorem EO{a b:Int}:mC a b<0<->a<b:=by
 rcases il a b with⟨h,hr⟩|⟨h,hr⟩|⟨h,hr⟩<;>rw[hr]<;>omega
theorem uO{a b:Int×Int}:dX a b<0<->a.1<b.1\/(a.1=b.1/\a.2<b.2):=by
 unfold dX;rcases il a.1 b.1 with⟨h,hr⟩|⟨h,hr⟩|⟨h,hr⟩
 ·rw[hr,ar (by decide)];omega
 ·rw[hr,ak (by decide),EO];omega
 ·rw[hr,ar (by decide)];omega
theorem pd{a b:Int×Int}:dX a b<=0<->a.1<b.1\/(a.1=b.1/\a.2<=b.2):=by
 have c:∀x y:Int,mC x y<=0<->x<=y:=λx y=>by
  rcases il x y with⟨h,hr⟩|⟨h,hr⟩|⟨h,hr⟩<;>rw[hr]<;>omega
 unfold dX;rcases il a.1 b.1 with⟨h,hr⟩|⟨h,hr⟩|⟨h,hr⟩
 ·rw[hr,ar (by decide)];omega
 ·rw[hr,ak (by decide),c];omega
 ·rw[hr,ar (by decide)];omega
theorem rZ{p b:Int×Int}(h:¬dX b p<0):∀(l:List cF) (last:Int),kO p last l=dE->kO b last l=dE
 |[],_,_=>rfl
 |v::l,last,hl=>by
  show(jJ v&&decide (last<v.slot)&&decide (dX v.bG b<=0)&&kO b v.slot l)=dE;have a:(jJ v&&decide (last<v.slot)&&decide (dX v.bG p<=0)&&kO p v.slot l)=dE:=hl;simp only[aP,ap]at a|-;refine⟨⟨a.1.1,?_⟩,rZ h l v.slot a.2⟩;have h2:=a.1.2;rw[pd]at h2|-;rw[uO]at h;omega
theorem Br{p b:Int×Int}{l:List cF}(h:kf p l=dE)(hb:okB b=dE)(hc:¬dX b p<0):kf b l=dE:=by
 unfold kf at h|-;simp only[aP]at h|-;exact⟨by rw[hb,Bool.or_true],rZ hc l _ h.2⟩
end Go.Con
namespace Go.Proofs.YtcdmenphjilnnaaGreatDoor
open Go.RowKit Go.Con
set_option maxHeartbeats 8000000
def fz(w:ax)(v:bd)(l:List cF):Prop:=Dr w v l/\(v= .slice dl 0 0\/∃a n c,v= .slice (de a) n c)
theorem fz.stay{w w':ax}{v:bd}{l:List cF}(h:fz w v l)(hb:dd w.heap.size w w'):fz w' v l:=⟨gN.stay h.1 hb,h.2⟩
theorem fk.aV{w:ax}{base:Nat}{v:bd}{l:List cF}(h:fk w base v l):fz w v l:=by
 refine⟨h.row,?_⟩;obtain⟨-,h2⟩:=h;rcases h2 with⟨rfl,-⟩|⟨g,cap,a,rfl,-⟩
 ·exact .inl rfl
 ·exact .inr ⟨_,_,_,rfl⟩
theorem mL(r n c:Int)(v:bd)(l:List cF)(w:ax)(hv:Dr w v l)(h:Hid ((if kf (r,n) l then(0:Int)else 5)=c)):
  bl ed 112 #[.agg #[r,n,v]] w λe w'=>e= .returned c/\dd w.heap.size w w':=by
 rw[<-h.o];exact yt (r,n) v l w hv
theorem ew{w w':ax}{base base':Nat}{v:bd}{l:List cF}(h:fk w base v l)(hb:base'<=base)(a:∀k,base<=k->k<w.heap.size->w'.heap[k]?=w.heap[k]?):fk w' base' v l:=
 zi (tQ h (λk hk=>a k (lV h k hk).1 (lV h k hk).2)) hb
theorem pg{w a:ax}{A B C:Obj}(h:((w.alloc A).alloc B).alloc C=a):a.heap[w.heap.size]?=de A/\a.heap[w.heap.size+1]?=de B/\a.heap[w.heap.size+1+1]?=de C/\dd w.heap.size w a/\a.heap.size=w.heap.size+3:=yo h
theorem Az(p b:Int×Int)(v:bd)(l:List cF)(w:ax)(hv:fz w v l)(a7:kf p l=dE)(hb:okB b=dE)(hl:l.length<=1000):
  bl ed 86 #[Co p v,.agg #[b.1,b.2]] w λe w'=>dd w.heap.size w w'/\((dX b p<0/\e= .returned (.tuple #[Co (0,0) (.slice dl 0 0),.slice dl 0 0,(7:Int)]))\/(¬dX b p<0/\∃v1 v2,e= .returned (.tuple #[Co b v1,v2,(0:Int)])/\fk w' w.heap.size v1 l/\fk w' w.heap.size v2 l)):=by
 obtain⟨N,M⟩:=p;obtain⟨m,j⟩:=b;obtain⟨ea,D,rfl,hle,b6,-⟩:=id hv.1;show bl ed 86 #[.agg #[N,M,.slice ea l.length D],.agg #[m,j]] w _;obtain⟨n,J⟩:=aK l.length;rw[<-J]at hv hle hl|-;have x:=ae hv;have HN:=ae J;have a8:=ae (show(if kf (N,M) l then(0:Int)else 5)=0 by rw[a7];rfl);have HB:=ae hb;obtain⟨c,hc⟩:=aK (dX (m,j) (N,M));rw[<-hc];have Z:=ae hc.symm;clear hv J a7 hb hc;go_enter func86,ntmps86
 go_upto_region 1 with fail
 generalize f:World.alloc _ _=w0;have G:=ae (pg f);have a0:=ej G.o.1 0 rfl;have a1:=ej G.o.1 1 rfl;have a2:=ej G.o.1 2 rfl;clear f;go_upto_region 4 with(go_at_call 112;refine(mL _ _ _ _ l _ ((x.o.stay G.o.2.2.2.1).1) a8).m ?_;rintro e w1 ⟨rfl,H⟩;have V:=ae H;have d:=(H.block _ (hF G.o.2.1)).t G.o.2.1;have b0:=ej d 0 rfl;have b1:=ej d 1 rfl;clear H d)
 clear a0 a1 a2;go_upto_region 6 with(go_at_call 113;refine(nI _ _ _ _ HB).m ?_;rintro e w2 ⟨rfl,a4⟩;have A:=ae (V.o.t (a4.m V.o.size));clear a4)
 clear b0 b1;have g2:=(A.o.block _ (hF G.o.1)).t G.o.1;have d:=(A.o.block _ (hF G.o.2.1)).t G.o.2.1;have a:=(A.o.block _ (hF G.o.2.2.1)).t G.o.2.2.1;have X:=ae g2;have Y:=ae d;have C:=ae a;have B:=ae (G.o.2.2.2.1.t (A.o.m G.o.2.2.2.1.size));have a0:=ej g2 0 rfl;have a1:=ej g2 1 rfl;have b0:=ej d 0 rfl;have b1:=ej d 1 rfl;clear g2 d a;by_cases a5:c<0
 ·have a9:decide (c<0)=dE:=by rw[ap];exact a5
  go_wp2_with (go_at_call 114;refine(iP _ _ _ _ _ _ Z).m ?_;rintro e w3 ⟨rfl,g⟩;have h:=ae (B.o.t (g.m B.o.size));have a:=(g.block _ (hF C.o)).t C.o;have y:=ae a;have P:=ej a 0 rfl;have Q:=ej a 1 rfl;have R:=ej a 2 rfl;have U:=aO a;clear g a)
  generalize f:World.setCell _ _ _=q;have S:q.heap[w.heap.size+1+1]?=de (.cells #[(0:Int),(0:Int),.slice dl 0 0] 76 (0,0)):=by
   rw[<-f];exact aB (aB (aB y.o _) _) _
  have o:w.heap.size<=w.heap.size+1+1:=by omega
  have b5:dd w.heap.size w q:=by rw[<-f];exact((h.o.setCell o _).setCell o _).setCell o _
  clear f P Q R U;have F:=ej S 0 rfl;have e1:=ej S 1 rfl;have e2:=ej S 2 rfl;refine aH (v:= .tuple #[.agg #[(0:Int),(0:Int),.slice dl 0 0],.slice dl 0 0,(7:Int)]) ?_ rfl ⟨b5,.inl rfl⟩;simp[results,Tryz.results86,go_sem,F,e1,e2]
 ·have a9:decide (c<0)=dT:=by rw[ah];exact a5
  go_wp2_with (go_at_call 114;refine(iP _ _ _ _ _ _ Z).m ?_;rintro e w3 ⟨rfl,g⟩;have h:=ae (B.o.t (g.m B.o.size));have a:=(g.block _ (hF C.o)).t C.o;have y:=ae a;have d:=(g.block _ (hF Y.o)).t Y.o;have s:=ae d;have g2:=(g.block _ (hF X.o)).t X.o;have E:=ae g2;clear g a d g2)
  have s0:=ej E.o 2 rfl;have s1:=ej s.o 0 rfl;have s2:=ej s.o 1 rfl;have b9:¬(w.heap.size+1+1=w.heap.size):=by omega
  have c0:¬(w.heap.size=w.heap.size+1+1):=by omega
  have c1:w.heap.size≠w.heap.size+2:=by omega
  have S0:=ae s0;have S1:=ae s1;have S2:=ae s2;go_region_held3 (λw'=>w'.cell? (w.heap.size,2)=de (.slice ea n D)/\w'.cell? (w.heap.size+1,0)=m/\w'.cell? (w.heap.size+1,1)=j) (first|exact a3|exact SS|go_keep) (first
   |(have o1:=O1;clear o1;go_at_call 115;refine(uQ _ l _ ((x.o.stay (h.o.t (i.o.m h.o.size))).1) x.o.2 (by rw[<-HN.o];omega)).m ?_;rintro e r ⟨v2,rfl,L,I⟩;have O2:=ae L;obtain⟨ta,tc,rfl,-⟩:=id L.row;have W:=ae I;have u:=ae (i.o.t (I.m i.o.size));have a3:r.cell? (w.heap.size,2)=de (.slice ea n D)/\r.cell? (w.heap.size+1,0)=m/\r.cell? (w.heap.size+1,1)=j:=⟨(aw (w:=w3) (u.o.block _ (hF E.o))).t S0.o,(aw (w:=w3) (u.o.block _ (hF s.o))).t S1.o,(aw (w:=w3) (u.o.block _ (hF s.o))).t S2.o⟩;have t:=(u.o.block _ (hF y.o)).t y.o;have Y4:=ae t;have P:r.cell? (w.heap.size+1+1,0)=(0:Int):=ej t 0 rfl;have Q:r.cell? (w.heap.size+1+1,1)=(0:Int):=ej t 1 rfl;have R:r.cell? (w.heap.size+1+1,2)=de (.slice dl 0 0):=ej t 2 rfl;have U:=aO t;clear L I t)
   |(go_at_call 115;refine(uQ _ l _ ((x.o.stay h.o.drew).1) x.o.2 (by rw[<-HN.o];omega)).m ?_;rintro e q ⟨v1,rfl,K,hb5⟩;have O1:=ae K;obtain⟨sa,O,rfl,-⟩:=id K.row;have i:=ae (show dd w3.heap.size w3 q from(aj w3.heap.size w3).drew.t hb5);have SS:q.cell? (w.heap.size,2)=de (.slice ea n D)/\q.cell? (w.heap.size+1,0)=m/\q.cell? (w.heap.size+1,1)=j:=⟨(aw (w:=w3) (i.o.block _ (hF E.o))).t S0.o,(aw (w:=w3) (i.o.block _ (hF s.o))).t S1.o,(aw (w:=w3) (i.o.block _ (hF s.o))).t S2.o⟩;clear K hb5))
  all_goals go_wp2_with fail
  generalize f:World.setCell _ _ _=z;have T:z.heap[w.heap.size+1+1]?=de (.cells #[m,j,.slice sa l.length O] 76 (0,0)):=by
   rw[<-f];exact aB (aB (aB Y4.o _) _) _
  have o:w.heap.size<=w.heap.size+1+1:=by omega
  have b7:dd w.heap.size w z:=by rw[<-f];exact(((h.o.t (u.o.m h.o.size)).setCell o _).setCell o _).setCell o _
  have b3:w.heap.size+1+1<w3.heap.size:=hF y.o;have b4:=W.o.size;have b2:=i.o.size;have hq:∀k,k≠w.heap.size+1+1->z.heap[k]?=r.heap[k]?:=λk hk=>by
   rw[<-f,aA _ _ hk,aA _ _ hk,aA _ _ hk]
  have o1:fk z w.heap.size (.slice sa l.length O) l:=ew O1.o (aE (by omega) (ag w3.heap.size)) (λk hk a6=>by
   have b8:w3.heap.size<=k:=hk;rw[hq k (by omega)];exact W.o.block k a6)
  have o2:fk z w.heap.size (.slice ta l.length tc) l:=ew O2.o (by omega) (λk hk a6=>hq k (by omega));clear f P Q R U hq SS a3 s0 s1 s2;have F:=ej T 0 rfl;have e1:=ej T 1 rfl;have e2:=ej T 2 rfl;refine aH (v:= .tuple #[.agg #[m,j,.slice sa l.length O],.slice ta l.length tc,(0:Int)]) ?_ rfl ⟨b7,.inr ⟨_,_,rfl,o1,o2⟩⟩;simp[results,Tryz.results86,go_sem,F,e1,e2]
end Go.Proofs.YtcdmenphjilnnaaGreatDoor
namespace Go.Con
set_option maxHeartbeats 8000000
def mA(y:cF)(l:List cF):List cF:=(l.filter λv=>decide (v.slot<y.slot))++y::l.filter λv=>decide (y.slot<v.slot)
theorem wI{p:Int×Int}:∀(l:List cF) (last:Int),kO p last l=dE->(∀v∈l,last<v.slot)/\∀a b,a<b->b<l.length->(l.getD a cF.zero).slot<(l.getD b cF.zero).slot
 |[],last,_=>⟨(λv h=>by cases h),(λa b _ h=>by cases h)⟩
 |v::l,last,h=>by
  have c:(jJ v&&decide (last<v.slot)&&decide (dX v.bG p<=0)&&kO p v.slot l)=dE:=h;simp only[aP,ap]at c;obtain⟨h1,h2⟩:=wI l v.slot c.2;refine⟨λu hu=>?_,λa b e hb=>?_⟩
  ·rcases dF.1 hu with rfl|hu
   ·exact c.1.1.2
   ·have:=h1 u hu;omega
  ·cases b with
   |zero=>omega
   |succ b=>
    have d:b<l.length:=by simpa using hb
    cases a with
    |zero=>
     have:(l.getD b cF.zero)∈l:=by
      rw[au,aC d];exact dW _
     exact h1 _ this
    |succ a=>exact h2 a b (by omega) d
theorem qK{l:List cF}{s:Int}{i:Nat}(hi:i<=l.length)(h1:∀q,q<i->(l.getD q cF.zero).slot<s)(h2:∀q,i<=q->q<l.length->s<=(l.getD q cF.zero).slot):
  (l.filter λv=>decide (v.slot<s))=l.take i:=by
 have e:l=l.take i++l.drop i:=(dg i l).symm;have a:(l.take i).filter (λv=>decide (v.slot<s))=l.take i:=by
  rw[dQ];intro v hv;obtain⟨q,hq,rfl⟩:=fO hv;rw[aM]at hq;have b:q<l.length:=by omega
  have h:=h1 q (by omega);rw[au,aC b]at h;rw[List.getElem_take];simpa using h
 have hb:(l.drop i).filter (λv=>decide (v.slot<s))=[]:=by
  rw[fM];intro v hv;obtain⟨q,hq,rfl⟩:=fO hv;rw[cO]at hq;have h:=h2 (i+q) (by omega) (by omega);rw[au,aC (by omega)]at h;rw[List.getElem_drop];simpa using h
 calc l.filter (λv=>decide (v.slot<s))=(l.take i++l.drop i).filter (λv=>decide (v.slot<s)):=by rw[<-e]
  _=_:=by rw[List.filter_append,a,hb,List.append_nil]
theorem pH{l:List cF}{s:Int}{i:Nat}(hi:i<=l.length)(h1:∀q,q<i->(l.getD q cF.zero).slot<=s)(h2:∀q,i<=q->q<l.length->s<(l.getD q cF.zero).slot):
  (l.filter λv=>decide (s<v.slot))=l.drop i:=by
 have e:l=l.take i++l.drop i:=(dg i l).symm;have a:(l.take i).filter (λv=>decide (s<v.slot))=[]:=by
  rw[fM];intro v hv;obtain⟨q,hq,rfl⟩:=fO hv;rw[aM]at hq;have b:q<l.length:=by omega
  have h:=h1 q (by omega);rw[au,aC b]at h;rw[List.getElem_take];simpa using h
 have hb:(l.drop i).filter (λv=>decide (s<v.slot))=l.drop i:=by
  rw[dQ];intro v hv;obtain⟨q,hq,rfl⟩:=fO hv;rw[cO]at hq;have h:=h2 (i+q) (by omega) (by omega);rw[au,aC (by omega)]at h;rw[List.getElem_drop];simpa using h
 calc l.filter (λv=>decide (s<v.slot))=(l.take i++l.drop i).filter (λv=>decide (s<v.slot)):=by rw[<-e]
  _=_:=by rw[List.filter_append,a,hb,cK]
theorem Gi{y:cF}{l:List cF}{i:Nat}(hi:i<=l.length)(h1:∀q,q<i->(l.getD q cF.zero).slot<y.slot)(h2:∀q,i<=q->q<l.length->y.slot<=(l.getD q cF.zero).slot)
  (hs:∀a b,a<b->b<l.length->(l.getD a cF.zero).slot<(l.getD b cF.zero).slot)(d:¬(i<l.length/\(l.getD i cF.zero).slot=y.slot)):l.take i++y::l.drop i=mA y l:=by
 unfold mA;rw[qK hi h1 h2,pH hi (λq hq=>by have:=h1 q hq;omega) (λq hq c=>by
  have h3:=h2 q hq c;rcases dy i q with h|h
  ·have h4:=hs i q h c;have h5:=h2 i (ag _) (by omega);omega
  ·obtain rfl:q=i:=by omega
   have:(l.getD q cF.zero).slot≠y.slot:=λe=>d ⟨c,e⟩;omega)]
theorem Gg{y:cF}{l:List cF}{i:Nat}(hi:i<l.length)(h1:∀q,q<i->(l.getD q cF.zero).slot<y.slot)(h2:∀q,i<=q->q<l.length->y.slot<=(l.getD q cF.zero).slot)
  (hs:∀a b,a<b->b<l.length->(l.getD a cF.zero).slot<(l.getD b cF.zero).slot)(d:(l.getD i cF.zero).slot=y.slot):l.take i++y::l.drop (i+1)=mA y l:=by
 unfold mA;rw[qK (fH hi) h1 h2,pH (i:=i+1) hi (λq hq=>by
  rcases dy q i with h|h
  ·have:=h1 q h;omega
  ·obtain rfl:q=i:=by omega
   omega) (λq hq c=>by
  have h4:=hs i q (by omega) c;omega)]
theorem GH{L:List bd}{k:Nat}(c0 c1 a b c c5 d c7:bd)(h:k+8<=L.length):
  (((((((L.set k c0).set (k+1) c1).set (k+2) a).set (k+3) b).set (k+4) c).set (k+5) c5).set (k+6) d).set (k+7) c7=L.take k++[c0,c1,a,b,c,c5,d,c7]++L.drop (k+8):=by
 obtain⟨A,B,i,f⟩:∃A B,L=A++B/\A.length=k:=⟨L.take k,L.drop k,(dg k L).symm,by rw[aM];omega⟩
 subst i;subst f;rw[aD]at h;have g:8<=B.length:=by omega
 match B,g with
 |d0::d1::d2::d3::d4::d5::d6::d7::R,_=>
  have e:∀j,¬(A.length+j<A.length):=λj=>by omega
  simp[List.set_append,e,gA,List.drop_append]
end Go.Con
namespace Go.Proofs.YtcdmenphjilnnaaGreatDoor
open Go.RowKit Go.Con
set_option maxHeartbeats 8000000
theorem Gn{w:ax}{base g n c:Nat}{l:List cF}(h:fk w base (.slice (g,0) n c) l)(i:Nat)(hi:i<l.length)(y:cF):
  fk ((((((((w.setCell (g,i*8) y.slot).setCell (g,i*8+1) y.bG.1).setCell (g,i*8+2) y.bG.2).setCell (g,i*8+3) y.cW.kind).setCell (g,i*8+4) y.cW.bD).setCell (g,i*8+5) y.cW.seq).setCell (g,i*8+6) y.cW.name).setCell (g,i*8+7) y.cW.value) base (.slice (g,0) n c) (l.take i++y::l.drop (i+1)):=by
 obtain⟨h1,h2⟩:=h;rcases h2 with⟨h3,B⟩|⟨g',cap,a,h3,s,hg,v,u,k,z⟩
 ·cases h3
 ·injection h3 with e1 e2 e3;injection e1 with e1;injection e1 with o;subst o e3;have f:(l.take i++y::l.drop (i+1)).length=l.length:=by simp;omega
  have t:a.toList.length=c*8:=by rw[iR,k]
  unfold fk;refine⟨by rw[fg aS 8 (λ_=>rfl)],.inr ⟨g,c,_,by rw[f];exact dz (λq=>Value.slice (g,0) q c) e2,s,aB (aB (aB (aB (aB (aB (aB (aB hg _) _) _) _) _) _) _) _,by rw[f];exact v,u,by simp[k],?_⟩⟩;simp only[Array.toList_setIfInBounds];rw[GH _ _ _ _ _ _ _ _ (by rw[t];omega),f];have x:l.flatMap aS=(l.take i).flatMap aS++((l.drop i).take 1).flatMap aS++(l.drop (i+1)).flatMap aS:=by
   rw[<-dP,<-dP,bJ,show(l.drop i).take 1++l.drop (i+1)=l.drop i by
    rw[show l.drop (i+1)=(l.drop i).drop 1 by rw[iT],dg],dg]
  obtain⟨A,b⟩:=aK ((l.take i).flatMap aS);obtain⟨M,j⟩:=aK (((l.drop i).take 1).flatMap aS);obtain⟨D,e⟩:=aK ((l.drop (i+1)).flatMap aS);have d:A.length=i*8:=by rw[b,fg aS 8 (λ_=>rfl),aM];omega
  have r:M.length=8:=by rw[j,fg aS 8 (λ_=>rfl),aM,cO];omega
  have p:D.length=(l.length-(i+1))*8:=by rw[e,fg aS 8 (λ_=>rfl),cO]
  have m:a.toList=A++M++D++a.toList.drop (l.length*8):=by
   rw[b,j,e,<-x,<-z,dg]
  generalize a.toList.drop (l.length*8)=R at m;rw[m];have t1:(A++M++D++R).take (i*8)=A:=by rw[<-d];simp[bJ]
  have t2:(A++M++D++R).drop (i*8+8)=D++R:=by
   rw[bJ,List.drop_left'];simp[d,r]
  rw[t1,t2,<-bJ,gF (by simp[d,p];omega),dP,gC,<-b,<-e];simp[aS]
set_option maxHeartbeats 1000000
theorem DO(v:bd)(l:List cF)(c d f g h j k m:Int)(w:ax)(hv:Dr w v l)(n:∀a b,a<b->b<l.length->(l.getD a cF.zero).slot<(l.getD b cF.zero).slot)(hl:l.length<=100000):
  bl ed 117 #[v,.agg #[c,d,f,g,h,j,k,m],.func (.func 118) #[] #[]] w λe w'=>∃(i:Nat) (b:Bool),FN l c i/\b=decide (i<l.length/\(l.getD i cF.zero).slot=c)/\e= .returned (.tuple #[i,.bool b])/\dd w.heap.size w w':=
 (Bc v l ⟨c,(d,f),⟨g,h,j,k,m⟩⟩ w hv n hl).m λe w' ⟨i,h1,h2,h3⟩=>⟨i,_,h1,rfl,h2,h3⟩
theorem CB(p:Int×Int)(v:bd)(l:List cF)(y:cF)(w:ax)(hv:fz w v l)(a4:kf p l=dE)(hy:jJ y=dE)(hl:l.length<=1000):
  bl ed 88 #[Co p v,qq y] w λe w'=>dd w.heap.size w w'/\((dX y.bG p<0/\e= .returned (.tuple #[Co (0,0) (.slice dl 0 0),(7:Int)]))\/(¬dX y.bG p<0/\∃v1,e= .returned (.tuple #[Co y.bG v1,(0:Int)])/\fk w' w.heap.size v1 (mA y l))):=by
 obtain⟨pr,pn⟩:=p;obtain⟨C,⟨q,r⟩,⟨Q,R,S,T,U⟩⟩:=y;obtain⟨ea,ec,rfl,hle,f5,-⟩:=id hv.1;show bl ed 88 #[.agg #[pr,pn,.slice ea l.length ec],.agg #[C,q,r,Q,R,S,T,U]] w _;obtain⟨n,hn⟩:=aK l.length;rw[<-hn]at hv hle hl|-;have HV:=ae hv;have B:=ae hn;have e4:=ae (show(if kf (pr,pn) l then(0:Int)else 5)=0 by rw[a4];rfl);have HY:=ae hy;have b0:=ae (show∀a b,a<b->b<l.length->(l.getD a cF.zero).slot<(l.getD b cF.zero).slot from(wI l (-1) (by
  unfold kf at a4;simp only[aP]at a4;exact a4.2)).2)
 obtain⟨P,hP⟩:=aK (mA ⟨C,(q,r),⟨Q,R,S,T,U⟩⟩ l);rw[<-hP];have HP:=ae hP;obtain⟨c,hc⟩:=aK (dX (q,r) (pr,pn));dsimp only;rw[<-hc];have HC:=ae hc.symm;clear hv hn a4 hy hc hP;have f8:¬(w.heap.size+1+1=w.heap.size):=by omega
 have f9:¬(w.heap.size=w.heap.size+1+1):=by omega
 go_enter func88,ntmps88
 go_upto_region 1 with fail
 generalize d:World.alloc _ _=w0;have G:=ae (pg d);have a0:=ej G.o.1 0 rfl;have a1:=ej G.o.1 1 rfl;have a2:=ej G.o.1 2 rfl;clear d;go_upto_region 4 with(go_at_call 112;refine(mL _ _ _ _ l _ ((HV.o.stay G.o.2.2.2.1).1) e4).m ?_;rintro e w1 ⟨rfl,c0⟩;have B1:=ae c0;clear c0)
 clear a0 a1 a2;have f:=(B1.o.block _ (hF G.o.2.1)).t G.o.2.1;have J:=ej f 0 rfl;have b1:=ej f 1 rfl;have b2:=ej f 2 rfl;have K:=ej f 3 rfl;have L:=ej f 4 rfl;have z:=ej f 5 rfl;have M:=ej f 6 rfl;have N:=ej f 7 rfl;clear f;go_upto_region 6 with(go_at_call 116;refine(nO _ _ _ _ _ _ _ _ _ _ HY).m ?_;rintro e w2 ⟨rfl,c3⟩;have B2:=ae (B1.o.t (c3.m B1.o.size));clear c3)
 clear J b1 b2 K L z M N;have g2:=(B2.o.block _ (hF G.o.1)).t G.o.1;have f:=(B2.o.block _ (hF G.o.2.1)).t G.o.2.1;have u:=(B2.o.block _ (hF G.o.2.2.1)).t G.o.2.2.1;have G2:=ae g2;have G3:=ae f;have G4:=ae u;have a6:=ae (G.o.2.2.2.1.t (B2.o.m G.o.2.2.2.1.size));have a0:=ej g2 0 rfl;have a1:=ej g2 1 rfl;have b1:=ej f 1 rfl;have b2:=ej f 2 rfl;clear g2 f u;by_cases c5:c<0
 ·have e6:decide (c<0)=dE:=by rw[ap];exact c5
  go_wp2_with (go_at_call 114;refine(iP _ _ _ _ _ _ HC).m ?_;rintro e w3 ⟨rfl,O⟩;have V:=ae (a6.o.t (O.m a6.o.size));have u:=(O.block _ (hF G4.o)).t G4.o;have I:=ae u;have z0:=ej u 0 rfl;have z1:=ej u 1 rfl;have z2:=ej u 2 rfl;have zf:=aO u;clear O u)
  generalize d:World.setCell _ _ _=w5;have z5:w5.heap[w.heap.size+1+1]?=de (.cells #[(0:Int),(0:Int),.slice dl 0 0] 76 (0,0)):=by
   rw[<-d];exact aB (aB (aB I.o _) _) _
  have o:w.heap.size<=w.heap.size+1+1:=by omega
  have z:dd w.heap.size w w5:=by rw[<-d];exact((V.o.setCell o _).setCell o _).setCell o _
  clear d z0 z1 z2 zf;have e0:=ej z5 0 rfl;have e1:=ej z5 1 rfl;have e2:=ej z5 2 rfl;refine aH (v:= .tuple #[.agg #[(0:Int),(0:Int),.slice dl 0 0],(7:Int)]) ?_ rfl ⟨z,.inl rfl⟩;simp[results,Tryz.results88,go_sem,e0,e1,e2]
 ·have e6:decide (c<0)=dT:=by rw[ah];exact c5
  go_upto_region 8 with(go_at_call 114;refine(iP _ _ _ _ _ _ HC).m ?_;rintro e w3 ⟨rfl,O⟩;have a5:=ae O;clear O)
  clear a0 a1 b1 b2;have V:=ae (a6.o.t (a5.o.m a6.o.size));have Z2:=ae ((a5.o.block _ (hF G2.o)).t G2.o);have Z3:=ae ((a5.o.block _ (hF G3.o)).t G3.o);have I:=ae ((a5.o.block _ (hF G4.o)).t G4.o);have s2:=ej Z2.o 2 rfl;go_upto_region 9 with(go_at_call 115;refine(uQ _ l _ ((HV.o.stay V.o).1) HV.o.2 (by rw[<-B.o];omega)).m ?_;rintro e w5 ⟨v1,rfl,d7,hb5⟩;have O5:=ae d7;have F:=ae hb5;clear d7 hb5)
  clear s2;obtain⟨sa,sc,rfl,-⟩:=id O5.o.row;have s:=ae ((F.o.block _ (hF Z3.o)).t Z3.o);have J:=ej s.o 0 rfl;have b1:=ej s.o 1 rfl;have b2:=ej s.o 2 rfl;have K:=ej s.o 3 rfl;have L:=ej s.o 4 rfl;have z:=ej s.o 5 rfl;have M:=ej s.o 6 rfl;have N:=ej s.o 7 rfl;go_upto_region 10 with(go_at_call 117;refine(DO _ l _ _ _ _ _ _ _ _ _ O5.o.row b0.o (by rw[<-B.o];omega)).m ?_;rintro e w6 ⟨i,fo,b9,c7,rfl,c4⟩;have E:=ae b9;have FO:=ae c7;have W:=ae c4;clear b9 c7 c4)
  clear J b1 b2 K L z M N;rw[<-B.o]at FO O5|-;have Y:=ae (ew O5.o (ag _) (λk _ b4=>W.o.block k b4));have t:=ae ((W.o.block _ (hF s.o)).t s.o);have b8:=ae ((W.o.block _ (ai (hF I.o) F.o.size)).t ((F.o.block _ (hF I.o)).t I.o));have a8:=ae (V.o.t ((F.o.t (W.o.m F.o.size)).m V.o.size));have f3:w.heap.size+1+1<w3.heap.size:=hF I.o;have f2:=F.o.size;have f4:=W.o.size;have J:=ej t.o 0 rfl;have b1:=ej t.o 1 rfl;have b2:=ej t.o 2 rfl;have K:=ej t.o 3 rfl;have L:=ej t.o 4 rfl;have z:=ej t.o 5 rfl;have M:=ej t.o 6 rfl;have N:=ej t.o 7 rfl;cases fo
  ·have d6:¬(i<l.length/\(l.getD i cF.zero).slot=C):=by
    have h:=FO.o.symm;rw[ah]at h;rw[<-B.o];exact h
   have a3:l.take i++⟨C,(q,r),⟨Q,R,S,T,U⟩⟩::l.drop i=P:=by
    rw[HP.o];exact Gi E.o.1 E.o.2.1 E.o.2.2 b0.o d6
   have PI:=ae a3;clear d6 a3;have b5:=ae (lV Y.o);go_upto_region 13 with(go_at_call 120;refine(GP w3.heap.size _ l i ⟨C,(q,r),⟨Q,R,S,T,U⟩⟩ w6.heap.size _ (World.ownsRow.alloc Y.o _) E.o.1 (aL _ _) (λh=>by have:=(b5.o _ h).2;omega) (by rw[<-B.o];omega) (by simp;omega)).m ?_;rintro e j ⟨v8,rfl,d8,c8⟩;have H:=ae (show fk j w3.heap.size v8 P by rw[<-PI.o];exact d8);have G8:=ae c8;clear d8 c8)
   clear J b1 b2 K L z M N;have d5:∀k,k<w3.heap.size->j.heap[k]?=w6.heap[k]?:=λk hk=>(G8.o.block k (by simp;omega) (λe=>by have:=(b5.o k e.symm).1;omega)).t (bC w6 _ _ (by omega));have a9:=ae (show dd w.heap.size w j from(a8.o.alloc a8.o.size _).grown G8.o (by simp;omega) (λk hk=>by have:=(b5.o k hk).1;omega));have X:=ae d5;clear d5;have Z:=ae (show j.heap[w.heap.size+1]?=_ from(X.o _ (by omega)).t t.o);have m:=ae (show j.heap[w.heap.size+1+1]?=_ from(X.o _ (by omega)).t b8.o);have c1:=ej Z.o 1 rfl;have c2:=ej Z.o 2 rfl;have d0:=ej m.o 0 rfl;have d1:=ej m.o 1 rfl;have d2:=ej m.o 2 rfl;have df:=aO m.o;obtain⟨za,zc,b6,-⟩:=id H.o.row;subst b6;go_wp2_with fail
   generalize d:World.setCell _ _ _=x;have D:x.heap[w.heap.size+1+1]?=de (.cells #[q,r,.slice za P.length zc] 76 (0,0)):=by
    rw[<-d];exact aB (aB (aB m.o _) _) _
   have o:w.heap.size<=w.heap.size+1+1:=by omega
   have bY:dd w.heap.size w x:=by rw[<-d];exact((a9.o.setCell o _).setCell o _).setCell o _
   have hq:∀k,k≠w.heap.size+1+1->x.heap[k]?=j.heap[k]?:=λk hk=>by
    rw[<-d,aA _ _ hk,aA _ _ hk,aA _ _ hk]
   have oY:fk x w.heap.size (.slice za P.length zc) P:=ew H.o (by omega) (λk hk b4=>hq k (by omega));clear d c1 c2 d0 d1 d2 df hq;have e0:=ej D 0 rfl;have e1:=ej D 1 rfl;have e2:=ej D 2 rfl;refine aH (v:= .tuple #[.agg #[q,r,.slice za P.length zc],(0:Int)]) ?_ rfl ⟨bY,.inr ⟨_,rfl,oY⟩⟩;simp[results,Tryz.results88,go_sem,e0,e1,e2]
  ·have c6:=FO.o.symm;rw[ap]at c6;obtain⟨d4,e3⟩:=c6;have d3:i<l.length:=by rw[<-B.o];exact d4
   have a3:l.take i++⟨C,(q,r),⟨Q,R,S,T,U⟩⟩::l.drop (i+1)=P:=by
    rw[HP.o];exact Gg d3 E.o.2.1 E.o.2.2 b0.o e3
   have PI:=ae a3;obtain⟨g,hg,f6,a7,c9⟩:∃g,sa=(g,0)/\w3.heap.size<=g/\∃a7,w6.heap[g]?=de (.cells a7 109 (0,0)):=by
    obtain⟨-,h2⟩:=Y.o;rcases h2 with⟨h3,f7⟩|⟨g',cap,a7,h3,e5,hg,-⟩
    ·have h2:=B.o;omega
    ·injection h3 with e1;exact⟨g',e1,e5,a7,hg⟩
   subst hg;obtain⟨eb,f1,he,-,b3⟩:=Y.o.row.cells.2.2 i d4;have e7:=fT he;injection e7 with e1 e2;subst e1 e2;obtain⟨ov,d9⟩:=aK (l.getD i cF.zero);rw[<-d9]at b3;obtain⟨x0,x1,x2,x3,x4,x5,x6,x7⟩:=rD b3;simp only[ca]at x0 x1 x2 x3 x4 x5 x6 x7;have xf:=aO c9;have b7:=ae (Gn Y.o i d3 ⟨C,(q,r),⟨Q,R,S,T,U⟩⟩);clear d9 b3 e3 a3 he c9;go_upto_region 13 with fail
   generalize d:World.setCell _ _ _=j;have H:=ae (show fk j w3.heap.size (.slice (g,0) n sc) P by rw[<-d,<-PI.o];exact b7.o);have X:=ae (show∀k,k<w3.heap.size->j.heap[k]?=w6.heap[k]? from λk hk=>by
    have A:k≠g:=by omega
    rw[<-d,aA _ _ A,aA _ _ A,aA _ _ A,aA _ _ A,aA _ _ A,aA _ _ A,aA _ _ A,aA _ _ A])
   have a9:=ae (show dd w.heap.size w j by
    have hle:w.heap.size<=g:=by omega
    rw[<-d];exact(((((((a8.o.setCell hle _).setCell hle _).setCell hle _).setCell hle _).setCell hle _).setCell hle _).setCell hle _).setCell hle _)
   clear d J b1 b2 K L z M N x0 x1 x2 x3 x4 x5 x6 x7 xf b7;have Z:=ae (show j.heap[w.heap.size+1]?=_ from(X.o _ (by omega)).t t.o);have m:=ae (show j.heap[w.heap.size+1+1]?=_ from(X.o _ (by omega)).t b8.o);have c1:=ej Z.o 1 rfl;have c2:=ej Z.o 2 rfl;have d0:=ej m.o 0 rfl;have d1:=ej m.o 1 rfl;have d2:=ej m.o 2 rfl;have df:=aO m.o;obtain⟨za,zc,b6,-⟩:=id H.o.row;injection b6 with e8 e9 f0;rw[e9]at H|-;clear e8 f0;go_wp2_with fail
   generalize d:World.setCell _ _ _=x;have D:x.heap[w.heap.size+1+1]?=de (.cells #[q,r,.slice (g,0) P.length sc] 76 (0,0)):=by
    rw[<-d];exact aB (aB (aB m.o _) _) _
   have o:w.heap.size<=w.heap.size+1+1:=by omega
   have bY:dd w.heap.size w x:=by rw[<-d];exact((a9.o.setCell o _).setCell o _).setCell o _
   have hq:∀k,k≠w.heap.size+1+1->x.heap[k]?=j.heap[k]?:=λk hk=>by
    rw[<-d,aA _ _ hk,aA _ _ hk,aA _ _ hk]
   have oY:fk x w.heap.size (.slice (g,0) P.length sc) P:=ew H.o (by omega) (λk hk b4=>hq k (by omega));clear d c1 c2 d0 d1 d2 df hq;have e0:=ej D 0 rfl;have e1:=ej D 1 rfl;have e2:=ej D 2 rfl;refine aH (v:= .tuple #[.agg #[q,r,.slice (g,0) P.length sc],(0:Int)]) ?_ rfl ⟨bY,.inr ⟨_,rfl,oY⟩⟩;simp[results,Tryz.results88,go_sem,e0,e1,e2]
end Go.Proofs.YtcdmenphjilnnaaGreatDoor
