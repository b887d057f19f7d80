/-
  Parts of the proofs of the laws of the whole (what the functions compute, and plain laws of it); no conditions.
-/
import Derived.Test.YtcdmenphjilnnaaGreatDoorM20
import Derived.Test.YtcdmenphjilnnaaGreatDoorM21
import Derived.Test.YtcdmenphjilnnaaGreatDoorM22
set_option linter.unusedVariables false
set_option linter.unusedSimpArgs false
set_option maxRecDepth 100000
set_option maxHeartbeats 1000000
open Go.Proofs.Tryz
open Go renaming World->ax,Value->bd,Calls->bl
open Go.RowKit renaming Below->dd
open Option renaming some->de,none->dl
open Bool renaming true->dE,false->dT
open Go.Proofs.Tryz renaming prog->ed
namespace Go.Proofs.YtcdmenphjilnnaaGreatDoor
open Go.RowKit Go.Con
set_option maxHeartbeats 400000
theorem pD{P:Program}{w:ax}{b o c:Nat}{ty:TypeId}{u:bd}(hc:w.cell? (b,o)=de u)(hf:w.frozen? (b,o)=dT)(hi:(P.info? ty).map (·.size)=de 1):
  (storeVar ty (b,o) (c,0)).run P w= .ok () (w.setCell (b,o) (c,0)):=by
 have h1:=run_storeCells_cells (P:=P) b o [(c,0)] 0 w (λj hj=>by
  obtain rfl:j=0:=by simpa using hj
  show(w.cell? (b,o+(0+0))).isSome=dE;rw[fI,hc];rfl) (λj hj=>by
  obtain rfl:j=0:=by simpa using hj
  show w.frozen? (b,o+(0+0))=dT;rw[fI,hf]) (λv hv=>by rw[cL.1 hv];rfl)
 cases hq:P.info? ty with
 |none=>simp[hq]at hi
 |some i=>
  have hs:i.size=1:=by simpa[hq]using hi
  have e:(Value.pointer (de ⟨c,0,dl⟩)).cells=#[.pointer (de ⟨c,0,dl⟩)]:=rfl;simp only[fI]at h1;simp[storeVar,sizeOf,typeInfo,hq,e,hs,h1];rfl
theorem ev.set{hH:bI}{tg:Nat×Nat}{t:TypeId}{W:ax}{b off n cap:Nat}{cs:List bd}(h:ev hH tg t 1 W (.slice (b,off) n cap) n cs){i:Nat}(hi:i<n)(v:bd):ev hH tg t 1 (W.setCell (b,off+i) v) (.slice (b,off) n cap) n (cs.set i v):=by
 obtain⟨h1,h2⟩:=h;refine⟨by rw[cD];exact h1,?_⟩;rcases h2 with⟨h2,h3⟩|⟨b2,k,g,c,h2,h3,h4,h5,h6,d,f⟩
 ·omega
 ·injection h2 with e1 e2 e3;injection e1 with e1;injection e1 with e1 a;subst e1 e3 a;refine .inr ⟨b,off,cap,c.setIfInBounds (off+i) v,rfl,h3,h4,h5,aB h6 v,by simpa using d,λj hj=>?_⟩;rw[cD]at hj;by_cases e:j=i
  ·subst e;rw[vC (by omega),List.getElem?_set_self hj]
  ·rw[cV (by omega),List.getElem?_set_ne (λh=>e h.symm)];exact f j hj
theorem dB.CW{hH:bI}{W d:ax}{x i:Nat}{G:Gh}{M:aT}(h:dB hH W x G M)(hi:i<5)(l:dd W.heap.size W d){b k f ro C:Nat}{dv v:bd}{D:List UInt8}{iZ:Int}{A:eL}{up:Bool}(L:G.nodes= .slice (f,ro) 5 C)(O:f<W.heap.size)(K:hH f=(5,1))(hb:W.heap.size<=b)(hk:W.heap.size<=k)(E:b≠k)
  (z:d.heap[b]?=de (.cells (aN i (mG b k dv v) (dZ.blank up D iZ A)).toArray 87 (0,0)))(hkn:dO d k [])(hd:AL hH W dv D)(hv:dG hH W v A.l):
  ∃c y,dB c (d.setCell (f,ro+i) (b,0)) x y (M.aX i (dZ.blank up D iZ A))/\(y.n i).b=b/\cG hH W c (d.setCell (f,ro+i) (b,0)) (λt=>t.1<6):=by
 obtain⟨p,g⟩:=aK (d.setCell (f,ro+i) (b,0));obtain⟨c,ho⟩:∃o:bI,o=λq=>if q=b then(i,0)else if q=k then(i,1)else hH q:=⟨_,rfl⟩
 have P:=hF z;have Q:k<d.heap.size:=by obtain⟨es,ck,h1,-⟩:=hkn;exact hF h1
 have B:p.heap.size=d.heap.size:=by rw[g];simp[World.setCell]
 have u:∀q,q≠f->p.heap[q]?=d.heap[q]?:=λq hq=>by rw[g];exact aA _ _ (λe=>hq e)
 have a:cG hH W c p (·=(5,1)):=by
  refine⟨by rw[g];exact l.os,by rw[g];exact l.tape,by rw[g];exact l.output,by rw[B];exact l.size,λq hq s=>?_,λq hq=>?_⟩
  ·exact(u q (λe=>s (by rw[e];exact K))).t (l.block q hq)
  ·rw[ho];dsimp only;rw[ak (by omega),ak (by omega)]
 have r:Fair (·=(5,1)):=λt w e=>by rw[w]at e;cases e
 have s:∀j m,j<5->¬(j,m)=((5,1):Nat×Nat):=λj m hj e=>by injection e with e _;omega
 have I:c b=(i,0):=by rw[ho];dsimp only;rw[if_pos rfl]
 have J:c k=(i,1):=by rw[ho];dsimp only;rw[if_neg (λe=>E e.symm),if_pos rfl]
 have N:ev c (5,1) 69 1 p G.nodes 5 (((List.range 5).map λj=>ptr (G.n j).b).set i (b,0)):=by
  have h1:=h.nodes;rw[L]at h1|-;have h2:ev c (5,1) 69 1 d (.slice (f,ro) 5 C) 5 ((List.range 5).map λj=>ptr (G.n j).b):=h1.stay (λq hq _=>l.block q hq) a.marks;rw[g];exact h2.set hi _
 refine⟨c,{G with n:=λj=>if j=i then mG b k dv v else G.n j},?_,by show(if i=i then mG b k dv v else G.n i).b=b;rw[ar rfl];rfl,?_⟩
 ·rw[<-g];refine⟨a.at h.dM (by rw[h.tw];intro e;cases e),(a.mark h.dM).t h.tw,?_,h.cz.cB a r (by intro e;cases e),h.told.cB a (by intro e;cases e),λj hj=>?_,λq hq=>?_,Kn.cB h.kn a r,Nd.cB h.ne a r⟩
  ·have e:(((List.range 5).map λj=>ptr (G.n j).b).set i (b,0))=(List.range 5).map λj=>ptr (if j=i then mG b k dv v else G.n j).b:=by
    have hc:i=0\/i=1\/i=2\/i=3\/i=4:=by omega
    rcases hc with rfl|rfl|rfl|rfl|rfl<;>rfl
   show ev c (5,1) 69 1 p G.nodes 5 ((List.range 5).map λj=>ptr (if j=i then mG b k dv v else G.n j).b);rw[<-e];exact N
  ·show yD c p x j (if j=i then mG b k dv v else G.n j) ((M.aX i (dZ.blank up D iZ A)).nd j);by_cases e:j=i
   ·subst e;rw[ar rfl,bf];have F:b≠f:=by omega
    have H:k≠f:=by omega
    exact⟨(u b F).t z,I,⟨dA.sR,dO.other hkn (u k H),J,hd.cB a r,hv.cB a r,ev.nil _ _ _ _ _,ev.nil _ _ _ _ _,ev.nil _ _ _ _ _,⟨[],rfl,ev.nil _ _ _ _ _,λj hj=>absurd hj (by simp[dZ.blank])⟩,trivial,eO.nil rfl rfl⟩⟩
   ·rw[ak e,iB M _ e];exact(h.nd j hj).cB a r (λm=>s j m hj)
  ·rw[B]at hq;rw[ho];dsimp only;rw[ak (by omega),ak (by omega)];exact h.hi q (aE l.size hq)
 ·rw[<-g];exact a.m (λt w=>by rw[w];decide)
set_option maxHeartbeats 1000000
def yO(a:bd):List bd:=[a,.slice dl 0 0,(0:Int),.bool dT,.bool dT,.bool dT,.bool dT,.bool dT,.slice dl 0 0,(0:Int),(0:Int),(0:Int),(0:Int),(0:Int),.slice dl 0 0]
structure Cu(W:ax)(hH:bI)(wb m:Nat)(na:Option Addr)(nc:Nat)(w:ax):Prop where
 dM:w.heap[wb]?=de (.cells (yO (.slice na m nc)).toArray 68 (0,0))
 tw:hH wb=(5,0)
 hi:∀q,w.heap.size<=q->hH q=(6,0)
 base:∀q,q<W.heap.size->hH q=(6,0)
 kj:dd W.heap.size W w
 On:∃gs:Nat->GN,ev hH (5,1) 69 1 w (.slice na m nc) m ((List.range m).map λj=>ptr (gs j).b)/\∀j,j<m->yD hH w wb j (gs j) (dZ.blank dE [] 0 eL.zero)
structure ms(hH:bI)(w0:ax)(wb m:Nat)(na:Option Addr)(nc:Nat)(j:Nat)(v0 v1 v2:bd)(w:ax):Prop where
 IZ:w.heap[wb]?=de (.cells (yO (.slice na m nc)).toArray 68 (0,0))
 lt:j<=2->dd w0.heap.size w0 w
 new:1<=j->∃b k,v0= .pointer (de ⟨b,0,dl⟩)/\w0.heap.size<=b/\w0.heap.size<=k/\b≠k/\w.heap[b]?=de (.cells (aN m (mG b k (.slice dl 0 0) (.slice dl 0 0)) (dZ.blank dE [] 0 eL.zero)).toArray 87 (0,0))/\dO w k []/\
  (3<=j->∃hO va vn vc,v2= .slice va vn vc/\(∃gs:Nat->GN,(∀j,j<m->yD hH w0 wb j (gs j) (dZ.blank dE [] 0 eL.zero))/\ev hO (5,1) 69 1 w (.slice va vn vc) (m+1) (((List.range m).map λj=>ptr (gs j).b)++[.pointer (de ⟨b,0,dl⟩)]))/\cG hH w0 hO w (·=(5,1))/\hO b=(m,0)/\hO k=(m,1)/\∀q,w.heap.size<=q->hO q=(6,0))
 one:2<=j->∃lb,v1= .slice (de ⟨lb,0,dl⟩) 1 1/\(j=2->w.heap[lb]?=de (.cells #[v0] 69 (0,0)))
theorem ms.start{W w0 w:ax}{hH:bI}{wb m:Nat}{na:Option Addr}{nc:Nat}{v0 v1 v2:bd}(h:Cu W hH wb m na nc w0)(hb:dd w0.heap.size w0 w):ms hH w0 wb m na nc 0 v0 v1 v2 w:=
 ⟨(hb.block wb (hF h.dM)).t h.dM,λ_=>hb,λe=>absurd e (by decide),λe=>absurd e (by decide)⟩
section
variable{hH:bI}{w0 w:ax}{wb m:Nat}{na:Option Addr}{nc j:Nat}{v0 v1 v2:bd}
theorem ms.Ov(h:ms hH w0 wb m na nc 1 v0 v1 v2 w):∃b,v0= .pointer (de ⟨b,0,dl⟩):=by
 obtain⟨b,k,e,-⟩:=h.new (by decide);exact⟨b,e⟩
theorem ms.row(h:ms hH w0 wb m na nc 2 v0 v1 v2 w):∃b j,v0= .pointer (de ⟨b,0,dl⟩)/\v1= .slice (de ⟨j,0,dl⟩) 1 1:=by
 obtain⟨b,k,e,-⟩:=h.new (by decide);obtain⟨j,e2,-⟩:=h.one (by decide);exact⟨b,j,e,e2⟩
theorem ms.NL(h:ms hH w0 wb m na nc 3 v0 v1 v2 w):∃j n l,v2= .slice j n l:=by
 obtain⟨b,k,-,-,-,-,-,-,h3⟩:=h.new (by decide);obtain⟨r,j,n,l,e,-⟩:=h3 (by decide);exact⟨j,n,l,e⟩
theorem ms.call{a:Act}{tt:Option Tmp}{j:Nat->bd}{e:Ending}{n:ax}(h:ms hH w0 wb m na nc 0 (j 8) (j 9) (j 10) w)(u:∃b k,e= .returned (b,0)/\dd w.heap.size w n/\w.heap.size<=b/\w.heap.size<=k/\b≠k/\
   n.heap[b]?=de (.cells (aN m (mG b k (.slice dl 0 0) (.slice dl 0 0)) (dZ.blank dE [] 0 ⟨(0,0),[]⟩)).toArray 87 (0,0))/\dO n k []):
  ∃v,e= .returned v/\∃l,a.put tt v=a.put tt l/\ms hH w0 wb m na nc (0+1) ((λi=>if i=8 then l else j i) 8) ((λi=>if i=8 then l else j i) 9) ((λi=>if i=8 then l else j i) 10) n:=by
 obtain⟨b,k,rfl,r,y,z,B,C,D⟩:=u;have hb:=h.lt (by decide);exact⟨_,rfl,_,rfl,⟨(r.block wb (hF h.IZ)).t h.IZ,λ_=>hb.t (r.m hb.size),λ_=>⟨b,k,ar rfl,aE hb.size y,aE hb.size z,B,C,D,λe=>absurd e (by decide)⟩,λe=>absurd e (by decide)⟩⟩
theorem ms.lit{j:Nat->bd}{b:Nat}(h:ms hH w0 wb m na nc 1 (j 8) (j 9) (j 10) w)(hv:j 8= (b,0)):
  ms hH w0 wb m na nc (1+1) ((λi=>if i=9 then(.slice (w.heap.size,0) 1 1:bd)else j i) 8) ((λi=>if i=9 then(.slice (w.heap.size,0) 1 1:bd)else j i) 9) ((λi=>if i=9 then(.slice (w.heap.size,0) 1 1:bd)else j i) 10) (w.alloc (.cells #[(b,0)] 69 (0,0))):=by
 have hb:=h.lt (by decide);obtain⟨l,k,e,y,z,B,n,r,-⟩:=h.new (by decide);have u:=hF n;refine⟨(eF w _ wb (hF h.IZ)).t h.IZ,λ_=>hb.alloc hb.size _,λ_=>⟨l,k,e,y,z,B,(eF w _ l u).t n,dO.other r (by
  obtain⟨es,ck,h1,-⟩:=r;exact eF w _ k (hF h1)),λe=>absurd e (by decide)⟩,λ_=>⟨w.heap.size,ar rfl,λ_=>?_⟩⟩
 have e2:(λi=>if i=9 then(.slice (w.heap.size,0) 1 1:bd)else j i) 8= (b,0):=hv;rw[e2];exact aL w _
theorem LW:(prog.info? 69).map (λi=>(i.zero,i.size,i.bytes))=de (de (.pointer dl),1,8):=by kernel_rfl
theorem ms.Lh{W:ax}{l:Nat->bd}{ops:Array Oper}{Q:Exit->Act->ax->Prop}{a:Act}{i b z:Nat}{o:Oper}{tt:Option Tmp}(h:ms hH w0 wb m na nc 2 (l 8) (l 9) (l 10) w)(a0:m<5)(hS:Cu W hH wb m na nc w0)(hv:l 8= (b,0))(hl:l 9= .slice (z,0) 1 1)
  (hi:ops[i]?=de o)(hg:o.guard=dl)(s x:Operand)(ho:o.op= .call {callee:= .builtin .append,args:=#[s,x],argTypes:=#[65,65]}/\o.dst=tt)(hs:a.eval s= .slice na m nc)(hx:a.eval x= .slice (z,0) 1 1):
  wpOp ed ops Q i (λa' w'=>∃j,a'=a.put tt j/\ms hH w0 wb m na nc (2+1) ((λi=>if i=10 then j else l i) 8) ((λi=>if i=10 then j else l i) 9) ((λi=>if i=10 then j else l i) 10) w') a w:=by
 obtain⟨b',k,e,X,Y,G,I,J,-⟩:=h.new (by decide);rw[hv]at e;injection e with e;injection e with e;injection e with e;subst e;obtain⟨a1,e,r⟩:=h.one (by decide);rw[hl]at e;injection e with e;injection e with e;injection e with e;subst e;have r:=r rfl;rw[hv]at r;have hb:=h.lt (by decide);obtain⟨n,y⟩:∃o:bI,o=λq=>if q=b then(m,0)else if q=k then(m,1)else hH q:=⟨_,rfl⟩
 have T:=hF I;have U:k<w.heap.size:=by obtain⟨es,ck,h1,-⟩:=J;exact hF h1
 have D:∀q,q<w0.heap.size->n q=hH q:=λq hq=>by
  rw[y];dsimp only;rw[ak (by omega),ak (by omega)]
 have k1:cG hH w0 n w (λ_=>False):=⟨hb.os,hb.tape,hb.output,hb.size,λq hq _=>hb.block q hq,D⟩
 obtain⟨gs,O,N⟩:=hS.On;obtain⟨i',M,B,R,L⟩:=gD LW;obtain⟨j,C,V,hr,h2,h3,h4⟩:=nt (P:=ed) (O.cB k1 id) Tryz.underlying65 M B R L rfl (by decide) z [(b,0)] rfl r (λu hu=>by rw[List.mem_singleton.1 hu];rfl) (by unfold maxLen;omega) (by omega) o.type;obtain⟨Z,vc,E,-⟩:=h2.shape;refine nN hi hg ?_;have hK:(λa' w'=>∃j,a'=a.put tt j/\ms hH w0 wb m na nc (2+1) ((λi=>if i=10 then j else l i) 8) ((λi=>if i=10 then j else l i) 9) ((λi=>if i=10 then j else l i) 10) w') (a.put o.dst j) C:=by
  have S:n wb=(5,0):=by rw[D wb (hF hS.dM)];exact hS.tw
  have F:n b=(m,0):=by rw[y];dsimp only;rw[if_pos rfl]
  have ok:n k=(m,1):=by rw[y];dsimp only;rw[if_neg (λe=>G e.symm),if_pos rfl]
  refine⟨j,by rw[ho.2],⟨h3.at h.IZ (by rw[S];intro e;cases e),λe=>absurd e (by decide),λ_=>⟨b,k,hv,X,Y,G,h3.at I (by rw[F];intro e;injection e with e _;omega),J.cB h3 (by rw[ok];intro e;injection e with e _;omega),λ_=>⟨V,Z,_,vc,(ar rfl).t E,⟨gs,N,by rw[<-E];exact h2⟩,(k1.m (λ_ e=>e.elim)).t h3,(h3.marks b T).t F,(h3.marks k U).t ok,λq hq=>?_⟩⟩,λ_=>⟨z,hl,λe=>absurd e (by decide)⟩⟩⟩;rw[h4 q hq];have:=h3.size;rw[y];dsimp only;rw[ak (by omega),ak (by omega)];exact hS.hi q (by have:=hb.size;omega)
 have B:=gJ (P:=ed) (Q:=Q) (K:=(λa' w'=>∃j,a'=a.put tt j/\ms hH w0 wb m na nc (2+1) ((λi=>if i=10 then j else l i) 8) ((λi=>if i=10 then j else l i) 9) ((λi=>if i=10 then j else l i) 10) w')) (a:=a) (o:=o) w s x 65 65 ho.1 _ _ hs hx j C hr hK;exact B
theorem ms.next{W:ax}{v0 v1:bd}{u:Option Addr}{F y:Nat}(h:ms hH w0 wb m na nc 3 v0 v1 v2 w)(hS:Cu W hH wb m na nc w0)(Y:m<5)(hv:v2= .slice u F y):
  Hid (∃n Q R,Cu W n wb (m+1) Q R (w.setCell (wb,0) (.slice u F y))):=by
 obtain⟨b,k,X,q2,q3,q4,S,T,h3⟩:=h.new (by decide);obtain⟨n,a0,a2,a1,e,⟨gs,N,C⟩,l,D,ok,M⟩:=h3 (by decide);rw[hv]at e;injection e with e1 e2 e3;subst e1 e2 e3;obtain⟨U,V,I,-⟩:=C.shape;injection I with e1 e2 e3;subst e1 e2 e3;have P:=hF hS.dM;have E:n wb=(5,0):=by rw[l.marks wb P];exact hS.tw
 obtain⟨G,r⟩:=aK (w.setCell (wb,0) (.slice u (m+1) y));have Z:G.heap.size=w.heap.size:=by rw[r];simp[World.setCell]
 have k2:cG n w n G (·=(5,0)):=⟨by rw[r];rfl,by rw[r];rfl,by rw[r];rfl,by omega,λq hq O=>by rw[r];exact aA _ _ (λe=>O (by rw[e];exact E)),λ_ _=>rfl⟩
 have K:Fair (·=(5,1)):=λt B e=>by rw[B]at e;cases e
 have L:Fair (·=(5,0)):=λt B e=>by rw[B]at e;cases e
 refine ae ⟨n,u,y,?_⟩;rw[<-r];refine⟨by rw[r,aB h.IZ];rfl,E,λq hq=>M q (by omega),λq hq=>by rw[l.marks q (ai hq hS.kj.size)];exact hS.base q hq,?_,λj=>if j=m then mG b k (.slice dl 0 0) (.slice dl 0 0)else gs j,?_,λj hj=>?_⟩
 ·refine⟨k2.os.t (l.os.t hS.kj.os),k2.tape.t (l.tape.t hS.kj.tape),k2.output.t (l.output.t hS.kj.output),aE hS.kj.size (aE l.size k2.size),λq hq=>?_⟩;have z:=ai hq hS.kj.size;have h6:hH q=(6,0):=hS.base q hq;have J:n q=(6,0):=by rw[l.marks q z];exact h6
  exact(k2.block q (ai z l.size) (by rw[J];intro e;cases e)).t ((l.block q z (by rw[h6];intro e;cases e)).t (hS.kj.block q hq))
 ·have e:((List.range m).map λj=>ptr (gs j).b)++[.pointer (de ⟨b,0,dl⟩)]=(List.range (m+1)).map λj=>ptr (if j=m then mG b k (.slice dl 0 0) (.slice dl 0 0)else gs j).b:=by
   rw[ly,du];congr 1
   ·apply kJ;intro j hj;rw[ak (by have:=bj.1 hj;omega)]
   ·show _=[ptr (if m=m then _ else _:GN).b]
    rw[ar rfl];rfl
  rw[<-e];exact C.cB k2 (by intro e;cases e)
 ·dsimp only;by_cases e:j=m
  ·subst e;rw[ar rfl];refine⟨k2.at S (by show¬n b=(5,0);rw[D];intro e;injection e with e _;omega),D,⟨dA.sR,T.cB k2 (by rw[ok];intro e;injection e with e _;omega),ok,⟨⟨dl,0,rfl,ag _,bX _,λ_=>rfl,λh=>(h rfl).elim⟩,λh=>(h rfl).elim⟩,jm _ _,ev.nil _ _ _ _ _,ev.nil _ _ _ _ _,ev.nil _ _ _ _ _,⟨[],rfl,ev.nil _ _ _ _ _,λj hj=>absurd hj (by simp[dZ.blank])⟩,trivial,eO.nil rfl rfl⟩⟩
  ·rw[ak e];exact((N j (by omega)).cB l K (λq e=>by injection e with e _;omega)).cB k2 L (λq e=>by injection e with e _;omega)
end
theorem Gr(W:ax)(hk:Kn W)(O:Nd W):
  bl ed 20 #[] W λe N=>∃wb hH G,e= .returned (wb,0)/\dB hH N wb G aT.zero/\dd W.heap.size W N/\∀q,q<W.heap.size->hH q=(6,0):=by
 have J:=ae hk;have K:=ae O;clear hk O;go_enter func20,ntmps20
 go_upto_region 2 with fail
 generalize B:World.alloc _ _=X;obtain⟨wb,R⟩:=aK W.heap.size;have I:Cu W (λq=>if q=W.heap.size then(5,0)else(6,0)) W.heap.size 0 dl 0 X:=by
  refine⟨by rw[<-B];exact aL W _,ar rfl,λq hq=>ak ?_,λq hq=>ak (by omega),by rw[<-B];exact(aj _ _).alloc (ag _) _,λ_=>mG 0 0 (.slice dl 0 0) (.slice dl 0 0),ev.nil _ _ _ _ _,λj hj=>absurd hj (by omega)⟩;rw[<-B,cp]at hq;omega
 rw[<-R]at I|-;have M:=ae (show∃hH na nc,Cu W hH wb 0 na nc X from⟨_,_,_,I⟩);clear B R I;go_wp2_with fail
 go_loopg [5] 5 (λk s5 wr=>∃m:Nat,m+k=5/\s5= .int .i64 m/\Hid (∃hH na nc,Cu W hH wb m na nc wr))
 case atStart=>exact⟨0,rfl,rfl,M⟩
 case round=>
  clear M;obtain⟨m,hmk,rfl,L⟩:=hrel;obtain⟨w0,rfl⟩:=aK wr;obtain⟨hH,na,nc,D⟩:=L.o;have n:=ae D;clear L;by_cases h5:¬(m:Int)<5
  ·have C:m=5:=by omega
   subst C;clear h5 D hmk;go_wp2_with fail
   refine aH (v:= (wb,0)) (by simp[results,Tryz.results20,go_sem]) rfl ?_;obtain⟨gs,hr,hn⟩:=n.o.On;have hg:∀b,b<W.heap.size->(hH b).1=6:=λb hb=>by rw[n.o.base b hb]
   exact⟨wb,hH,⟨.slice na 5 nc,.slice dl 0 0,.slice dl 0 0,gs⟩,rfl,⟨n.o.dM,n.o.tw,hr,⟨[],rfl,ev.nil _ _ _ _ _,λj hj=>absurd hj (by simp[aT.zero])⟩,ev.nil _ _ _ _ _,λi hi=>hn i hi,λq hq=>by rw[n.o.hi q hq],⟨J.o.stay n.o.kj,hg _ J.o.lt⟩,⟨K.o.stay n.o.kj,hg _ K.o.lt⟩⟩,n.o.kj,n.o.base⟩
  ·replace h5:=cN h5;have C:m<5:=by omega
   obtain⟨g,hg⟩:∃g,gk=g+1:=⟨gk-1,by omega⟩
   have c0:=ej D.dM 0 rfl;clear D c0;go_upto_region 5 with fail
   refine bh (by kernel_rfl) (λw5 hb5=>?_);have Y:=ae hb5;clear hb5;refine jC (λr=>[RK.val (.pointer (de ⟨wb,0,dl⟩)),.val (.pointer (de ⟨wb,0,dl⟩)),.val (.pointer (de ⟨wb,0,dl⟩)),.val (.pointer (de ⟨wb,0,dl⟩)),.val (.slice na m nc),.val (.int .i64 (m:Int)),.val (.agg #[.slice dl 0 0,.int .i64 0]),.val (.agg #[.int .i64 0,.int .i64 0,.slice dl 0 0]),.val (r 8),.val (r 9),.val (r 10),.val (.pointer (de ⟨wb,0,dl⟩)),.val (.pointer (de ⟨wb,0,dl⟩))]) [8,9,10,11,12,13,14,15,16,17,18,19,20] [8,9,10] (λS r z=>ms hH w0 wb m na nc S (r 8) (r 9) (r 10) z) (λ_=>by kernel_rfl) (λ_ _=>by repeat first|exact .nil|refine .same ?_|refine .AK (by kernel_rfl) ?_) (λ_=>rfl) (λS r z a2 l=>?_) ?_ ?_ ?_
   ·have a0:=l.IZ;iterate 4 refine .run (by kernel_rfl) ?_
    refine jh (ej a0 0 rfl) (by kernel_rfl) ?_;iterate 3 refine .run (by kernel_rfl) ?_
    refine .skip ?_;refine .skip ?_;refine .skip ?_;iterate 2 refine .run (by kernel_rfl) ?_
    exact .nil
   ·intro t r z a Q l u;replace Q:t<3:=Q;have hc:t=0\/t=1\/t=2:=by omega
    rcases hc with rfl|rfl|rfl
    ·skip;subst u;refine mK rfl rfl (by kernel_rfl) ((rF m dl dl 0 0 0 0 0 0 0 [] [] z).m λe w8 F=>?_);exact l.call F
    ·skip;obtain⟨E,y⟩:=l.Ov;have u0:a.eval (.tmp 16)= .pointer (de ⟨E,0,dl⟩):=(tE u (by kernel_rfl)).t y;rw[gm]at u0;refine jK rfl rfl (.slice (de ⟨z.heap.size,0,dl⟩) 1 1) (w':=z.alloc (.cells #[.pointer (de ⟨E,0,dl⟩)] 69 (0,0))) ?_ ⟨_,rfl,l.lit y⟩;simp[execOp,go_sem,u0]
     <;>rfl
    ·skip;obtain⟨E,a1,y,P⟩:=l.row;have u0:a.eval (.tmp 12)= .slice na m nc:=tE u (by kernel_rfl);have u1:a.eval (.tmp 17)= .slice (a1,0) 1 1:=(tE u (by kernel_rfl)).t P;exact l.Lh C n.o y P rfl rfl (.tmp 12) (.tmp 17) ⟨rfl,rfl⟩ u0 u1
   ·intro r z a l u;obtain⟨T,V,U,y⟩:=l.NL;have e1:a.eval (.tmp 20)= (wb,0):=tE u (by kernel_rfl);have e2:a.eval (.tmp 18)= .slice T V U:=(tE u (by kernel_rfl)).t y;refine fh (λa8 w8 F=>?_) (kq rfl rfl rfl 65 (.tmp 20) (.tmp 18) rfl e1 e2 (iG T V U (ej l.IZ 0 rfl) (aO l.IZ 0) (by kernel_rfl)));obtain⟨rfl,rfl⟩:=F;have Z:=ae (l.next n.o C y);subst u;clear e1 e2 l;simp only[eS,Act.put,aq,aF,aG];go_wp2_with fail
    go_roundg g
    ·exact⟨m+1,by omega,by go_num,Z⟩
    ·omega
   ·exact ms.start n.o Y.o
end Go.Proofs.YtcdmenphjilnnaaGreatDoor
