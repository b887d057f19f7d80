/-
  Parts of the proofs of the laws of the whole (what the functions compute, and plain laws of it); no conditions.
-/
import Derived.Test.YtcdmenphjilnnaaGreatDoorM28
import Derived.Test.YtcdmenphjilnnaaGreatDoorM29
set_option linter.unusedVariables false
set_option linter.unusedSimpArgs false
set_option maxRecDepth 100000
set_option maxHeartbeats 1000000
open Go.Proofs.Tryz
open Go renaming World->ax,Value->bd,Calls->bl
open Go.RowKit renaming Below->dd
open Option renaming some->de,none->dl
open Bool renaming true->dE,false->dT
open Go.Proofs.Tryz renaming prog->ed
namespace Go.Proofs.YtcdmenphjilnnaaGreatDoor
open Go.RowKit Go.Con
set_option maxHeartbeats 400000
structure Dw(k n a p:Int)(len:Nat):Prop where
 n:0<=n/\n<5
 a:0<=a/\a<=1048576
 p:0<=p/\p<=100000
 len:len<=2000
theorem qR{k n a p:Int}{len:Nat}(hk:1<=k/\k<=9)(h:kH k n a p len=0):Dw k n a p len:=by
 have hc:k=1\/k=2\/k=3\/k=4\/k=5\/k=6\/k=7\/k=8\/k=9:=by omega
 rcases hc with rfl|rfl|rfl|rfl|rfl|rfl|rfl|rfl|rfl;all_goals (
  simp[kH,slotsOf,nP,fP]at h;constructor<;>omega)
def Kk(k n a p:Int)(D:List UInt8):AF:=⟨k,n,a,p,iD D⟩
theorem Mb{L:List bk}{S:eN}{hH:bI}{W:ax}{u:Nat}{G:Gh}{M:aT}(E:Fits (·∈L))(v:eh (·∈L) S M)(h:dB hH W u G M)(k n a p:Int)(D:List UInt8)(dv:bd)(hd:Rd W dv D)(hk:1<=k/\k<=9)(o:Dw k n a p D.length)
  (hl:M.cU+300+L.length<1000000000000)(z:M.answers<1000000000000)(h5:M.bad.length=5)(F:∀i,0<=M.bad.getD i 0/\M.bad.getD i 0<1000000000000):
  bl ed 21 #[ptr u,.agg #[k,n,a,p,dv]] W λe x=>e= .returned (.tuple #[])/\ir hH W u (M.act (Kk k n a p D)) x:=by
 obtain⟨f,g,rfl,H,I⟩:=id hd.slice;obtain⟨i,hi⟩:∃i:Nat,n=(i:Int):=⟨n.toNat,by have:=o.n;omega⟩
 have b:i<5:=by have:=o.n;omega
 have m:=v.nd i b;have hq:=nB m.ja.1 m.ja.2;have hw:=sY (λj=>(M.nd j).wait.length) b;have A:∀j,j<5->(M.nd j).inbox.length+M.cz.length<1000000000000:=λj hj=>by
  have h1:=sY (λj=>(M.nd j).inbox.length) hj;unfold aT.cU at hl;omega
 have K:M.told.length+(M.nd i).wait.length<1000000000000:=by
  unfold aT.answers at z;omega
 have hfl:M.cz.length<1000000000000:=by unfold aT.cU at hl;omega
 have t:n.toNat=i:=by omega
 have pick:∀c s,aT.act M (Kk k n a p D)=M.iC a.toNat c s->∀w,dd W.heap.size W w->bl ed 33 #[ptr u,a,.bool c,.bool s] w λe x=>e= .returned (.tuple #[])/\ir hH w u (M.act (Kk k n a p D)) x:=λc s e w hb=>by
  obtain⟨q,hq⟩:∃q:Nat,a=(q:Int):=⟨a.toNat,by have:=o.a;omega⟩
  rw[e,show a.toNat=q by omega,hq];by_cases y:M.cz=[]
  ·exact kB (Eg (h.below hb) q c s y) λC w' r=>⟨r.1,r.2.oO⟩
  ·have hlt:q%M.cz.length<M.cz.length:=fm _ (dw.2 y);have J:=(v.cz _ (oX (d:=dK.zero) hlt)).dst;obtain⟨j,hj⟩:∃j:Nat,(M.cz.getD (q%M.cz.length) dK.zero).dst=(j:Int):=⟨(M.cz.getD (q%M.cz.length) dK.zero).dst.toNat,by omega⟩
   have B:j<5:=by omega
   exact kB (Ef (h.below hb) q (by have:=o.a;omega) c s y hfl B hj (by have:=A j B;omega)) λC w' r=>⟨r.1,r.2.oO⟩
 have hc:k=1\/k=2\/k=3\/k=4\/k=5\/k=6\/k=7\/k=8\/k=9:=by omega
 rcases hc with rfl|rfl|rfl|rfl|rfl|rfl|rfl|rfl|rfl
 ·have e:M.act (Kk 1 n a p D)=M.fQ i (iD D ((M.nd i).log.length:Int)):=by
   show M.fQ n.toNat (iD D ((M.nd n.toNat).log.length:Int))=_;rw[t]
  rw[e,hi];exact EG h b a p f D.length g (λw hb=>AS (h.below hb) b _ D (hd.stay hb) o.len h5 (F i) (by omega) (by omega) (by omega))
 ·have e:M.act (Kk 2 n a p D)=M.lead i:=by
   show M.lead n.toNat=_;rw[t]
  rw[e,hi];exact JX h b a p f D.length g (λw hb=>GJ (h.below hb) b m.LO)
 ·have e:M.act (Kk 3 n a p D)=M.step i:=by
   show M.step n.toNat=_;rw[t]
  rw[e,hi];exact JV h b a p f D.length g (λw hb=>FM E v (h.below hb) b hl z)
 ·exact Hl (G:=G) (M:=M) n a p f D.length g (pick dE dT rfl)
 ·exact JW (G:=G) (M:=M) n a p f D.length g (pick dT dT rfl)
 ·exact EJ (G:=G) (M:=M) n a p f D.length g (pick dE dE rfl)
 ·exact Mc h n a p f D.length g (λl hl=>(v.cz l hl).dst) A
 ·have e:M.act (Kk 8 n a p D)=M.jT i p.toNat:=by
   show M.jT n.toNat p.toNat=_;rw[t]
  rw[e,hi];cases hu:(M.nd i).up with
  |false=>exact EL h b a p f D.length g hu
  |true=>exact EK h b a p f D.length g hu m.rO.1 m.rO.2 m.len o.p.1 (by have:=o.p;omega)
 ·have e:M.act (Kk 9 n a p D)=M.start i:=by
   show M.start n.toNat=_;rw[t]
  rw[e,hi];cases hu:(M.nd i).up with
  |true=>exact EI h b a p f D.length g hu
  |false=>exact EH h b a p f D.length g hu m.rO.1 m.rO.2 m.len
theorem Bo{b:UInt8}{P:List UInt8}{n m:Int}(h:(jb b P n).2=0)(a:(jb b P m).2=0):(jb b P n).1=(jb b P m).1:=by
 unfold jb at h a|-;split
 ·rfl
 ·rename_i e;rw[ak e]at h a;split
  ·rfl
  ·rename_i e;rw[ak e]at h a;split
   ·rfl
   ·rename_i e;rw[ak e]at h a;split
    ·rfl
    ·rename_i e;rw[ak e]at h a;dsimp only at h a|-;unfold kF;rw[ar h,ar a]
theorem Bp{D:List UInt8}{n m:Int}(h:(iD D n).2=0)(a:(iD D m).2=0):(iD D n).1=(iD D m).1:=by
 cases D with
 |nil=>rfl
 |cons b R=>
  unfold iD at h a|-;dsimp only at h a|-;split
  ·rfl
  ·rename_i e;rw[ak e]at h a;split
   ·rfl
   ·rename_i e;rw[ak e]at h a;split
    ·rfl
    ·rename_i e;rw[ak e]at h a;split
     ·rfl
     ·rename_i e;rw[ak e]at h a;exact Bo h a
open Classical in
noncomputable def Ie(D:List UInt8):bk:=if h:∃now,(iD D now).2=0 then(iD D h.choose).1 else bk.zero
theorem Kc{D:List UInt8}{now:Int}(h:(iD D now).2=0):(iD D now).1=Ie D:=by
 have he:∃now,(iD D now).2=0:=⟨now,h⟩
 unfold Ie;rw[dif_pos he];exact Bp h he.choose_spec
theorem Ic(D:List UInt8):cS (Ie D)=0:=by
 unfold Ie;split
 ·rename_i h;exact zx h.choose_spec
 ·decide
noncomputable def xg(l:List mE):List bk:=bk.zero::l.map λx=>Ie x.d
theorem EP(l:List mE):(xg l).length=l.length+1:=by unfold xg;simp
theorem pY(l:List mE):Fits (·∈xg l):=⟨bO ..,λc hc=>by
 rcases dF.1 hc with rfl|hc
 ·decide
 ·obtain⟨x,hx,rfl⟩:=cH.1 hc;exact Ic _⟩
def Mj(x:mE):AF:=Kk x.k x.n x.a x.p x.d
def ow(l:List mE):aT:=pS (l.map Mj)
theorem Mi{Q:bk->Prop}{x:mE}(h:x.Ok)(hq:∀now,(iD x.d now).2=0->Q (iD x.d now).1):oq Q (Mj x):=by
 have a:=qR ⟨h.k1,h.k9⟩ h.code;exact⟨⟨h.k1,h.k9⟩,a.n,a.p.1,a.a.1,hq⟩
theorem Dk{l:List mE}{x:mE}(h:x.Ok)(hx:x∈l):oq (·∈xg l) (Mj x):=Mi h λnow a=>by
 rw[Kc a];exact bw _ (cH.2 ⟨x,hx,rfl⟩)
theorem As{L:List bk}(d:Fits (·∈L)):∀(l:List AF) {S:eN} {M:aT},eh (·∈L) S M->(∀a∈l,oq (·∈L) a)->M.bad.length=5->(l.foldl aT.act M).bad.length=5/\∀n,n<5->M.bad.getD n 0<=(l.foldl aT.act M).bad.getD n 0/\(l.foldl aT.act M).bad.getD n 0<=M.bad.getD n 0+l.length
 |[],S,M,h,c,h5=>⟨h5,λn f=>⟨jZ _,by simp⟩⟩
 |a::l,S,M,h,c,h5=>by
  have hg:=Fk d h (c a (bO ..)) h5;obtain⟨T,-,g⟩:=h.act d (c a (bO ..));obtain⟨k1,k2⟩:=As d l g (λb hb=>c b (bw _ hb)) (hg.len.t h5);refine⟨k1,λn f=>?_⟩;obtain⟨k3,k4⟩:=k2 n f;rw[dH,aZ];rcases hg.bad n f with e|⟨-,-,e⟩
  ·rw[e]at k3 k4;omega
  ·rw[e]at k3 k4;omega
structure NA(L:List bk)(M:aT):Prop where
 inv:∃S,eh (·∈L) S M
 NS:M.cU+300+L.length<1000000000000
 yI:M.answers<1000000000000
 Oc:M.bad.length=5
 bad:∀i,0<=M.bad.getD i 0/\M.bad.getD i 0<1000000000000
theorem Jr{L:List bk}(b:Fits (·∈L)){l:List AF}(hl:l.length<=100000)(f:L.length<=200001)(c:∀a∈l,oq (·∈L) a):NA L (pS l):=by
 obtain⟨d,e⟩:=xA;obtain⟨k1,k2⟩:=qQ b l (eh.zero (Q:=(·∈L))) c;obtain⟨k3,k4⟩:=As b l (eh.zero (Q:=(·∈L))) c rfl;rw[d]at k1;rw[e]at k2;have g:l.length*(201+L.length)<=100000*200202:=Nat.mul_le_mul hl (by omega);refine⟨eh.run b c,?_,?_,k3,λi=>?_⟩
 ·unfold pS;omega
 ·unfold pS;omega
 ·by_cases hi:i<5
  ·have h5:=k4 i hi;have z:aT.zero.bad.getD i 0=0:=by
    have hc:i=0\/i=1\/i=2\/i=3\/i=4:=by omega
    rcases hc with rfl|rfl|rfl|rfl|rfl<;>rfl
   rw[z]at h5;unfold pS;omega
  ·have:(pS l).bad.getD i 0=0:=by
    unfold pS;rw[au,jF (by rw[k3];omega)];rfl
   rw[this];decide
theorem FV{l:List mE}(hl:l.length<=100000)(c:∀x∈l,x.Ok)(j:Nat):NA (xg l) (ow (l.take j)):=
 Jr (pY l) (by rw[aY,aM];omega) (by rw[EP];omega) λa b=>by
  obtain⟨x,hx,rfl⟩:=cH.1 b;have hx:=jY hx;exact Dk (c x hx) hx
theorem DR{l:List mE}{j:Nat}(hj:j<l.length):ow (l.take (j+1))=(ow (l.take j)).act (Mj (l.getD j mE.zero)):=by
 unfold ow pS;rw[eA,aC hj,du,iw,au,aC hj];rfl
def Mq:vj:=⟨0,0,0,(0,0)⟩
def kU(B:Nat)(w:ax)(v:bd)(M:aT):Prop:=
 ∃(b off c:Nat) (vs:Nat->bd) (tv:bd),v= .agg (fp M.cz.length (λj=>(M.nd j).up) (.slice (b,off) 5 c) (λj=>M.bad.getD j 0) tv).toArray/\5<=c/\c<=maxLen/\(b<w.heap.size/\B<=b)/\
  (∀j,j<5->w.cell? (b,off+j)=de (vs j)/\oQ w (vs j) (M.nd j).log/\∀q,(vs j).ownBlock=de q->B<=q)/\gN 5 ee Mq w tv M.told/\∀q,tv.ownBlock=de q->B<=q
theorem kU.heap{B:Nat}{w w':ax}{v:bd}{M:aT}(h:kU B w v M)(hb:∀q,B<=q->q<w.heap.size->w'.heap[q]?=w.heap[q]?)(hs:w.heap.size<=w'.heap.size):kU B w' v M:=by
 obtain⟨b,off,c,vs,tv,e,h5,hc,⟨d,a⟩,hl,g,f⟩:=h;exact⟨b,off,c,vs,tv,e,h5,hc,⟨ai d hs,a⟩,λj hj=>⟨(aw (w:=w) (hb b a d)).t (hl j hj).1,(hl j hj).2.1.heap λq hq hlt=>hb q ((hl j hj).2.2 q hq) hlt,(hl j hj).2.2⟩,g.heap λq hq hlt=>hb q (f q hq) hlt,f⟩
theorem kU.stay{B:Nat}{w w':ax}{v:bd}{M:aT}(h:kU B w v M)(hb:dd w.heap.size w w'):kU B w' v M:=h.heap (λq _ hl=>hb.block q hl) hb.size
theorem kU.m{A B:Nat}{w:ax}{v:bd}{M:aT}(h:kU B w v M)(hb:A<=B):kU A w v M:=by
 obtain⟨b,off,c,vs,tv,e,h5,hc,⟨d,a⟩,hl,f,g⟩:=h;exact⟨b,off,c,vs,tv,e,h5,hc,⟨d,aE hb a⟩,λj hj=>⟨(hl j hj).1,(hl j hj).2.1,λq hq=>aE hb ((hl j hj).2.2 q hq)⟩,f,λq hq=>aE hb (g q hq)⟩
structure qS(W3:ax)(M:aT)(tv:bd)(xb u m:Nat)(la:Option Addr)(lc:Nat)(hH:bI)(vs:Nat->bd)(w:ax):Prop where
 dM:w.heap[xb]?=de (.cells (fp M.cz.length (λj=>if j<u then(M.nd j).up else dT) (.slice la m lc) (λj=>M.bad.getD j 0) tv).toArray 34 (0,0))
 kj:dd W3.heap.size W3 w
 row:ev hH (5,1) 39 1 w (.slice la m lc) m ((List.range m).map vs)
 tx:hH xb=(5,0)
 base:∀q,q<W3.heap.size->hH q=(6,0)
 hi:∀q,w.heap.size<=q->hH q=(6,0)
 xS:∀j,j<m->oQ w (vs j) (M.nd j).log/\∀q,(vs j).ownBlock=de q->hH q=(6,0)/\W3.heap.size<=q/\q<w.heap.size
section
variable{W3 w0 w:ax}{M:aT}{tv:bd}{xb u m:Nat}{la:Option Addr}{lc:Nat}{hH:bI}{vs:Nat->bd}
theorem qS.Ol(h:qS W3 M tv xb u m la lc hH vs w):W3.heap.size<=xb:=by
 rcases dy xb W3.heap.size with e|e
 ·have:=h.base xb e;rw[h.tx]at this;cases this
 ·exact e
theorem qS.up(h:qS W3 M tv xb m m la lc hH vs w)(hm:m<5):qS W3 M tv xb (m+1) m la lc hH vs (w.setCell (xb,1+m) (.bool (M.nd m).up)):=by
 have k2:cG hH w hH (w.setCell (xb,1+m) (.bool (M.nd m).up)) (·=(5,0)):=⟨rfl,rfl,rfl,by simp[World.setCell],λq hq a=>aA _ _ (λe=>a (by rw[e];exact h.tx)),λ_ _=>rfl⟩
 refine⟨?_,h.kj.setCell h.Ol _,h.row.cB k2 (by intro e;cases e),h.tx,h.base,λq hq=>h.hi q (by simpa[World.setCell]using hq),λj hj=>⟨(h.xS j hj).1.heap λq hq hl=>k2.block q hl (by rw[((h.xS j hj).2 q hq).1];intro e;cases e),λq hq=>⟨((h.xS j hj).2 q hq).1,((h.xS j hj).2 q hq).2.1,by simpa[World.setCell]using((h.xS j hj).2 q hq).2.2⟩⟩⟩;rw[aB h.dM];have hc:m=0\/m=1\/m=2\/m=3\/m=4:=by omega
 rcases hc with rfl|rfl|rfl|rfl|rfl<;>simp[fp]
end
structure kT(w0:ax)(M:aT)(tv:bd)(xb m:Nat)(la:Option Addr)(lc:Nat)(hH:bI)(vs:Nat->bd)(j:Nat)(v0 v1 v2:bd)(w:ax):Prop where
 dM:w.heap[xb]?=de (.cells (fp M.cz.length (λj=>if j<m+1 then(M.nd j).up else dT) (.slice la m lc) (λj=>M.bad.getD j 0) tv).toArray 34 (0,0))
 lt:j<=2->dd w0.heap.size w0 w
 cl:1<=j->oQ w v0 (M.nd m).log/\∀q,v0.ownBlock=de q->w0.heap.size<=q/\q<w.heap.size
 one:2<=j->∃lb,v1= .slice (de ⟨lb,0,dl⟩) 1 1/\(j=2->w.heap[lb]?=de (.cells #[v0] 39 (0,0)))
 Lh:3<=j->∃hO va vc,v2= .slice va (m+1) vc/\ev hO (5,1) 39 1 w (.slice va (m+1) vc) (m+1) (((List.range m).map vs)++[v0])/\cG hH w0 hO w (·=(5,1))/\(∀q,w.heap.size<=q->hO q=(6,0))/\∀q,v0.ownBlock=de q->hO q=(6,0)
theorem LV:(prog.info? 39).map (λi=>(i.zero,i.size,i.bytes))=de (de (.slice dl 0 0),1,24):=by kernel_rfl
theorem vR.block{w:ax}{base:Nat}{v:bd}{l:List bk}(h:vR w base v l):∀q,v.ownBlock=de q->base<=q/\q<w.heap.size:=by
 intro q hq;obtain⟨-,h2⟩:=h;rcases h2 with⟨rfl,-⟩|⟨g,cap,a,rfl,hb,hg,-⟩
 ·cases hq
 ·have:g=q:=by simpa[Value.ownBlock]using hq
  subst this;exact⟨hb,hF hg⟩
section
variable{W3 w0 w:ax}{M:aT}{tv:bd}{xb m:Nat}{la:Option Addr}{lc:Nat}{hH:bI}{vs:Nat->bd}{j:Nat}{v0 v1 v2:bd}
theorem kT.start(h:qS W3 M tv xb (m+1) m la lc hH vs w0)(hb:dd w0.heap.size w0 w):kT w0 M tv xb m la lc hH vs 0 v0 v1 v2 w:=
 ⟨(hb.block xb (hF h.dM)).t h.dM,λ_=>hb,λe=>absurd e (by decide),λe=>absurd e (by decide),λe=>absurd e (by decide)⟩
theorem kT.pt(h:kT w0 M tv xb m la lc hH vs 1 v0 v1 v2 w):∃a n c,v0= .slice a n c:=by
 obtain⟨⟨a,c,e,-⟩,-⟩:=h.cl (by decide)
 exact⟨a,_,c,e⟩
theorem kT.Ou(h:kT w0 M tv xb m la lc hH vs 2 v0 v1 v2 w):∃b,v1= .slice (de ⟨b,0,dl⟩) 1 1:=by
 obtain⟨b,e,-⟩:=h.one (by decide);exact⟨b,e⟩
theorem kT.NL(h:kT w0 M tv xb m la lc hH vs 3 v0 v1 v2 w):∃b j,v2= .slice b (m+1) j:=by
 obtain⟨l,b,j,e,-⟩:=h.Lh (by decide);exact⟨b,j,e⟩
theorem kT.call{a:Act}{tt:Option Tmp}{l:Nat->bd}{j r n:Nat}(hl:r≠j)(C:n≠j){e:Ending}{y:ax}(h:kT w0 M tv xb m la lc hH vs 0 (l j) (l r) (l n) w)(B:∃b,e= .returned b/\vR y w.heap.size b (M.nd m).log/\dd w.heap.size w y):
  ∃v,e= .returned v/\∃b,a.put tt v=a.put tt b/\kT w0 M tv xb m la lc hH vs (0+1) ((λi=>if i=j then b else l i) j) ((λi=>if i=j then b else l i) r) ((λi=>if i=j then b else l i) n) y:=by
 obtain⟨b,rfl,u,z⟩:=B;have hb:=h.lt (by decide);refine⟨_,rfl,_,rfl,⟨(z.block xb (hF h.dM)).t h.dM,λ_=>hb.t (z.m hb.size),λ_=>?_,λe=>absurd e (by decide),λe=>absurd e (by decide)⟩⟩;dsimp only;rw[ar rfl];exact⟨u.row,λq hq=>⟨aE hb.size (u.block q hq).1,(u.block q hq).2⟩⟩
theorem kT.lit{b:Nat->bd}{l j n:Nat}(hl:j≠l)(r:n≠j){v:bd}(h:kT w0 M tv xb m la lc hH vs 1 (b l) (b j) (b n) w)(hv:b l=v):
  kT w0 M tv xb m la lc hH vs (1+1) ((λi=>if i=j then(.slice (w.heap.size,0) 1 1:bd)else b i) l) ((λi=>if i=j then(.slice (w.heap.size,0) 1 1:bd)else b i) j) ((λi=>if i=j then(.slice (w.heap.size,0) 1 1:bd)else b i) n) (w.alloc (.cells #[v] 39 (0,0))):=by
 have hb:=h.lt (by decide);obtain⟨h1,h2⟩:=h.cl (by decide);have e2:(λi=>if i=j then(.slice (w.heap.size,0) 1 1:bd)else b i) l=v:=by
  dsimp only;rw[ak (λe=>hl e.symm)];exact hv
 rw[e2];rw[hv]at h1 h2;have B:=(aj w.heap.size w).alloc (ag _) (.cells #[v] 39 (0,0));exact⟨(B.block xb (hF h.dM)).t h.dM,λ_=>hb.t (B.m hb.size),λ_=>⟨h1.stay B,λq hq=>⟨(h2 q hq).1,ai (h2 q hq).2 B.size⟩⟩,λ_=>⟨w.heap.size,ar rfl,λ_=>aL w _⟩,λe=>absurd e (by decide)⟩
theorem kT.Oh{j:Nat->bd}{n r l:Nat}(hc:l≠n)(L:l≠r){ops:Array Oper}{Q:Exit->Act->ax->Prop}{a:Act}{i y:Nat}{o:Oper}{tt:Option Tmp}(h:kT w0 M tv xb m la lc hH vs 2 (j n) (j r) (j l) w)(V:m<5)(hS:qS W3 M tv xb (m+1) m la lc hH vs w0)(hl:j r= .slice (y,0) 1 1)
  (hi:ops[i]?=de o)(hg:o.guard=dl)(s x:Operand)(ho:o.op= .call {callee:= .builtin .append,args:=#[s,x],argTypes:=#[30,30]}/\o.dst=tt)(hs:a.eval s= .slice la m lc)(hx:a.eval x= .slice (y,0) 1 1):
  wpOp ed ops Q i (λa' w'=>∃b,a'=a.put tt b/\kT w0 M tv xb m la lc hH vs (2+1) ((λi=>if i=l then b else j i) n) ((λi=>if i=l then b else j i) r) ((λi=>if i=l then b else j i) l) w') a w:=by
 obtain⟨G,z⟩:=h.cl (by decide);obtain⟨Y,e,B⟩:=h.one (by decide);rw[hl]at e;injection e with e;injection e with e;injection e with e;subst e;have B:=B rfl;have hb:=h.lt (by decide);have k1:cG hH w0 hH w (λ_=>False):=⟨hb.os,hb.tape,hb.output,hb.size,λq hq _=>hb.block q hq,λ_ _=>rfl⟩
 obtain⟨X,J,C,N,I⟩:=gD LV;obtain⟨Z,a0,O,-⟩:=id G;obtain⟨b,D,S,hr,h2,h3,h4⟩:=nt (P:=ed) (hS.row.cB k1 id) Tryz.underlying30 J C N I rfl (by decide) y [j n] rfl B (λu hu=>by rw[List.mem_singleton.1 hu,O];rfl) (by unfold maxLen;omega) (by omega) o.type;obtain⟨T,U,F,-⟩:=h2.shape;refine nN hi hg ?_;have R:hH xb=(5,0):=hS.tx;have E:∀q,(j n).ownBlock=de q->hH q=(6,0):=λq hq=>hS.hi q (z q hq).1;have hK:(λa' w'=>∃b,a'=a.put tt b/\kT w0 M tv xb m la lc hH vs (2+1) ((λi=>if i=l then b else j i) n) ((λi=>if i=l then b else j i) r) ((λi=>if i=l then b else j i) l) w') (a.put o.dst b) D:=by
  refine⟨b,by rw[ho.2],?_⟩;dsimp only;rw[ak (λe=>hc e.symm),ak (λe=>L e.symm),ar rfl];exact⟨h3.at h.dM (by rw[R];intro e;cases e),λe=>absurd e (by decide),
   λ_=>⟨G.heap λq hq hlt=>h3.block q hlt (by rw[E q hq];intro e;cases e),λq hq=>⟨(z q hq).1,ai (z q hq).2 h3.size⟩⟩,
   λ_=>⟨y,hl,λe=>absurd e (by decide)⟩,
   λ_=>⟨S,T,U,F,by rw[<-F];exact h2,(k1.m (λ_ e=>e.elim)).t h3,λq hq=>by rw[h4 q hq];exact hS.hi q (aE hb.size (aE h3.size hq)),λq hq=>by rw[h3.marks q (z q hq).2];exact E q hq⟩⟩
 have C:=gJ (P:=ed) (Q:=Q) (K:=(λa' w'=>∃b,a'=a.put tt b/\kT w0 M tv xb m la lc hH vs (2+1) ((λi=>if i=l then b else j i) n) ((λi=>if i=l then b else j i) r) ((λi=>if i=l then b else j i) l) w')) (a:=a) (o:=o) w s x 30 30 ho.1 _ _ hs hx b D hr hK;exact C
theorem kT.next{r:Option Addr}{u:Nat}(h:kT w0 M tv xb m la lc hH vs 3 v0 v1 v2 w)(hS:qS W3 M tv xb (m+1) m la lc hH vs w0)(Q:m<5)(hv:v2= .slice r (m+1) u):
  Hid (∃l P,qS W3 M tv xb (m+1) (m+1) r u l P (w.setCell (xb,6) (.slice r (m+1) u))):=by
 obtain⟨O,E⟩:=h.cl (by decide);obtain⟨l,S,T,e,L,b,I,y⟩:=h.Lh (by decide);rw[hv]at e;injection e with e1 e2 e3;subst e1 e3;have N:=hF hS.dM;have F:l xb=(5,0):=by rw[b.marks xb N];exact hS.tx
 have R:=hS.Ol;obtain⟨G,n⟩:=aK (w.setCell (xb,6) (.slice r (m+1) u));have D:G.heap.size=w.heap.size:=by rw[n];simp[World.setCell]
 have k2:cG l w l G (·=(5,0)):=⟨by rw[n];rfl,by rw[n];rfl,by rw[n];rfl,by omega,λq hq K=>by rw[n];exact aA _ _ (λe=>K (by rw[e];exact F)),λ_ _=>rfl⟩
 have z:∀q,q<W3.heap.size->l q=(6,0):=λq hq=>by rw[b.marks q (ai hq hS.kj.size)];exact hS.base q hq
 refine ae ⟨l,λj=>if j=m then v0 else vs j,?_⟩;rw[<-n];refine⟨by rw[n,aB h.dM];rfl,?_,?_,F,z,λq hq=>I q (by omega),λj hj=>?_⟩
 ·refine⟨k2.os.t (b.os.t hS.kj.os),k2.tape.t (b.tape.t hS.kj.tape),k2.output.t (b.output.t hS.kj.output),aE hS.kj.size (aE b.size k2.size),λq hq=>?_⟩;have C:=ai hq hS.kj.size;exact(k2.block q (ai C b.size) (by rw[z q hq];intro e;cases e)).t ((b.block q C (by rw[hS.base q hq];intro e;cases e)).t (hS.kj.block q hq))
 ·have e:((List.range m).map vs)++[v0]=(List.range (m+1)).map λj=>if j=m then v0 else vs j:=by
   rw[ly,du];congr 1
   ·apply kJ;intro j hj;rw[ak (by have:=bj.1 hj;omega)]
   ·show _=[if m=m then _ else _]
    rw[ar rfl]
  rw[<-e];exact L.cB k2 (by intro e;cases e)
 ·by_cases e:j=m
  ·subst e;rw[ar rfl];exact⟨O.heap λq hq hlt=>k2.block q hlt (by rw[y q hq];intro e;cases e),λq hq=>⟨y q hq,aE hS.kj.size (E q hq).1,by rw[D];exact(E q hq).2⟩⟩
  ·rw[ak e];have J:j<m:=by omega
   obtain⟨g1,g2⟩:=hS.xS j J;have B:∀q,(vs j).ownBlock=de q->l q=(6,0):=λq hq=>by rw[b.marks q (g2 q hq).2.2];exact(g2 q hq).1
   exact⟨(g1.heap λq hq hlt=>b.block q hlt (by rw[(g2 q hq).1];intro e;cases e)).heap λq hq hlt=>k2.block q hlt (by rw[B q hq];intro e;cases e),λq hq=>⟨B q hq,(g2 q hq).2.1,by rw[D];exact ai (g2 q hq).2.2 b.size⟩⟩
theorem kT.AI(h:kT w0 M tv xb m la lc hH vs j v0 v1 v2 w)(hS:qS W3 M tv xb (m+1) m la lc hH vs w0){q:Nat}(hq:q<W3.heap.size):w.heap[q]?=W3.heap[q]?:=by
 have b:=ai hq hS.kj.size;refine Eq.t ?_ (hS.kj.block q hq);rcases dy j 3 with hj|hj
 ·exact(h.lt (by omega)).block q b
 ·obtain⟨n,r,u,-,-,l,-⟩:=h.Lh hj;exact l.block q b (by rw[hS.base q hq];intro e;cases e)
end
theorem Gq{W3 w0 k:ax}{M:aT}{d:Option Addr}{g f:Nat}{xb:Nat}{la:Option Addr}{lc:Nat}{l hH:bI}{vs:Nat->bd}{c:Nat}(h:qS W3 M (.slice d g f) xb 5 5 la lc l vs w0)(i:ev hH (5,3) 137 5 W3 (.slice d g f) M.told.length (M.told.flatMap ee))
  {B:Nat}(o:∀q,q<B->hH q=(6,0))(p:B<=W3.heap.size)(s:c<W3.heap.size)(hmk:hH c=(6,0))(h9:∀q,q≠c->k.heap[q]?=w0.heap[q]?)(hs:k.heap.size=w0.heap.size):
  kU B k (.agg (fp M.cz.length (λj=>if j<5 then(M.nd j).up else dT) (.slice la 5 lc) (λj=>M.bad.getD j 0) (.slice d g f)).toArray) M:=by
 obtain⟨b,off,rfl,r,hb5,hc⟩:=h.row.cell (by decide);obtain⟨x,y,e,h1,h2⟩:=h.row.shape;injection e with e1 e2 e3;subst e3;have u:∀q,l q=(5,1)->q≠c:=λq e e2=>by rw[e2,h.base c s]at e;cases e
 refine⟨b,off,_,vs,.slice d g f,rfl,h1,h2,⟨by rw[hs];exact r,?_⟩,λj hj=>⟨?_,?_,λq hq=>aE p ((h.xS j hj).2 q hq).2.1⟩,?_,?_⟩
 ·rcases dy b W3.heap.size with e|e
  ·rw[h.base b e]at hb5;cases hb5
  ·omega
 ·rw[aw (w:=w0) (h9 b (u b hb5)),hc j (by omega),fL,List.getElem?_range hj];rfl
 ·exact(h.xS j hj).1.heap λq hq hlt=>h9 q (by have:=((h.xS j hj).2 q hq).2.1;omega)
 ·have t:gN 5 ee Mq W3 (.slice d g f) M.told:=ev.rd (λ_=>rfl) i;refine(t.stay h.kj).heap λq hq hlt=>h9 q ?_;rcases i.2 with⟨e,-⟩|⟨a,v,n,m,e,-,-,h5,-⟩
  ·rw[e]at hq;cases hq
  ·rw[e]at hq;have:a=q:=by simpa[Value.ownBlock]using hq
   intro e2;rw[<-e2,<-this,h5]at hmk;cases hmk
 ·intro q hq;rcases i.2 with⟨e,-⟩|⟨a,v,n,m,e,-,-,h5,-⟩
  ·rw[e]at hq;cases hq
  ·rw[e]at hq;have:a=q:=by simpa[Value.ownBlock]using hq
   subst this;rcases dy a B with e2|e2
   ·rw[o a e2]at h5;cases h5
   ·exact e2
set_option maxHeartbeats 1000000
theorem CS(f:Int)(u:Nat->Bool)(a:Option Addr)(n c:Nat)(b:Nat->Int)(d:Option Addr)(g e:Nat):(fp f u (.slice a n c) b (.slice d g e)).toArray.all (·.oneCell')=dE:=by
 refine dx λv hv=>?_;simp[fp]at hv;rcases hv with rfl|rfl|rfl|rfl|rfl|rfl|rfl|rfl|rfl|rfl|rfl|rfl|rfl<;>rfl
theorem Cq(v:bd)(l:List mE)(W:ax)(hv:lm W v l)(h:oP l)(hk:Kn W)(hN:Nd W):
  bl ed 16 #[v] W λe H=>∃ov,e= .returned (.tuple #[ov,(0:Int)])/\kU W.heap.size H ov (ow l)/\dd W.heap.size W H:=by
 obtain⟨ea,ec,rfl,hle,g9,e4⟩:=id hv.1;obtain⟨n,hn⟩:=aK l.length;rw[<-hn]at hle e4|-;have m5:ec<=9223372036854775807:=g9;have HN:=ae hn;have HV:=ae hv;have i8:=ae e4;have b6:=ae h;have j3:=ae hk;have j7:=ae hN;have h1:n<=100000:=by rw[hn];exact h.1
 have f9:=ae (λj (hj:j<n) (H:ax) (hb:dd W.heap.size W H)=>show∃b off x Q dn R,x=l.getD j mE.zero/\x∈l/\ea=de ⟨b,off,dl⟩/\x.dv= .slice Q dn R/\H.cell? ⟨b,off+j*5,dl⟩=de (.int .i64 x.k)/\H.cell? ⟨b,off+j*5+1,dl⟩=de (.int .i64 x.n)/\H.cell? ⟨b,off+j*5+2,dl⟩=de (.int .i64 x.a)/\H.cell? ⟨b,off+j*5+3,dl⟩=de (.int .i64 x.p)/\H.cell? ⟨b,off+j*5+4,dl⟩=de x.dv by
  obtain⟨b,off,rfl,l1,E⟩:=e4 (by
   intro e;rw[e]at hn;simp at hn;omega)
  have K:l.getD j mE.zero∈l:=by
   rw[au,aC (by rw[<-hn];exact hj)];exact dW _
  obtain⟨Q,R,a4,-,-⟩:=(hv.2 _ K).slice;have cc:∀q u,q<5->(vg (l.getD j mE.zero))[q]?=de u->H.cell? ⟨b,off+j*5+q,dl⟩=de u:=λq u hq hu=>by
   rw[<-hu,<-E j hj q hq,show off+(5*j+q)=off+j*5+q by omega];exact aw (w:=W) (hb.block b l1)
  exact⟨b,off,_,Q,_,R,rfl,K,rfl,a4,cc 0 _ (by decide) rfl,cc 1 _ (by decide) rfl,cc 2 _ (by decide) rfl,cc 3 _ (by decide) rfl,cc 4 _ (by decide) rfl⟩)
 clear hn e4 h hv g9 hk hN i8;go_enter func16,ntmps16
 go_upto_region 1 with fail
 generalize f:World.alloc _ _=w1;have B1:=ae (gv f);obtain⟨O,e5⟩:=aK W.heap.size;have X1:=ae (eZ f e5);have k1:=ae e5;have S1:=ae (show w1.heap.size=W.heap.size+1 by rw[<-f];simp);rw[<-e5];clear f e5;have hd:decide ((100000:Int)<n)=dT:=by rw[ah];omega
 have l3:decide (100000<n)=dT:=by rw[ah];omega
 go_wp2_with fail
 clear hd l3;have g3:Hid (dd w1.heap.size w1 w1):=ae (aj _ _);go_loopg [19] n (λk i wr=>∃j:Nat,j+k=n/\i= .int .i64 j/\Hid (dd w1.heap.size w1 wr))
 case atStart=>exact⟨0,by omega,rfl,g3⟩
 case round=>
  clear g3;obtain⟨j,f5,rfl,C⟩:=hrel;obtain⟨d,rfl⟩:=aK wr;by_cases hj:j<n
  ·have b9:decide ((j:Int)<n)=dE:=by rw[ap];omega
   have c2:decide (j<n)=dE:=by rw[ap];omega
   obtain⟨g,hg⟩:∃g,gk=g+1:=⟨gk-1,by omega⟩
   have F:=ae (show dd W.heap.size W d from B1.o.t (C.o.m (by rw[S1.o];omega)));obtain⟨b,off,x,Q,dn,R,hx,K,rfl,a4,c0,c1,P,Y,c4⟩:=f9.o j hj d F.o;have e8:=ae (HV.o.2 x K);have hz:=b6.o.2 x K;clear K hx;obtain⟨xk,xn,xa,xp,xv,xd⟩:=x;dsimp only at c0 c1 P Y c4 a4;subst a4;have E:∀w,dd d.heap.size d w->bl ed 19 #[.agg #[xk,xn,xa,xp,.slice Q dn R]] w λe w'=>e= .returned (0:Int)/\dd w.heap.size w w':=λw hb=>by
    have h2:=Dv ⟨xk,xn,xa,xp,.slice Q dn R,xd⟩ w (e8.o.stay (F.o.t (hb.m F.o.size)));rw[hz]at h2;exact h2
   have a6:=ae E;clear E hz;go_upto_region 6 with fail
   generalize f:World.alloc _ _=w2;obtain⟨s,I⟩:=aK d.heap.size;have B2:=ae (gv f);have J:=ae (eZ f I);rw[<-I];clear f I c0 c1 P Y c4;have d0:=ej J.o 0 rfl;have d1:=ej J.o 1 rfl;have d2:=ej J.o 2 rfl;have d3:=ej J.o 3 rfl;have d4:=ej J.o 4 rfl;have b5:=ae (a6.o w2 B2.o);go_upto_region 7 with(go_at_call 19;refine b5.o.m ?_;rintro e w3 ⟨rfl,g8⟩;have B3:=ae g8;clear g8)
   clear d0 d1 d2 d3 d4 b5;have BZ:=ae (show dd w1.heap.size w1 w3 from C.o.t ((B2.o.t (B3.o.m B2.o.size)).m C.o.size));go_wp2_with fail
   go_roundg g
   ·exact⟨j+1,by omega,by go_num,BZ⟩
   ·omega
  ·have b9:decide ((j:Int)<n)=dT:=by rw[ah];omega
   have c2:decide (j<n)=dT:=by rw[ah];omega
   have F:=ae (show dd W.heap.size W d from B1.o.t (C.o.m (by rw[S1.o];omega)));have g0:=ae (Gr d (j3.o.stay F.o) (j7.o.stay F.o));have e3:=ae (show O<d.heap.size from ai (hF X1.o) C.o.size);have g5:=ae (show d.heap[O]?=de (.cells je.toArray 34 (0,0))from(C.o.block O (hF X1.o)).t X1.o);clear C f5;go_upto_region 11 with(go_at_call 20;refine g0.o.m ?_;rintro e w5 ⟨o,l9,G0,rfl,B,hb5,hmk⟩;have e9:=ae (show∃hH G,dB hH w5 o G (ow (l.take 0))/\(∀q,q<d.heap.size->hH q=(6,0))/\dd d.heap.size d w5 from⟨l9,G0,B,hmk,hb5⟩);clear B hb5 hmk)
   go_wp2_with fail
   clear g0 b9 c2 hj;obtain⟨m4,l4⟩:=aK gk;clear l4;obtain⟨b4,i2⟩:=aK d;rw[<-i2]at e9 F e3 g5;clear i2;go_loopg [33] n (λk i wr=>∃j:Nat,j+k=n/\i= .int .i64 j/\Hid (∃hH G,dB hH wr o G (ow (l.take j))/\(∀q,q<b4.heap.size->hH q=(6,0))/\dd b4.heap.size b4 wr))
   case atStart=>exact⟨0,by omega,rfl,e9⟩
   case round=>
    clear e9;obtain⟨j,f5,rfl,C⟩:=hrel;obtain⟨d,rfl⟩:=aK wr;obtain⟨hH,G,B,hmk,g7⟩:=C.o;have a1:=ae B;have d7:=ae hmk;have X:=ae g7;clear B hmk g7 C;by_cases hj:j<n
    ·have b9:decide ((j:Int)<n)=dE:=by rw[ap];omega
     have c2:decide (j<n)=dE:=by rw[ap];omega
     obtain⟨g,hg⟩:∃g,gk=g+1:=⟨gk-1,by omega⟩
     have BX:=ae (show dd W.heap.size W d from F.o.t (X.o.m F.o.size));obtain⟨b,off,x,Q,dn,R,hx,K,rfl,a4,c0,c1,P,Y,c4⟩:=f9.o j hj d BX.o;have e8:=ae (HV.o.2 x K);have k0:=ae (show ow (l.take (j+1))=(ow (l.take j)).act (Mj x) by rw[hx];exact DR (by rw[<-HN.o];exact hj));have f6:∀y∈l,y.Ok:=λy hy=>yl (b6.o.2 y hy);have hS:=FV b6.o.1 f6 j;have b2:=f6 x K;clear hx;obtain⟨xk,xn,xa,xp,xv,xd⟩:=x;dsimp only at c0 c1 P Y c4 a4;subst a4;have E:∀w,dd d.heap.size d w->bl ed 21 #[(o,0),.agg #[xk,xn,xa,xp,.slice Q dn R]] w λe H=>e= .returned (.tuple #[])/\ir hH w o (ow (l.take (j+1))) H:=λw hb=>by
      obtain⟨S,hI⟩:=hS.inv;rw[k0.o];exact Mb (pY l) hI (a1.o.below hb) xk xn xa xp xd (.slice Q dn R) (e8.o.stay (BX.o.t (hb.m BX.o.size))) ⟨b2.k1,b2.k9⟩ (qR ⟨b2.k1,b2.k9⟩ b2.code) hS.NS hS.yI hS.Oc hS.bad
     have a6:=ae E;clear E hS b2 f6 K;go_upto_region 14 with fail
     generalize f:World.alloc _ _=w2;obtain⟨s,I⟩:=aK d.heap.size;have B2:=ae (gv f);have J:=ae (eZ f I);rw[<-I];clear f I c0 c1 P Y c4;have d0:=ej J.o 0 rfl;have d1:=ej J.o 1 rfl;have d2:=ej J.o 2 rfl;have d3:=ej J.o 3 rfl;have d4:=ej J.o 4 rfl;have b5:=ae (a6.o w2 B2.o);go_upto_region 15 with(go_at_call 21;refine b5.o.m ?_;rintro e w3 ⟨rfl,g6⟩;have AC:=ae g6;clear g6)
     clear d0 d1 d2 d3 d4 b5;have NX:Hid (∃hH G,dB hH w3 o G (ow (l.take (j+1)))/\(∀q,q<b4.heap.size->hH q=(6,0))/\dd b4.heap.size b4 w3):=ae (by
      obtain⟨l8,G',r1,r2⟩:=AC.o;have a2:=X.o.t (B2.o.m X.o.size);refine⟨l8,G',r1,λq hq=>?_,⟨r2.os.t a2.os,r2.tape.t a2.tape,r2.output.t a2.output,aE a2.size r2.size,λq hq=>?_⟩⟩
      ·rw[r2.marks q (ai hq a2.size)];exact d7.o q hq
      ·exact(r2.block q (ai hq a2.size) (by rw[d7.o q hq];decide)).t (a2.block q hq))
     clear AC;go_wp2_with fail
     go_roundg g
     ·exact⟨j+1,by omega,by go_num,NX⟩
     ·omega
    ·have b9:decide ((j:Int)<n)=dT:=by rw[ah];omega
     have c2:decide (j<n)=dT:=by rw[ah];omega
     have h6:j=l.length:=by rw[<-HN.o];omega
     have B:=a1.o;rw[h6,dV]at B;obtain⟨M,hM⟩:=aK (ow l);rw[<-hM]at B;have HM:=ae hM;have j4:=ae (show∀m,m<5->(M.nd m).log.length<=100000 from λm hm=>by
      obtain⟨S,hI⟩:=(FV b6.o.1 (λy hy=>yl (b6.o.2 y hy)) l.length).inv;rw[dV,<-hM]at hI;have:=(hI.nd m hm).ru;omega)
     clear hM h6 a1;obtain⟨rb,ro,rc,i1,h8,l6,i0⟩:=B.nodeAt;obtain⟨T,U,e7,-⟩:=B.told.shape;obtain⟨V,f7⟩:=aK M.told.length;rw[<-f7]at e7;obtain⟨m3,-,h0,-⟩:=id B.cz;obtain⟨fa,fc,f3,-⟩:=h0.shape;obtain⟨fn,f2⟩:=aK M.cz.length;rw[<-f2]at f3;have A:=B.dM;have c0:d.cell? (o,0)=de (.slice (rb,ro) 5 rc):=by rw[<-i1];exact ej A 0 rfl
     have c1:d.cell? (o,1)=de (.slice fa fn fc):=by rw[<-f3];exact ej A 1 rfl
     have P:d.cell? (o,2)=(0:Int):=ej A 2 rfl;have Y:d.cell? (o,2+1)=de (.bool dT):=ej A 3 rfl;have c4:d.cell? (o,2+2)=de (.bool dT):=ej A 4 rfl;have c5:d.cell? (o,2+3)=de (.bool dT):=ej A 5 rfl;have c6:d.cell? (o,2+4)=de (.bool dT):=ej A 6 rfl;have c7:d.cell? (o,2+5)=de (.bool dT):=ej A 7 rfl;have c8:d.cell? (o,2+6)=de (.slice dl 0 0):=ej A 8 rfl;have c9:d.cell? (o,2+7)=(M.bad.getD 0 0):=ej A 9 rfl;have k6:d.cell? (o,2+8)=(M.bad.getD 1 0):=ej A 10 rfl;have k7:d.cell? (o,2+9)=(M.bad.getD 2 0):=ej A 11 rfl;have k8:d.cell? (o,2+10)=(M.bad.getD 3 0):=ej A 12 rfl;have k9:d.cell? (o,2+11)=(M.bad.getD 4 0):=ej A 13 rfl;have l0:d.cell? (o,2+12)=de (.slice T V U):=by rw[<-e7];exact ej A 14 rfl
     have a1:=ae B;have g2:=ae i0;have k3:=ae e7;have m1:=ae f7;have j1:=ae f2;have g1:=ae h8;have b7:=ae (hF A);clear B i1 h8 l6 i0 e7 f7 h0 f3 f2 A f5 hj;go_upto_region 17 with fail
     obtain⟨s,I⟩:=aK d.heap.size;generalize f:World.alloc _ _=w3;have B3:=ae (show dd d.heap.size d w3 by rw[<-f];exact(aj d.heap.size d).alloc (ag _) _);have X3:=ae (show w3.heap[s]?=de (.cells (fp 0 (λ_=>dT) (.slice dl 0 0) (λj=>M.bad.getD j 0) (.slice T V U)).toArray 34 (0,0)) by rw[<-f,I];exact aL d _);rw[<-I];have d9:=ae I;clear f I P Y c4 c5 c6 c7 c8 c9 k6 k7 k8 k9 l0;have e1:=cZ B3.o b7.o c1;have e0:=cZ B3.o b7.o c0;have x0:=ej X3.o 0 rfl;have fr:=aO X3.o 0;clear c0 c1;go_upto_region 18 with fail
     generalize f:World.setCell _ _ _=w4;have B4:=ae (show dd d.heap.size d w4 by
      rw[<-f];exact B3.o.setCell (p:=(s,0)) (gi d9.o.symm) _)
     have f0:Hid (∃L N hH vs,qS d M (.slice T V U) s 0 0 L N hH vs w4):=ae ⟨dl,0,λq=>if q=s then(5,0)else(6,0),λ_=>undef,by
      have h4:w4.heap[s]?=de (.cells (fp fn (λj=>if j<0 then(M.nd j).up else dT) (.slice dl 0 0) (λj=>M.bad.getD j 0) (.slice T V U)).toArray 34 (0,0)):=by
       rw[<-f];exact aB X3.o _
      exact⟨by rw[<-j1.o];exact h4,B4.o,ev.nil _ _ _ _ _,ar rfl,λq hq=>ak (by have:=d9.o;omega),λq hq=>ak (by have:=hF h4;omega),λj hj=>absurd hj (by omega)⟩⟩
     have j0:=ae (show o<w3.heap.size from ai b7.o B3.o.size);have e2:w4.cell? (o,0)=de (.slice (rb,ro) 5 rc):=by
      rw[<-e0,<-f];have l5:o≠s:=by have:=b7.o;have:=d9.o;omega
      exact aw (w:=w3) (aA _ _ l5)
     clear f d9 e0 e1 x0 fr B3 X3;go_wp2_with fail
     clear e2 B4 b9 c2 j0;obtain⟨a5,i3⟩:=aK d;rw[<-i3]at f0 a1 X g2 g1 b7;clear i3;go_loopg [56] 5 (λk i wr=>∃m:Nat,m+k=5/\i= .int .i64 m/\Hid (∃L N d6 vs,qS a5 M (.slice T V U) s m m L N d6 vs wr))
     case atStart=>exact⟨0,by omega,rfl,f0⟩
     case round=>
      clear f0;obtain⟨m,hmk,rfl,C⟩:=hrel;obtain⟨d,rfl⟩:=aK wr;obtain⟨L,N,d6,vs,b1⟩:=C.o;have d8:=ae b1;clear C;by_cases h5:¬(m:Int)<5
      ·have a0:m=5:=by omega
       subst a0;clear h5 b1 hmk;obtain⟨cs,b8⟩:=aK (fp M.cz.length (λj=>if j<5 then(M.nd j).up else dT) (.slice L 5 N) (λj=>M.bad.getD j 0) (.slice T V U));have E:cs.length=13:=by rw[b8];rfl
       have f1:=X.o.t (d8.o.kj.m X.o.size);have X0:=ae (show d.heap[O]?=de (.cells je.toArray 34 (0,0))from(f1.block O e3.o).t g5.o);have TH:=ae (show d.there O 0 cs.toArray.size from by
        rw[dL,E];exact dr X0.o rfl)
       have RG:=ae (show d.rangeAt s 0 cs from bu (by rw[b8];exact d8.o.dM));have SZ:=ae (show(prog.info? 34).map (·.size)=de cs.length by rw[E];exact rY);have k5:=ae (show(prog.info? 34).map (·.size)=de cs.toArray.size by rw[dL,E];exact rY);have k4:=ae (show cs.toArray.all (·.oneCell')=dE by rw[b8];exact CS _ _ _ _ _ _ _ _ _);have i9:=ae b8;have a6:=ae E;have i4:=ae (F.o.t (f1.m F.o.size));clear b8 E f1;go_wp2_with (first
        |(refine cM rfl 34 (.tmp 10) rfl s 0 rfl cs _ RG.o Tryz.underlying34 rfl SZ.o ?_)
        |(refine bz rfl 34 (.tmp 2) (.tmp 79) rfl O 0 cs.toArray rfl rfl TH.o k5.o k4.o ?_;generalize f:World.setCells _ _ _ _=r;have H9:=ae (show r.heap[O]?=de (.cells cs.toArray 34 (0,0)) by rw[<-f];exact dI X0.o (by rw[a6.o];rfl));have B9:=ae (show dd W.heap.size W r by rw[<-f];exact bp (gi k1.o.symm) _ _ _ i4.o);have N9:=ae (show(∀q,q≠O->r.heap[q]?=d.heap[q]?)/\r.heap.size=d.heap.size from⟨λq hq=>by rw[<-f];exact Go.Con.bE hq _ _ _,by rw[<-f];exact mQ _ _ _⟩);clear f))
       refine aH (v:=_) (xL a6.o rfl rfl H9.o) rfl ?_;refine⟨_,rfl,?_,B9.o⟩;have ht:=a1.o.told;rw[k3.o]at ht;have ho:=Gq d8.o ht d7.o X.o.size (ai e3.o X.o.size) (d7.o O e3.o) N9.o.1 N9.o.2;rw[<-i9.o]at ho;rw[<-HM.o];exact ho.m F.o.size
      ·replace h5:=cN h5;have a0:m<5:=by omega
       obtain⟨g,hg⟩:∃g,gk=g+1:=⟨gk-1,by omega⟩
       obtain⟨gb,c3⟩:=aK ((G.n m).b);have e6:=g2.o m a0;rw[<-c3]at e6;unfold ptr at e6;have a3:=a1.o.nd m a0;obtain⟨ga,gc,b0,-⟩:=a3.pt.log.shape;obtain⟨gn,h3⟩:=aK ((M.nd m).log.length);rw[<-h3]at b0;have f4:gb<a5.heap.size:=by rw[c3];exact hF a3.dM
       have f8:=ae b1.kj;have N1:a5.cell? (gb,1)=de (.bool (M.nd m).up):=by rw[c3];exact ej a3.dM 1 rfl
       have g4:a5.cell? (gb,11)=de (.slice ga gn gc):=by rw[c3,<-b0];exact ej a3.dM 11 rfl
       have c0:=cZ f8.o g1.o e6;have c1:=cZ f8.o f4 N1;have P:d.cell? (s,1+m)=de (.bool dT):=by
        have hc:m=0\/m=1\/m=2\/m=3\/m=4:=by omega
        rcases hc with rfl|rfl|rfl|rfl|rfl<;>exact ej b1.dM _ rfl
       have fr:=aO b1.dM (1+m);have m0:=ae N1;have j6:=ae g4;have j2:=ae f4;have j5:=ae (show oQ a5 (.slice ga gn gc) (M.nd m).log by rw[<-b0];exact a3.pt.log.rd);have k2:=ae (show(Value.slice ga gn gc= .slice dl 0 0)\/∃a n c,Value.slice ga gn gc= .slice (de a) n c from by
        rcases a3.pt.log.2 with⟨e,-⟩|⟨b3,m7,m2,Y,e,-⟩
        ·exact .inl (b0.symm.t e)
        ·exact .inr ⟨_,_,_,b0.symm.t e⟩)
       clear N1 g4 f4 a3 b0 h3 e6 c3 b1;go_upto_region 22 with fail
       generalize f:World.setCell _ _ _=w7;have a7:=ae (show qS a5 M (.slice T V U) s (m+1) m L N d6 vs w7 by rw[<-f];exact d8.o.up a0);clear f c0 c1 P fr;have i6:=ae (λ(j:Nat) (r:ax) (v0 v1 v2:bd) (z:kT w7 M (.slice T V U) s m L N d6 vs j v0 v1 v2 r)=>show r.cell? (gb,11)=de (.slice ga gn gc)from(aw (w:=a5) (z.AI a7.o j2.o)).t j6.o);have i5:=ae (λr (hb:dd w7.heap.size w7 r)=>Ii (.slice ga gn gc) (M.nd m).log r (j5.o.stay (a7.o.kj.t (hb.m a7.o.kj.size))) k2.o (j4.o m a0));refine bh (by kernel_rfl) (λw5 hb5=>?_);have i7:=ae hb5;clear hb5;refine jC (λD=>[RK.val (s,6),.val (.slice L m N),.val (gb,0),.val (gb,0),.val (gb,11),.val (.slice ga gn gc),.val (D 6),.val (D 7),.val (D 8),.val (s,6)]) [68,69,70,71,72,73,74,75,76,77] [6,7,8] (λj9 D r=>kT w7 M (.slice T V U) s m L N d6 vs j9 (D 6) (D 7) (D 8) r) (λ_=>by kernel_rfl) (λ_ _=>by repeat first|exact .nil|refine .same ?_|refine .AK (by kernel_rfl) ?_) (λ_=>rfl) (λj9 D r m6 z=>?_) ?_ ?_ ?_
       ·have l2:=z.dM;refine .run (by kernel_rfl) ?_;refine jh (ej l2 6 rfl) (by kernel_rfl) ?_;iterate 3 refine .run (by kernel_rfl) ?_
        refine jh (i6.o j9 r (D 6) (D 7) (D 8) z) (by kernel_rfl) ?_;refine .skip ?_;refine .skip ?_;refine .skip ?_;refine .run (by kernel_rfl) ?_;exact .nil
       ·intro t D r a ht z Z;replace ht:t<3:=ht;have hc:t=0\/t=1\/t=2:=by omega
        rcases hc with rfl|rfl|rfl
        ·skip;subst Z;refine mK rfl rfl (by kernel_rfl) ((i5.o r (z.lt (by decide))).m λe w8 hh=>?_);exact z.call (by decide) (by decide) hh
        ·skip;obtain⟨a9,n9,c9,d5⟩:=z.pt;have u0:a.eval (.tmp 74)= .slice a9 n9 c9:=(tE Z (by kernel_rfl)).t d5;rw[gm]at u0;refine jK rfl rfl (.slice (de ⟨r.heap.size,0,dl⟩) 1 1) (w':=r.alloc (.cells #[.slice a9 n9 c9] 39 (0,0))) ?_ ⟨_,rfl,z.lit (by decide) (by decide) d5⟩;simp[execOp,go_sem,u0]
         <;>rfl
        ·skip;obtain⟨l7,h7⟩:=z.Ou;have u0:a.eval (.tmp 69)= .slice L m N:=tE Z (by kernel_rfl);have u1:a.eval (.tmp 75)= .slice (l7,0) 1 1:=(tE Z (by kernel_rfl)).t h7;exact z.Oh (by decide) (by decide) a0 a7.o h7 rfl rfl (.tmp 69) (.tmp 75) ⟨rfl,rfl⟩ u0 u1
       ·intro D r a z Z;obtain⟨va,vc,d5⟩:=z.NL;have e1:a.eval (.tmp 77)= (s,6):=tE Z (by kernel_rfl);have e2:a.eval (.tmp 76)= .slice va (m+1) vc:=(tE Z (by kernel_rfl)).t d5;refine fh (λa8 w8 hh=>?_) (kq rfl rfl rfl 30 (.tmp 77) (.tmp 76) rfl e1 e2 (iG va (m+1) vc (ej z.dM 6 rfl) (aO z.dM 6) (by kernel_rfl)));obtain⟨rfl,rfl⟩:=hh;have j8:=ae (z.next a7.o a0 d5);subst Z;clear e1 e2 z;simp only[eS,Act.put,aq,aF,aG];go_wp2_with fail
        go_roundg g
        ·refine⟨m+1,by omega,by go_num,ae ?_⟩;obtain⟨o9,v9,h9⟩:=j8.o.o;exact⟨_,_,o9,v9,h9⟩
        ·omega
       ·exact kT.start a7.o i7.o
theorem Jw{w:ax}{b:Nat}{tmps:Array bd}{x:Bool}{cs:List bd}(a:cs.length=13)(c:tmps.getD 2 undef= (b,0))(d:tmps.getD 3 undef= .bool x)
  (h1:w.heap[b]?=de (.cells cs.toArray 34 (0,0))):
  (results Tryz.f9 tmps).run ed w= .ok (.tuple #[.agg cs.toArray,.bool x]) w:=by
 have e:=aU (P:=ed) w b 0 34 cs _ (bu h1) Tryz.underlying34 rfl (by rw[a];exact rY);rw[dC Tryz.results9 c e,d]
theorem kU.cells{B:Nat}{w:ax}{v:bd}{M:aT}(h:kU B w v M):∃b off c a d,v= .agg (fp M.cz.length (λj=>(M.nd j).up) (.slice (de ⟨b,off,dl⟩) 5 c) (λj=>M.bad.getD j 0) (.slice a M.told.length d)).toArray:=by
 obtain⟨b,off,c,vs,tv,rfl,-,-,-,-,⟨a,d,rfl,-⟩,-⟩:=h;exact⟨b,off,c,a,d,rfl⟩
theorem LA(v:bd)(l:List mE)(W:ax)(hv:lm W v l)(h:oP l)(hk:Kn W)(Z:Nd W):
  bl ed 9 #[v] W λe U=>∃Q,e= .returned (.tuple #[Q,.bool dE])/\kU W.heap.size U Q (ow l)/\dd W.heap.size W U:=by
 have HV:=ae hv;have HK:=ae hk;have HD:=ae Z;have HS:=ae h;clear hv hk Z h;obtain⟨M,J⟩:=aK (ow l);have R:=ae (λB (hb:dd W.heap.size W B)=>Cq v l B (HV.o.stay hb) HS.o (HK.o.stay hb) (HD.o.stay hb));rw[<-J]at R;have HM:=ae J;clear J;go_enter func9,ntmps9
 go_upto_region 1 with fail
 generalize b:World.alloc _ _=B;obtain⟨m,F⟩:=aK W.heap.size;have y:=ae (gv b);have E:=ae (show B.heap[m]?=de (.cells je.toArray 34 (0,0)) by rw[<-b,F];exact aL W _);have a3:=ae F;rw[<-F];clear b F;have a2:=ae (R.o B y.o);go_upto_region 2 with(go_at_call 16;refine a2.o.m ?_;rintro e r ⟨Q,rfl,L,a0⟩;have HO:=ae L;have C:=ae a0;obtain⟨N,P,O,ta,tc,rfl⟩:=L.cells;clear L a0;simp only[fp])
 generalize b:World.alloc _ _=w3;obtain⟨u,G⟩:=aK r.heap.size;obtain⟨cs,n⟩:=aK (fp M.cz.length (λj=>(M.nd j).up) (.slice (N,P) 5 O) (λj=>M.bad.getD j 0) (.slice ta M.told.length tc));have V:=ae (show w3.heap[u]?=de (.cells cs.toArray 34 (0,0)) by rw[<-b,G,n];exact aL r _);have D:=ae (gv b);have XL:m<r.heap.size:=ai (hF E.o) C.o.size;have a4:=ae G;have a1:=ae n;have z:=ae (show cs.length=13 by rw[n];rfl);have Y:cs[6]?=de (.slice (N,P) 5 O):=by rw[n];rfl
 have C6:=ae Y;have a5:=ae (show cs.toArray.all (·.oneCell')=dE by rw[n];exact CS _ _ _ _ _ _ _ _ _);rw[<-G];clear b G n Y;refine wp_region_held_drew (S:=λW9=>W9.heap[u]?=w3.heap[u]?) (by kernel_rfl) rfl (λhS=>?_);refine dU (i:=0) (oi:={dst:=de 11,op:=_,type:=_,pos:=_,after:=_,guard:=dl}) (v:=_) rfl (by kernel_rfl) (by kernel_rfl) (by kernel_rfl) (λ_ _ _ h=>h) (yieldsIf_load_mid (by rfl) 34 (.tmp 4) rfl u 0 rfl cs _ (λ_ h=>bu (h.t V.o)) Tryz.underlying34 rfl (by rw[z.o];exact rY)) hS ?_;try simp only[Act.put,aq,aF,aG]
 refine dU (i:=1) (oi:={dst:=de 12,op:=_,type:=_,pos:=_,after:=_,guard:=dl}) (v:= .int .i64 0) rfl (by kernel_rfl) (by kernel_rfl) (by kernel_rfl) (λ_ _ _ h=>h) (Or.inl ⟨by rfl,λW hw=>?_⟩) hS ?_
 ·go_simp
 try simp only[Act.put,aq,aF,aG]
 refine dU (i:=2) (oi:={dst:=de 13,op:=_,type:=_,pos:=_,after:=_,guard:=dl}) (v:= .bool dE) rfl (by kernel_rfl) (by kernel_rfl) (by kernel_rfl) (λ_ _ _ h=>h) (Or.inl ⟨by rfl,λW hw=>?_⟩) hS ?_
 ·go_simp
 try simp only[Act.put,aq,aF,aG]
 refine dU (i:=3) (oi:={dst:=de 14,op:=_,type:=_,pos:=_,after:=_,guard:=dl}) (v:= .bool dE) rfl (by kernel_rfl) (by kernel_rfl) (by kernel_rfl) (λ_ _ _ h=>h) (Or.inl ⟨by rfl,λW hw=>?_⟩) hS ?_
 ·go_simp
 try simp only[Act.put,aq,aF,aG]
 refine dU (i:=4) (oi:={dst:=de 15,op:=_,type:=_,pos:=_,after:=_,guard:=de (3,dE)}) (v:= (u,6)) rfl (by kernel_rfl) (by kernel_rfl) (by kernel_rfl) (λ_ _ _ h=>h) (Or.inl ⟨by rfl,λW hw=>?_⟩) hS ?_
 ·go_simp
 try simp only[Act.put,aq,aF,aG]
 refine dU (i:=5) (oi:={dst:=de 16,op:=_,type:=_,pos:=_,after:=_,guard:=de (3,dE)}) (v:= .slice (N,P) 5 O) rfl (by kernel_rfl) (by kernel_rfl) (by kernel_rfl) (λ_ _ _ h=>h) (Or.inl ⟨by rfl,λW hw=>?_⟩) hS ?_
 ·have q1:=ej (hw.t V.o) 6 (by simpa using C6.o);go_simp
 try simp only[Act.put,aq,aF,aG]
 refine dU (i:=6) (oi:={dst:=de 17,op:=_,type:=_,pos:=_,after:=_,guard:=de (3,dE)}) (v:= .int .i64 5) rfl (by kernel_rfl) (by kernel_rfl) (by kernel_rfl) (λ_ _ _ h=>h) (Or.inl ⟨by rfl,λW hw=>?_⟩) hS ?_
 ·go_simp
 try simp only[Act.put,aq,aF,aG]
 refine dU (i:=7) (oi:={dst:=de 18,op:=_,type:=_,pos:=_,after:=_,guard:=de (3,dE)}) (v:= .bool dE) rfl (by kernel_rfl) (by kernel_rfl) (by kernel_rfl) (λ_ _ _ h=>h) (Or.inl ⟨by rfl,λW hw=>?_⟩) hS ?_
 ·go_simp
 try simp only[Act.put,aq,aF,aG]
 refine dU (i:=8) (oi:={dst:=de 19,op:=_,type:=_,pos:=_,after:=_,guard:=dl}) (v:= .bool dE) rfl (by kernel_rfl) (by kernel_rfl) (by kernel_rfl) (λ_ _ _ h=>h) (Or.inl ⟨by rfl,λW hw=>?_⟩) hS ?_
 ·go_simp
 try simp only[Act.put,aq,aF,aG]
 refine wpAnyH_ready (rs:=[9]) (by kernel_rfl) (by simp) ?_;refine AllReadyH.cons (o:={dst:=dl,op:= .store 34 (.tmp 2) (.tmp 11),type:=_,pos:=_,after:=_,guard:=dl}) rfl (λK hK=>?_) AllReadyH.nil;rw[ar (by rfl)];have X:w3.drew.heap[m]?=de (.cells je.toArray 34 (0,0)):=(D.o.block m XL).t ((C.o.block m (hF E.o)).t E.o);refine wp_store_mid 34 (.tmp 2) (.tmp 11) rfl m 0 cs.toArray rfl rfl ?_ (by rw[dL,z.o];exact rY) a5.o ?_
 ·rw[dL,z.o];exact dr X rfl
 generalize b:World.setCells _ _ _ _=I;have a6:u≠m:=by have:=a4.o;omega
 have U1:=ae (show I.heap[m]?=de (.cells cs.toArray 34 (0,0)) by rw[<-b];exact dI (vs:=cs) X (by rw[z.o];rfl));have UB:=ae (show dd W.heap.size W I by rw[<-b];exact bp (gi a3.o.symm) _ _ _ (((y.o.t (C.o.m y.o.size)).t (D.o.m (aE y.o.size C.o.size))).drew));have T:=ae (show(∀q,q≠m->q<r.heap.size->I.heap[q]?=r.heap[q]?)/\r.heap.size<=I.heap.size from⟨λq hq hl=>by rw[<-b];exact(Go.Con.bE hq _ _ _).t (D.o.block q hl),by rw[<-b,mQ];exact D.o.size⟩);refine hK.o _ _ (by rw[<-b];exact Go.Con.bE a6 _ _ _) (λhS=>?_);clear b hK;try simp only[Act.put,aq,aF,aG]
 refine dU (i:=10) (oi:={dst:=de 3,op:=_,type:=_,pos:=_,after:=_,guard:=dl}) (v:= .bool dE) rfl (by kernel_rfl) (by kernel_rfl) (by kernel_rfl) (λ_ _ _ h=>h) (Or.inl ⟨by rfl,λW hw=>?_⟩) hS ?_
 ·go_simp
 try simp only[Act.put,aq,aF,aG]
 refine wpAnyH_done (by kernel_rfl) ?_ _;go_wp2_with fail
 refine aH (v:=_) (Jw z.o rfl rfl U1.o) rfl ?_;refine⟨_,rfl,?_,UB.o⟩;rw[a1.o];rw[<-HM.o];exact(HO.o.heap (λq hq hl=>T.o.1 q (by have:=hF E.o;omega) hl) T.o.2).m y.o.size
set_option maxHeartbeats 400000
structure yC(w:ax)(M:aT)(f:Int)(u0 u1 u2 u3 u4:Bool)(b off c:Nat)(b0 b1 b2 b3 b4:Int)(ta:Option Addr)(tn tc:Nat):Prop where
 c5:5<=c
 cm:c<=9223372036854775807
 lt:b<w.heap.size
 log:∀j,j<5->∃a n k,w.cell? (b,off+j)=de (.slice a n k)/\oQ w (.slice a n k) (M.nd j).log
 told:gN 5 ee Mq w (.slice ta tn tc) M.told
 cz:f=M.cz.length
 up:u0=(M.nd 0).up/\u1=(M.nd 1).up/\u2=(M.nd 2).up/\u3=(M.nd 3).up/\u4=(M.nd 4).up
 bad:b0=M.bad.getD 0 0/\b1=M.bad.getD 1 0/\b2=M.bad.getD 2 0/\b3=M.bad.getD 3 0/\b4=M.bad.getD 4 0
theorem kU.lit{B:Nat}{w:ax}{v:bd}{M:aT}(h:kU B w v M):∃f u0 u1 p u3 q b off c i b1 b2 l m d o g,v= .agg #[.int .i64 f,.bool u0,.bool u1,.bool p,.bool u3,.bool q,.slice (de ⟨b,off,dl⟩) 5 c,.int .i64 i,.int .i64 b1,.int .i64 b2,.int .i64 l,.int .i64 m,.slice d o g]/\yC w M f u0 u1 p u3 q b off c i b1 b2 l m d o g:=by
 obtain⟨b,off,c,vs,tv,rfl,h5,hc,⟨r,s⟩,hl,n,t⟩:=h;obtain⟨d,g,rfl,-⟩:=id n;refine⟨_,_,_,_,_,_,b,off,c,_,_,_,_,_,d,_,g,rfl,h5,hc,r,λj hj=>?_,n,rfl,⟨rfl,rfl,rfl,rfl,rfl⟩,⟨rfl,rfl,rfl,rfl,rfl⟩⟩;obtain⟨h1,h2,-⟩:=hl j hj;obtain⟨a,k,e,-⟩:=id h2;rw[e]at h1 h2;exact⟨a,_,k,h1,h2⟩
theorem yC.stay{w w':ax}{M:aT}{f:Int}{u0 u1 o u3 q:Bool}{b off c:Nat}{d b1 b2 e g:Int}{i:Option Addr}{m l:Nat}(h:yC w M f u0 u1 o u3 q b off c d b1 b2 e g i m l)(hb:dd w.heap.size w w'):yC w' M f u0 u1 o u3 q b off c d b1 b2 e g i m l:=
 ⟨h.c5,h.cm,ai h.lt hb.size,λj hj=>by
  obtain⟨a,n,k,h1,h2⟩:=h.log j hj;exact⟨a,n,k,(hb.cell (p:=(b,off+j)) h.lt).t h1,h2.stay hb⟩,h.told.stay hb,h.cz,h.up,h.bad⟩
theorem _root_.Go.Con.gN.front{α:Type}{k:Nat}{f:α->List bd}{d:α}{w:ax}{a:Option Addr}{n c:Nat}{l:List α}(h:gN k f d w (.slice a n c) l)(m:Nat)(hm:m<=n):gN k f d w (.slice a m m) (l.take m):=by
 obtain⟨a',o,h0,h1,h2,h3⟩:=h;injection h0 with e1 e2 e3;subst e1 e3;have hlen:(l.take m).length=m:=by simp;omega
 refine⟨a,m,by rw[hlen],by omega,by omega,λg=>?_⟩;obtain⟨b,off,rfl,hb,hc⟩:=h3 (λe=>g (by rw[e];simp));refine⟨b,off,rfl,hb,λi hi j hj=>?_⟩;rw[hlen]at hi;rw[hc i (by omega) j hj,au,au,cR,ar (by omega)]
theorem lm.front{w:ax}{a:Option Addr}{n c:Nat}{l:List mE}(h:lm w (.slice a n c) l)(m:Nat)(hm:m<=n):lm w (.slice a m m) (l.take m):=⟨h.1.front m hm,λx hx=>h.2 x (jY hx)⟩
theorem oP.take{l:List mE}(h:oP l)(k:Nat):oP (l.take k):=⟨by rw[aM];have:=h.1;omega,λx hx=>h.2 x (jY hx)⟩
theorem oP.ok{l:List mE}(h:oP l):∀a∈l.map Mj,oq (·∈xg l) a:=λa b=>by
 obtain⟨x,hx,rfl⟩:=cH.1 b;exact Dk (yl (h.2 x hx)) hx
def sL(l:List mE)(k a:Nat):List bk:=((ow (l.take k)).nd a).log
theorem Bw{l:List mE}(h:oP l){j k a b:Nat}(d:j<=k)(c:a<5)(hb:b<5):Alike (sL l k b) (sL l j a):=by
 intro i hi hj;have e:∀k,ow (l.take k)=pS ((l.map Mj).take k):=λk=>by unfold ow;rw[List.map_take]
 unfold sL at hi hj|-;rw[e]at hi hj|-;rw[e];have h1:=DQ (pY l) h.ok d c hb (s:=i) (aC hj) (aC hi);rw[au,au,aC hi,aC hj];exact h1.symm
end Go.Proofs.YtcdmenphjilnnaaGreatDoor
