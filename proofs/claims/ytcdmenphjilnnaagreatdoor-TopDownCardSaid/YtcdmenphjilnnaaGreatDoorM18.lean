/-
  Parts of the proofs of the laws of the whole (what the functions compute, and plain laws of it); no conditions.
-/
import Derived.Test.YtcdmenphjilnnaaGreatDoorM13
set_option linter.unusedVariables false
set_option linter.unusedSimpArgs false
set_option maxRecDepth 100000
set_option maxHeartbeats 1000000
open Go.Proofs.Tryz
open Go renaming World->ax,Value->bd,Calls->bl
open Go.RowKit renaming Below->dd
open Option renaming some->de,none->dl
open Bool renaming true->dE,false->dT
open Go.Proofs.Tryz renaming prog->ed
abbrev List.Perm.t:=@List.Perm.trans
namespace Go.Proofs.YtcdmenphjilnnaaGreatDoor
open Go.RowKit Go.Con
set_option maxHeartbeats 400000
theorem bf(M:aT)(i:Nat)(n:dZ):(M.aX i n).nd i=n:=by unfold aT.aX;simp
theorem iB(M:aT){i j:Nat}(n:dZ)(h:j≠i):(M.aX i n).nd j=M.nd j:=by unfold aT.aX;simp[h]
theorem eU(M:aT)(i:Nat)(a b:dZ):(M.aX i a).aX i b=M.aX i b:=by
 unfold aT.aX;simp only[aT.mk.injEq,and_true,true_and];funext j;by_cases h:j=i<;>simp[h]
theorem wg(M:aT)(i:Nat)(n:dZ):(M.aX i n).told=M.told:=rfl
theorem Hg(l:List bk)(c:bk):l.erase c=if c∈l then l.eraseIdx (l.idxOf c)else l:=by
 by_cases h:c∈l
 ·rw[ar h,List.erase_eq_eraseIdx_of_idxOf rfl]
 ·rw[ak h,ni h]
theorem uN{M:aT}{i f:Nat}(h:cd (M.nd i).known ((M.nd i).log.length:Int)=dl):aT.jR f M i=M:=by
 cases f with
 |zero=>rfl
 |succ f=>unfold aT.jR;rw[h]
theorem uM{M:aT}{i f:Nat}{c:bk}(h:cd (M.nd i).known ((M.nd i).log.length:Int)=de c):aT.jR (f+1) M i=aT.jR f (M.fX i c) i:=by
 conv=>lhs;unfold aT.jR
 rw[h]
end Go.Proofs.YtcdmenphjilnnaaGreatDoor
namespace Go.Con
set_option maxHeartbeats 400000
theorem BP(n:Nat)(h:n<4294967296):(UInt8.ofNat (n/16777216)).toNat*16777216+(UInt8.ofNat (n/65536)).toNat*65536+(UInt8.ofNat (n/256)).toNat*256+(UInt8.ofNat n).toNat=n:=by
 rw[bM,bM,bM,bM];omega
end Go.Con
namespace Go.Proofs.YtcdmenphjilnnaaGreatDoor
open Go.RowKit Go.Con
set_option maxHeartbeats 400000
theorem iu(z:Int)(l:List UInt8)(h0:0<=z)(h1:z<4294967296):((oL (gx z.toNat++l):Nat):Int)=z:=by
 have h:=BP z.toNat (by omega);show(((UInt8.ofNat (z.toNat/16777216)).toNat*16777216+(UInt8.ofNat (z.toNat/65536)).toNat*65536+(UInt8.ofNat (z.toNat/256)).toNat*256+(UInt8.ofNat z.toNat).toNat:Nat):Int)=z;rw[h];omega
theorem Hu(c:bk):pW c=gx c.kind.toNat++(gx c.bD.toNat++(gx c.seq.toNat++(gx c.name.toNat++(gx c.value.toNat++[])))):=by
 simp[pW,zZ,bk.AJ]
theorem nH(l:List UInt8)(k:Nat):gy l k=((oL (l.drop (4*k)):Nat):Int):=by
 unfold gy oL;simp[au,gZ]
theorem Ae(c:bk)(hc:cS c=0):kh (pW c)=(c,0):=by
 have a:=uJ c hc;have e:jz (pW c)=c:=by
  unfold jz;rw[Hu];have f:=λk=>a k;have f0:0<=c.kind/\c.kind<=1073741824:=f 0;have f1:0<=c.bD/\c.bD<=1073741824:=f 1;have f2:0<=c.seq/\c.seq<=1073741824:=f 2;have f3:0<=c.name/\c.name<=1073741824:=f 3;have f4:0<=c.value/\c.value<=1073741824:=f 4;have d:∀(n:Nat) (l:List UInt8) (k:Nat),(gx n++l).drop (k+4)=l.drop k:=λn l k=>by rw[Nat.add_comm,<-iT];rfl
  rw[nH,nH,nH,nH,nH];simp only[Nat.reduceMul,cC];rw[iu _ _ f0.1 (by omega),show(4:Nat)=0+4 from rfl,d,cC,iu _ _ f1.1 (by omega)];rw[show(8:Nat)=0+4+4 from rfl,d,d,cC,iu _ _ f2.1 (by omega)];rw[show(12:Nat)=0+4+4+4 from rfl,d,d,d,cC,iu _ _ f3.1 (by omega)];rw[show(16:Nat)=0+4+4+4+4 from rfl,d,d,d,d,cC,iu _ _ f4.1 (by omega)]
 have hl:(pW c).length=20:=nG c;rw[kh,ak (by rw[hl];decide),e,ak (by rw[hc];decide)]
theorem uY(a:eL){b:Int×Int}(h:okB b=dE):eD a (Tp.iJ b.1 b.2)=oG a b:=by
 have hb:(1<=b.1/\b.1<=65536)/\(0<=b.2/\b.2<5):=by simp[okB]at h;omega
 rw[eD,ar ⟨ny _ _,rfl⟩];have e1:(Tp.iJ b.1 b.2).drop 1=gx b.1.toNat++(gx b.2.toNat++[]):=by simp[Tp.iJ,gH]
 have e2:(Tp.iJ b.1 b.2).drop 5=gx b.2.toNat++[]:=by
  rw[show(5:Nat)=1+4 from rfl,<-iT,e1];rfl
 have e:uW (Tp.iJ b.1 b.2)=b:=by
  rw[uW,e1,e2,iu _ _ (by omega) (by omega),iu _ _ (by omega) (by omega)]
 rw[e]
theorem Cm(a:eL){y:cF}(h:jJ y=dE):eD a (Tp.sV y.slot y.bG.1 y.bG.2 y.cW.kind y.cW.bD y.cW.seq y.cW.name y.cW.value)=pq a y:=by
 obtain⟨h1,h2,h3,h4⟩:=eV h;have hb:(1<=y.bG.1/\y.bG.1<=65536)/\(0<=y.bG.2/\y.bG.2<5):=by simp[okB]at h3;omega
 obtain⟨B,b⟩:=aK (Tp.sV y.slot y.bG.1 y.bG.2 y.cW.kind y.cW.bD y.cW.seq y.cW.name y.cW.value);rw[<-b];have e1:B.drop 1=gx y.slot.toNat++(gx y.bG.1.toNat++(gx y.bG.2.toNat++pW y.cW)):=by rw[b];simp[Tp.sV,gH]
 have e2:B.drop 5=gx y.bG.1.toNat++(gx y.bG.2.toNat++pW y.cW):=by
  rw[show(5:Nat)=1+4 from rfl,<-iT,e1];rfl
 have e3:B.drop 9=gx y.bG.2.toNat++pW y.cW:=by
  rw[show(9:Nat)=5+4 from rfl,<-iT,e2];rfl
 have c:B.drop 13=pW y.cW:=by
  rw[show(13:Nat)=9+4 from rfl,<-iT,e3];rfl
 have hl:B.length=33:=by rw[b];exact sU _ _ _ _ _ _ _ _
 have h0:B.getD 0 0=2:=by rw[b];rfl
 have e:uV B=y:=by
  rw[uV,e1,e2,e3,c,iu _ _ (by omega) (by omega),iu _ _ (by omega) (by omega),iu _ _ (by omega) (by omega),Ae _ h4]
 rw[eD,ak (by rw[hl];omega),ar ⟨hl,h0⟩,c,Ae _ h4,ar rfl,e]
theorem nu(a:eL):eR a []=dl:=by
 unfold eR;simp
theorem rT{a c:eL}{b:List UInt8}(rest:List UInt8)(hb:b.length<=200)(hc:eD a b=de c):eR a (Tp.frame b++rest)=de (c,b.length+5):=by
 have g:(UInt8.ofNat b.length).toNat=b.length:=by rw[bM];omega
 have hs:((Sha.sum (Tp.head b)).take 4).length=4:=by rw[aM,Sha.gK];rfl
 have d:(Tp.head b).length=1+b.length:=by rw[Tp.head,aZ];omega
 have e:Tp.frame b++rest=Tp.head b++((Sha.sum (Tp.head b)).take 4++rest):=by rw[Tp.frame,bJ]
 have f:(Tp.frame b++rest).getD 0 0=UInt8.ofNat b.length:=rfl;have hl:(Tp.frame b++rest).length=1+b.length+4+rest.length:=by rw[e,aD,aD,d,hs];omega
 rw[eR,ak (by omega),f,g,ak (by omega),e,gF d,List.drop_left' d,gF hs,ar rfl];have e1:((Tp.head b++((Sha.sum (Tp.head b)).take 4++rest)).drop 1).take b.length=b:=by
  show(b++((Sha.sum (Tp.head b)).take 4++rest)).take b.length=b;exact gF rfl
 rw[e1,hc];show de (c,1+b.length+4)=_;congr 2;omega
theorem ku(b:List UInt8):(Tp.frame b).length=b.length+5:=by
 rw[Tp.frame,aD,aM,Sha.gK,Tp.head,aZ];omega
theorem zh{a:eL}{b:List UInt8}{k:Nat}(hb:b.length<=200)(hk:k<b.length+5):eR a ((Tp.frame b).take k)=dl:=by
 have d:(UInt8.ofNat b.length).toNat=b.length:=by rw[bM];omega
 have hl:((Tp.frame b).take k).length=k:=by rw[aM,ku];omega
 rcases pj k with rfl|hp
 ·rw[eR,ar hl]
 ·have c:((Tp.frame b).take k).getD 0 0=UInt8.ofNat b.length:=by
   obtain⟨j,rfl⟩:∃j,k=j+1:=⟨k-1,by omega⟩
   rfl
  rw[eR,ak (by omega),c,d,ar (by omega)]
theorem wm{a c:eL}{d d2:List UInt8}{k:Nat}(h:eR a d=de (c,k))(he:d2.take k=d.take k)(hk:k<=d2.length):eR a d2=de (c,k):=by
 have hp:=lL h;have b:d2.getD 0 0=d.getD 0 0:=by
  have e1:∀l:List UInt8,l.getD 0 0=(l.take k).getD 0 0:=λl=>by
   simp only[au,cR];rw[ar (by omega)]
  rw[e1 d2,e1 d,he]
 unfold eR at h|-;rw[b];split at h
 ·cases h
 ·split at h
  ·cases h
  ·split at h
   ·rename_i h1 h2 h3;obtain⟨x,hx,hy⟩:=ji.1 h;injection hy with e f;subst e;have t1:∀l:List UInt8,l.take (1+(d.getD 0 0).toNat)=(l.take k).take (1+(d.getD 0 0).toNat):=λl=>by rw[iS];congr 1;omega
    have t2:∀l:List UInt8,(l.drop (1+(d.getD 0 0).toNat)).take 4=(l.take k).drop (1+(d.getD 0 0).toNat):=λl=>by rw[List.drop_take];congr 1;omega
    have t3:∀l:List UInt8,(l.drop 1).take (d.getD 0 0).toNat=((l.take k).drop 1).take (d.getD 0 0).toNat:=λl=>by rw[List.drop_take,iS];congr 1;omega
    rw[ak (by omega),ak (by omega),ar (by rw[t1 d2,t2 d2,he,<-t1,<-t2];exact h3),t3 d2,he,<-t3,hx,<-f];rfl
   ·cases h
theorem nQ:∀(m:Nat) (a:eL) (d rest:List UInt8),d.length<=m->(cE a d).2=d.length->cE a (d++rest)=((cE (cE a d).1 rest).1,d.length+(cE (cE a d).1 rest).2)
 |m,a,d,rest,hm,b=>by
  cases hr:eR a d with
  |none=>
   rw[eK hr]at b|-;have:d=[]:=qV.1 b.symm;subst this;simp
  |some ck=>
   obtain⟨c,k⟩:=ck;have hp:=lL hr;have e:eR a (d++rest)=de (c,k):=wm hr (gu hp.2) (by rw[aD];omega);rw[ie hr]at b|-;rw[ie e,List.drop_append_of_le_length hp.2];cases m with
   |zero=>omega
   |succ m=>
    have f:k+(cE c (d.drop k)).2=d.length:=b;have hd:(d.drop k).length=d.length-k:=cO;have h:=nQ m c (d.drop k) rest (by omega) (by omega);rw[h];refine Prod.ext rfl ?_;show k+((d.drop k).length+(cE (cE c (d.drop k)).1 rest).2)=d.length+(cE (cE c (d.drop k)).1 rest).2;omega
theorem rV:∀(m:Nat) (a:eL) (d:List UInt8),d.length<=m->cE a (d.take (cE a d).2)=cE a d
 |m,a,d,hm=>by
  cases hr:eR a d with
  |none=>
   rw[eK hr];exact eK (by rw[cQ];exact nu _)
  |some ck=>
   obtain⟨c,k⟩:=ck;have hp:=lL hr;cases m with
   |zero=>omega
   |succ m=>
    have hle:=nw m c (d.drop k) (by simp;omega);have h:=rV m c (d.drop k) (by simp;omega);rw[cO]at hle;rw[ie hr];have b:eR a (d.take (k+(cE c (d.drop k)).2))=de (c,k):=wm hr (by rw[iS];congr 1;omega) (by rw[aM];omega);show cE a (d.take (k+(cE c (d.drop k)).2))=_;rw[ie b];have e:(d.take (k+(cE c (d.drop k)).2)).drop k=(d.drop k).take (cE c (d.drop k)).2:=by rw[List.drop_take];congr 1;omega
    rw[e,h]
inductive Ms(a0:eL):List UInt8->List eL->eL->Prop
 |zero:Ms a0 [] [] a0
 |add {D:List UInt8} {l:List eL} {a c:eL} {b:List UInt8}:Ms a0 D l a->b.length<=200->eD a b=de c->Ms a0 (D++Tp.frame b) (l++[a]) c
theorem Ms.full{a0 a:eL}{D:List UInt8}{l:List eL}(h:Ms a0 D l a):cE a0 D=(a,D.length):=by
 induction h with
 |zero=>exact eK (nu _)
 |@add D l a c b _ hb hc d=>
  have h1:=rT [] hb hc;rw[List.append_nil]at h1;have h2:cE c ((Tp.frame b).drop (b.length+5))=(c,0):=eK (by rw[mz (by rw[ku];omega)];exact nu _);rw[nQ D.length a0 D _ (ag _) (by rw[d]),d,ie h1,h2];simp[ku]
theorem Ms.ok{a0 a:eL}{D:List UInt8}{l:List eL}(h:Ms a0 D l a)(h0:a0.ok=dE):a.ok=dE/\∀c∈l,c.ok=dE:=by
 induction h with
 |zero=>exact⟨h0,λc hc=>by cases hc⟩
 |@add D l a c b e hb hc d=>exact⟨xq d.1 hc,λx hx=>(dR.1 hx).elim (d.2 x) λhx=>(cL.1 hx)▸d.1⟩
def fS(b:Int×Int):Nat:=(b.1*5+b.2).toNat
def yH(b:Int×Int):Prop:=b=(0,0)\/okB b=dE
theorem tB{b:Int×Int}:okB b=dE<->1<=b.1/\b.1<=65536/\0<=b.2/\b.2<5:=by
 unfold okB;simp only[aP,ap]
theorem yH.num{b:Int×Int}(h:yH b):0<=b.1/\b.1<=65536/\0<=b.2/\b.2<5:=by
 rcases h with h|h
 ·subst h;decide
 ·rw[tB]at h;omega
theorem yH.int{b:Int×Int}(h:yH b):((fS b:Nat):Int)=b.1*5+b.2:=by
 have:=h.num;unfold fS;omega
theorem uK{a b:Int×Int}(c:yH a)(hb:yH b):dX a b<0<->fS a<fS b:=by
 rw[uO];have h1:=c.int;have h2:=hb.int;have h3:=c.num;have h4:=hb.num;omega
theorem BV{a b:Int×Int}(c:yH a)(hb:yH b):dX a b<=0<->fS a<=fS b:=by
 rw[pd];have h1:=c.int;have h2:=hb.int;have h3:=c.num;have h4:=hb.num;omega
theorem rz{a b:Int×Int}(c:yH a)(hb:yH b):later a b=dE<->fS b<fS a:=by
 unfold later;rw[ap];have h1:=c.int;have h2:=hb.int;have h3:=c.num;have h4:=hb.num;omega
theorem zX{b:Int×Int}(h:yH b):((fS b%5:Nat):Int)=b.2:=by
 have h1:=h.int;have h3:=h.num;omega
structure eN where
 h:Nat->Nat->Nat->Option bk
 p:Nat->Nat
 v:Nat->Nat->Option bk
def eN.zero:eN:=⟨λ_ _ _=>dl,λ_=>0,λ_ _=>dl⟩
def eN.at(S:eN)(s:Nat):yJ bk:=⟨S.h s,S.p,S.v s⟩
def eN.Ok(S:eN):Prop:=∀s,(S.at s).Ok
theorem eN.sR:eN.zero.Ok:=λs=>⟨λa b x h=>(by cases h),λa b x h=>(by cases h),λb x h=>(by cases h)⟩
def eN.raise(S:eN)(a b:Nat):eN:={S with p:=λc=>if c=a then b else S.p c}
def eN.cast(S:eN)(a s b:Nat)(x:bk):eN:={S with h:=λt c d=>if t=s/\c=a/\d=b then de x else S.h t c d,p:=λc=>if c=a then b else S.p c}
def eN.ask(S:eN)(s b:Nat)(x:bk):eN:={S with v:=λt d=>if t=s/\d=b then de x else S.v t d}
structure eN.Le(S T:eN):Prop where
 p:∀a,S.p a<=T.p a
 h:∀s a d x,S.h s a d=de x->T.h s a d=de x
 AI:∀s a d,d<S.p a->T.h s a d=S.h s a d
 v:∀s d x,S.v s d=de x->T.v s d=de x
theorem eN.Le.refl(S:eN):S.Le S:=⟨λ_=>ag _,λ_ _ _ _ h=>h,λ_ _ _ _=>rfl,λ_ _ _ h=>h⟩
theorem eN.Le.t{S T U:eN}(h:S.Le T)(k:T.Le U):S.Le U:=
 ⟨λa=>aE (h.p a) (k.p a),λs a d x e=>k.h s a d x (h.h s a d x e),λs a d e=>(k.AI s a d (ai e (h.p a))).t (h.AI s a d e),λs d x e=>k.v s d x (h.v s d x e)⟩
theorem eN.Le.none{S T:eN}(h:S.Le T){s d:Nat}(e:T.v s d=dl):S.v s d=dl:=by
 cases hs:S.v s d with
 |none=>rfl
 |some x=>rw[h.v s d x hs]at e;cases e
structure eN.By(i:Nat)(S T:eN):Prop where
 le:S.Le T
 p:∀j,j≠i->T.p j=S.p j
 h:∀s j d,j≠i->T.h s j d=S.h s j d
 v:∀s d,d%5≠i->T.v s d=S.v s d
theorem eN.By.refl(i:Nat)(S:eN):S.By i S:=⟨.refl S,λ_ _=>rfl,λ_ _ _ _=>rfl,λ_ _ _=>rfl⟩
theorem eN.By.t{i:Nat}{S T U:eN}(h:S.By i T)(k:T.By i U):S.By i U:=
 ⟨h.le.t k.le,λj hj=>(k.p j hj).t (h.p j hj),λs j d hj=>(k.h s j d hj).t (h.h s j d hj),λs d hd=>(k.v s d hd).t (h.v s d hd)⟩
def eN.lq(S:eN)(s:Nat)(c:bk):Prop:=∃b Q,II Q/\∀a∈Q,S.h s a b=de c
theorem eN.lq.le{S T:eN}{s:Nat}{c:bk}(h:S.lq s c)(k:S.Le T):T.lq s c:=by
 obtain⟨b,Q,h1,h2⟩:=h;exact⟨b,Q,h1,λa d=>k.h s a b c (h2 a d)⟩
theorem eN.lq.one{S:eN}(hS:S.Ok){s:Nat}{c d:bk}(h:S.lq s c)(k:S.lq s d):c=d:=by
 obtain⟨b,Q,h1,h2⟩:=h;obtain⟨a,Q',k1,k2⟩:=k;exact(hS s).one h1 k1 h2 k2
def eN.Mr(S:eN)(s a r:Nat)(l:List cF):Prop:=
 r<=S.p a/\(S.v s r=dl->(∀v∈l,v.slot=(s:Int)->fS v.bG<r/\S.h s a (fS v.bG)=de v.cW/\∀d,fS v.bG<d->d<r->S.h s a d=dl)/\((∀v∈l,v.slot≠(s:Int))->∀d,d<r->S.h s a d=dl))
theorem eN.Mr.le{S T:eN}{s a r:Nat}{l:List cF}(h:S.Mr s a r l)(k:S.Le T):T.Mr s a r l:=by
 obtain⟨h1,h2⟩:=h;refine⟨aE h1 (k.p a),λe=>?_⟩;obtain⟨h3,h4⟩:=h2 (k.none e);exact⟨λv hv hs=>⟨(h3 v hv hs).1,k.h _ _ _ _ (h3 v hv hs).2.1,λd d1 d2=>(k.AI s a d (by omega)).t ((h3 v hv hs).2.2 d d1 d2)⟩,λe2 d hd=>(k.AI s a d (by omega)).t (h4 e2 d hd)⟩
theorem eN.Safe.le{S T:eN}{s b:Nat}{x:bk}(h:(S.at s).Safe b x)(k:S.Le T):(T.at s).Safe b x:=by
 intro d hd;rcases h d hd with h1|⟨Q,h1,h2⟩
 ·exact .inl (k.v s d x h1)
 ·exact .inr ⟨Q,h1,λa c=>⟨(k.AI s a d (h2 a c).2).t (h2 a c).1,ai (h2 a c).2 (k.p a)⟩⟩
structure eN.xy(S:eN)(a:Nat)(A:eL):Prop where
 ok:A.ok=dE
 p:fS A.p=S.p a
 has:∀(s:Nat),∀v∈A.l,v.slot=(s:Int)->S.h s a (fS v.bG)=de v.cW/\∀d,fS v.bG<d->S.h s a d=dl
 no:∀(s:Nat),(∀v∈A.l,v.slot≠(s:Int))->∀d,S.h s a d=dl
theorem eN.xy.bG{S:eN}{a:Nat}{A:eL}(h:S.xy a A):yH A.p:=by
 have:=h.ok;unfold eL.ok at this;rw[qB]at this;exact this.1
theorem eN.xy.aV{S:eN}{a:Nat}{A:eL}(h:S.xy a A):∀v∈A.l,jJ v=dE/\fS v.bG<=fS A.p:=by
 intro v hv;have:=h.ok;unfold eL.ok at this;rw[qB]at this;have h2:=this.2.1 v hv;exact⟨h2.1,(BV (.inr (eV h2.1).2.2.1) h.bG).1 h2.2⟩
theorem eN.xy.same{S T:eN}{a:Nat}{A:eL}(h:S.xy a A)(hp:T.p a=S.p a)(b:∀s d,T.h s a d=S.h s a d):T.xy a A:=
 ⟨h.ok,by rw[hp];exact h.p,λs v hv e=>by rw[b];exact⟨(h.has s v hv e).1,λd hd=>by rw[b];exact(h.has s v hv e).2 d hd⟩,λs e d=>by rw[b];exact h.no s e d⟩
theorem eN.Gd{S:eN}(h:S.Ok){a b:Nat}(hb:S.p a<=b):(S.raise a b).Ok:=λs=>(h s).raise a b hb
theorem eN.Ge(S:eN){a b:Nat}(hb:S.p a<=b):S.By a (S.raise a b):=by
 refine⟨⟨λc=>?_,λ_ _ _ _ h=>h,λ_ _ _ _=>rfl,λ_ _ _ h=>h⟩,λj hj=>ak hj,λ_ _ _ _=>rfl,λ_ _ _=>rfl⟩;show S.p c<=if c=a then b else S.p c
 split
 ·rename_i e;rw[e];exact hb
 ·exact ag _
theorem eN.xy.raise{S:eN}{a:Nat}{p b:Int×Int}{l:List cF}(h:S.xy a ⟨p,l⟩)(hb:okB b=dE)(hc:¬dX b p<0):(S.raise a (fS b)).xy a ⟨b,l⟩:=by
 have hle:fS p<=fS b:=by rw[uK (b:=p) (.inr hb) h.bG]at hc;omega
 refine⟨?_,(ar rfl).symm,h.has,h.no⟩;have:=h.ok;unfold eL.ok at this|-;rw[qB]at this|-;refine⟨.inr hb,λv hv=>⟨(this.2.1 v hv).1,?_⟩,this.2.2⟩;have h2:=(h.aV v hv).2;rw[BV (.inr (eV (this.2.1 v hv).1).2.2.1) (.inr hb)];exact aE h2 hle
theorem eN.Kh{S:eN}(h:S.Ok){a s b:Nat}{x:bk}(hv:S.v s b=de x)(hb:S.p a<=b):(S.cast a s b x).Ok:=by
 intro t;by_cases e:t=s
 ·have h1:=(h t).cP a b x (by rw[e];exact hv) hb;have e2:(S.cast a s b x).at t={S.at t with h:=λc d=>if c=a/\d=b then de x else(S.at t).h c d,p:=λc=>if c=a then b else(S.at t).p c}:=by
   unfold eN.cast eN.at;simp[e]
  rw[e2];exact h1
 ·have h1:=(h t).raise a b hb;have e2:(S.cast a s b x).at t={S.at t with p:=λc=>if c=a then b else(S.at t).p c}:=by
   unfold eN.cast eN.at;simp[e]
  rw[e2];exact h1
theorem eN.Ki{S:eN}(hS:S.Ok){a s b:Nat}{x:bk}(hv:S.v s b=de x)(hb:S.p a<=b):S.By a (S.cast a s b x):=by
 refine⟨⟨λc=>?_,λt c d y h=>?_,λt c d hd=>ak (λe=>?_),λ_ _ _ h=>h⟩,λj hj=>ak hj,λ_ j d hj=>ak (λe=>hj e.2.1),λ_ _ _=>rfl⟩
 ·show S.p c<=if c=a then b else S.p c
  split
  ·rename_i e;rw[e];exact hb
  ·exact ag _
 ·show(if t=s/\c=a/\d=b then de x else S.h t c d)=de y;split
  ·rename_i e;obtain⟨rfl,rfl,rfl⟩:=e;have:=(hS t).val c d y h;have f:(S.at t).v d=de x:=hv;rw[f]at this;exact this
  ·exact h
 ·rw[e.2.1,e.2.2]at hd;omega
theorem eN.xy.cast{S:eN}(hS:S.Ok){a:Nat}{p:Int×Int}{l:List cF}{y:cF}(h:S.xy a ⟨p,l⟩)(hy:jJ y=dE)(hc:¬dX y.bG p<0):(S.cast a y.slot.toNat (fS y.bG) y.cW).xy a ⟨y.bG,mA y l⟩:=by
 have f:=eV hy;have hle:fS p<=fS y.bG:=by rw[uK (b:=p) (.inr f.2.2.1) h.bG]at hc;omega
 have hp:S.p a<=fS y.bG:=by rw[<-h.p];exact hle
 have c:∀s d,fS y.bG<d->S.h s a d=dl:=λs d hd=>by
  cases e:S.h s a d with
  |none=>rfl
  |some x=>have h1:d<=S.p a:=(hS s).low a d x e;omega
 refine⟨CT h.ok hy hc,(ar rfl).symm,λs v hv e=>?_,λs e d=>?_⟩
 ·rcases nD.1 hv with rfl|⟨hv,g⟩
  ·have hs:s=v.slot.toNat:=by omega
   refine⟨ar ⟨hs,rfl,rfl⟩,λd hd=>?_⟩;show(if _ then _ else _)=_;rw[ak (λe=>by omega)];exact c s d hd
  ·have hs:s≠y.slot.toNat:=by omega
   refine⟨(ak (λe=>hs e.1)).t (h.has s v hv e).1,λd hd=>(ak (λe=>hs e.1)).t ((h.has s v hv e).2 d hd)⟩
 ·have hs:s≠y.slot.toNat:=λe2=>e y (nD.2 (.inl rfl)) (by omega);refine(ak (λe=>hs e.1)).t (h.no s (λv hv e3=>?_) d);exact e v (nD.2 (.inr ⟨hv,by omega⟩)) e3
theorem eN.xy.NJ{S:eN}(hS:S.Ok){a:Nat}{A:eL}(h:S.xy a A)(s:Nat):S.Mr s a (fS A.p) A.l:=by
 refine⟨gi h.p,λe=>⟨λv hv hs=>?_,λe2 d hd=>h.no s e2 d⟩⟩;obtain⟨h1,h2⟩:=h.has s v hv hs;refine⟨?_,h1,λd hd _=>h2 d hd⟩;rcases Nat.lt_or_eq_of_le (h.aV v hv).2 with h3|h3
 ·exact h3
 ·exfalso;have:=(hS s).val a _ _ h1;rw[h3]at this;have e2:(S.at s).v (fS A.p)=dl:=e;rw[e2]at this;cases this
theorem eN.Mk{S:eN}(h:S.Ok){s b:Nat}{x:bk}(a:S.v s b=dl)(hs:(S.at s).Safe b x):(S.ask s b x).Ok:=by
 intro t;by_cases e:t=s
 ·have h1:=(h t).ask b x (by rw[e];exact a) (by rw[e];exact hs);have e2:(S.ask s b x).at t={S.at t with v:=λd=>if d=b then de x else(S.at t).v d}:=by
   unfold eN.ask eN.at;simp[e]
  rw[e2];exact h1
 ·have e2:(S.ask s b x).at t=S.at t:=by
   unfold eN.ask eN.at;simp[e]
  rw[e2];exact h t
theorem eN.Ml{S:eN}{i s b:Nat}{x:bk}(a:S.v s b=dl)(hb:b%5=i):S.By i (S.ask s b x):=by
 refine⟨⟨λ_=>ag _,λ_ _ _ _ h=>h,λ_ _ _ _=>rfl,λt d y h=>?_⟩,λ_ _=>rfl,λ_ _ _ _=>rfl,λt d hd=>ak (λe=>hd (by rw[e.2];exact hb))⟩;show(if t=s/\d=b then de x else S.v t d)=de y;split
 ·rename_i e;rw[e.1,e.2,a]at h;cases h
 ·exact h
structure Fits(Q:bk->Prop):Prop where
 zero:Q bk.zero
 fit:∀c,Q c->cS c=0
structure hU(Q:bk->Prop)(S:eN)(l:dK):Prop where
 kind:0<=l.kind/\l.kind<=7
 nK:0<=l.nK/\l.nK<5
 dst:0<=l.dst/\l.dst<5
 bG:yH l.bG
 q:Q l.cP.cW
 vs:∀v∈l.aV,jJ v=dE/\Q v.cW
 Od:l.aV.length<=40
 k0:l.kind=0->okB l.bG=dE
 k1:l.kind=1->okB l.bG=dE/\∀s,S.Mr s l.nK.toNat (fS l.bG) l.aV
 k2:l.kind=2->jJ l.cP=dE/\S.v l.cP.slot.toNat (fS l.cP.bG)=de l.cP.cW
 k3:l.kind=3->jJ l.cP=dE/\S.h l.cP.slot.toNat l.nK.toNat (fS l.cP.bG)=de l.cP.cW
 k6:l.kind=6->0<=l.cP.slot/\l.cP.slot<40/\S.lq l.cP.slot.toNat l.cP.cW
theorem hU.le{Q:bk->Prop}{S T:eN}{l:dK}(h:hU Q S l)(k:S.Le T):hU Q T l:=
 {h with
  k1:=λe=>⟨(h.k1 e).1,λs=>((h.k1 e).2 s).le k⟩
  k2:=λe=>⟨(h.k2 e).1,k.v _ _ _ (h.k2 e).2⟩
  k3:=λe=>⟨(h.k3 e).1,k.h _ _ _ _ (h.k3 e).2⟩
  k6:=λe=>⟨(h.k6 e).1,(h.k6 e).2.1,(h.k6 e).2.2.le k⟩}
structure mq(Q:bk->Prop)(S:eN)(i:Nat)(r:eW):Prop where
 bG:okB r.bG=dE
 me:r.bG.2=(i:Int)
 keys:(r.prom.map (·.1)).Nodup
 prom:∀q∈r.prom,0<=q.1/\q.1<5/\(∀s,S.Mr s q.1.toNat (fS r.bG) q.2)/\(∀v∈q.2,jJ v=dE/\Q v.cW)/\q.2.length<=40
 new:r.begun=dT->(∀s,S.v s (fS r.bG)=dl)/\r.dD=[]
 hH:r.begun=dE->fS r.bG<=S.p i
 dD:r.begun=dE->∀s:Nat,S.v s (fS r.bG)=cd r.dD (s:Int)
 fit:∀s c,cd r.dD s=de c->0<=s/\s<40/\Q c
 tJ:(r.aV.map (·.1)).Nodup
 aV:∀q∈r.aV,0<=q.1/\q.1<40/\q.2.Nodup/\∀k∈q.2,0<=k/\k<5/\∃c,S.h q.1.toNat k.toNat (fS r.bG)=de c
structure mn(Q:bk->Prop)(S:eN)(i:Nat)(log:List bk)(known:List (Int×bk))(r:eW):Prop where
 core:mq Q S i r
 free:r.begun=dE->∀s:Nat,s<40->log.length<=s->cd known (s:Int)=dl->cd r.dD (s:Int)=dl->∀x,(S.at s).Safe (fS r.bG) x
structure Fo(Q:bk->Prop)(S:eN)(i:Nat)(p:Int×Int)(l:List cF)(rg:Option eW)(q:Ds):Prop where
 tag:q.tag=1\/q.tag=2\/q.tag=3
 dst:0<=q.dst/\q.dst<5
 bG:okB q.p=dE
 high:¬dX q.p p<0
 vs:∀v∈q.l,Q v.cW
 NN:q.tag≠2->q.l=l/\q.bG=q.p
 ps:q.tag=2->jJ q.cP=dE/\q.p=q.cP.bG/\q.l=mA q.cP l/\Q q.cP.cW/\S.v q.cP.slot.toNat (fS q.cP.bG)=de q.cP.cW
 hH:q.tag=3->∃r,rg=de r/\q.bG.1<=r.bG.1/\q.bG.2=(i:Int)
def dZ.Ca(n:dZ):eL:=if n.up then⟨n.p,n.l⟩else(cE eL.zero n.D).1
def yv(n:dZ):Prop:=
 if n.up then∃a,cE eL.zero a=(⟨n.p,n.l⟩,a.length)/\n.iZ=(a.length:Int)/\match n.cI with
  |none=>n.D=a
  |some q=>∃b,n.D=a++Tp.frame b/\b.length<=200/\eD ⟨n.p,n.l⟩ b=de ⟨q.p,q.l⟩
 else n.iZ=(n.D.length:Int)
structure fE(Q:bk->Prop)(S:eN)(i:Nat)(n:dZ):Prop where
 Av:S.xy i n.Ca
 gO:∀v∈n.Ca.l,Q v.cW
 len:n.D.length<=100000
 tape:yv n
 down:n.up=dT->n=dZ.blank dT n.D n.iZ eL.zero
 heard:yH n.heard
 known:∀s c,cd n.known s=de c->0<=s/\s<40/\Q c/\S.lq s.toNat c
 log:∀(j:Nat) c,n.log[j]?=de c->cd n.known (j:Int)=de c
 store:n.store=dA.zero.all n.log
 ja:n.queue.Nodup/\∀c∈n.queue,Q c
 mO:n.wait.Nodup/\∀c∈n.wait,Q c
 jq:∀l∈n.inbox,hU Q S l/\l.dst=(i:Int)
 fN:0<=n.fN/\n.fN<5
 rg:∀r,n.rg=de r->mn Q S i n.log n.known r
 cI:∀q,n.cI=de q->Fo Q S i n.p n.l n.rg q
 hH:∀s b,S.v s b≠dl->b%5=i->b<=S.p i
structure eh(Q:bk->Prop)(S:eN)(M:aT):Prop where
 ok:S.Ok
 nd:∀i,i<5->fE Q S i (M.nd i)
 cz:∀l∈M.cz,hU Q S l
section
variable{Q:bk->Prop}{S T:eN}{i j:Nat}{n:dZ}
theorem mq.mod{r:eW}(h:mq Q S i r):fS r.bG%5=i:=by
 have h1:=zX (.inr h.bG);rw[h.me]at h1;omega
theorem mq.le{r:eW}(h:mq Q S i r)(k:S.Le T)(hv:∀s,T.v s (fS r.bG)=S.v s (fS r.bG)):mq Q T i r:=
 {h with
  prom:=λq hq=>⟨(h.prom q hq).1,(h.prom q hq).2.1,λs=>((h.prom q hq).2.2.1 s).le k,(h.prom q hq).2.2.2⟩
  new:=λe=>⟨λs=>(hv s).t ((h.new e).1 s),(h.new e).2⟩
  hH:=λe=>aE (h.hH e) (k.p i)
  dD:=λe s=>(hv s).t (h.dD e s)
  aV:=λq hq=>⟨(h.aV q hq).1,(h.aV q hq).2.1,(h.aV q hq).2.2.1,λx hx=>⟨((h.aV q hq).2.2.2 x hx).1,((h.aV q hq).2.2.2 x hx).2.1,by
   obtain⟨c,hc⟩:=((h.aV q hq).2.2.2 x hx).2.2;exact⟨c,k.h _ _ _ _ hc⟩⟩⟩}
theorem mn.le{r:eW}{a:List bk}{kn:List (Int×bk)}(h:mn Q S i a kn r)(k:S.Le T)(hv:∀s,T.v s (fS r.bG)=S.v s (fS r.bG)):mn Q T i a kn r:=
 ⟨h.core.le k hv,λe s h1 h2 h3 h4 x=>eN.Safe.le (h.free e s h1 h2 h3 h4 x) k⟩
theorem mn.other{r:eW}{a:List bk}{kn:List (Int×bk)}(h:mn Q S j a kn r)(k:S.By i T)(hj:j≠i):mn Q T j a kn r:=
 h.le k.le (λs=>k.v s _ (by rw[h.core.mod];exact hj))
theorem Fo.le{p:Int×Int}{l:List cF}{rg:Option eW}{q:Ds}(h:Fo Q S i p l rg q)(k:S.Le T):Fo Q T i p l rg q:=
 {h with ps:=λe=>⟨(h.ps e).1,(h.ps e).2.1,(h.ps e).2.2.1,(h.ps e).2.2.2.1,k.v _ _ _ (h.ps e).2.2.2.2⟩}
theorem fE.other(h:fE Q S j n)(k:S.By i T)(hj:j≠i):fE Q T j n:=
 {h with
  Av:=h.Av.same (k.p j hj) (λs d=>k.h s j d hj)
  known:=λs c e=>⟨(h.known s c e).1,(h.known s c e).2.1,(h.known s c e).2.2.1,(h.known s c e).2.2.2.le k.le⟩
  jq:=λl hl=>⟨(h.jq l hl).1.le k.le,(h.jq l hl).2⟩
  rg:=λr hr=>(h.rg r hr).other k hj
  cI:=λq hq=>(h.cI q hq).le k.le
  hH:=λs b hs hb=>by
   rw[k.v s b (by omega)]at hs;rw[k.p j hj];exact h.hH s b hs hb}
theorem eh.fN{M M':aT}(h:eh Q S M)(k:S.By i T)(a:T.Ok)(c:fE Q T i (M'.nd i))(ho:∀j,j≠i->M'.nd j=M.nd j)(b:∀l∈M'.cz,l∈M.cz\/hU Q T l):eh Q T M':=by
 refine⟨a,λj hj=>?_,λl hl=>?_⟩
 ·by_cases e:j=i
  ·rw[e];exact c
  ·rw[ho j e];exact(h.nd j hj).other k e
 ·rcases b l hl with h1|h1
  ·exact(h.cz l h1).le k.le
  ·exact h1
theorem eh.set{M:aT}(h:eh Q S M){n:dZ}(a:fE Q S i n):eh Q S (M.aX i n):=
 h.fN (.refl i S) h.ok (by rw[bf];exact a) (λj hj=>iB M n hj) (λl hl=>.inl hl)
theorem eh.send{M:aT}(h:eh Q S M)(hi:i<5){dst:Int}{l:dK}(hl:hU Q S {l with nK:=(i:Int),dst:=dst}):eh Q S (M.send i dst l):=
 ⟨h.ok,h.nd,λx hx=>(dR.1 hx).elim (h.cz x) (λhx=>by rw[cL.1 hx];exact hl)⟩
end
section
variable{Q:bk->Prop}{S T:eN}{i j:Nat}{n:dZ}{M:aT}
theorem fE.ol(h:fE Q S i n)(hu:n.up=dE):n.Ca=⟨n.p,n.l⟩:=by unfold dZ.Ca;rw[if_pos hu]
theorem fE.ym(h:fE Q S i n)(hu:n.up=dE):yH n.p:=by have:=h.Av.bG;rw[h.ol hu]at this;exact this
theorem fE.kf(h:fE Q S i n)(hu:n.up=dE):kf n.p n.l=dE:=by have:=h.Av.ok;rw[h.ol hu]at this;exact this
theorem qX{p:Int×Int}{l:List cF}(h:kf p l=dE):l.length<=40:=by
 unfold Go.Con.kf at h;rw[aP]at h;have:=uj (by omega) h.2;omega
theorem fE.notes(h:fE Q S i n)(hu:n.up=dE){b:Int×Int}(hb:yH b):fE Q S i (n.notes b)/\(n.notes b).up=dE:=by
 unfold dZ.notes;split
 ·exact⟨{h with down:=λe=>(by rw[show({n with heard:=b}:dZ).up=n.up from rfl,hu]at e;cases e),heard:=hb},hu⟩
 ·exact⟨h,hu⟩
theorem fE.add(h:fE Q S i n)(hu:n.up=dE){c:bk}(hc:Q c):fE Q S i (n.add c)/\(n.add c).up=dE:=by
 unfold dZ.add;split
 ·exact⟨h,hu⟩
 ·rename_i f;refine⟨{h with down:=λe=>(by rw[show({n with queue:=n.queue++[c]}:dZ).up=n.up from rfl,hu]at e;cases e),ja:=⟨?_,?_⟩},hu⟩
  ·exact mw.2 ⟨h.ja.1,by simp,λa d b hb e=>f (.inl (by rw[cL.1 hb]at e;exact e▸d))⟩
  ·intro x hx;rcases dR.1 hx with hx|hx
   ·exact h.ja.2 x hx
   ·rw[cL.1 hx];exact hc
theorem fE.ru(h:fE Q S i n):n.log.length<=40:=by
 rcases dy 40 n.log.length with hl|hl
 ·have h1:=h.log 40 n.log[40] (aC hl);have:=(h.known _ _ h1).2.1;omega
 ·exact hl
theorem fE.wN(h:fE Q S i n){j:Nat}{c:bk}(hj:n.log[j]?=de c):S.lq j c/\Q c:=by
 have h1:=h.known _ _ (h.log j c hj);exact⟨by have:=h1.2.2.2;simpa using this,h1.2.2.1⟩
theorem fE.NU(h:fE Q S i n)(hS:S.Ok)(hu:n.up=dE){s:Int}{c:bk}(h0:0<=s)(h4:s<40)(hq:Q c)(hc:S.lq s.toNat c):fE Q S i {n with known:=di n.known s c}:=by
 have hg:∀k,cd (di n.known s c) k=dl->cd n.known k=dl:=λk e=>by
  rw[fw]at e;split at e
  ·cases e
  ·exact e
 exact{h with
  down:=λe=>by rw[show({n with known:=di n.known s c}:dZ).up=n.up from rfl,hu]at e;cases e
  known:=λk x e=>by
   have e:cd (di n.known s c) k=de x:=e;rw[fw]at e;split at e
   ·rename_i e2;injection e with e;rw[<-e2,<-e];exact⟨h0,h4,hq,hc⟩
   ·exact h.known k x e
  log:=λj x e=>by
   have h1:=h.log j x e;show cd (di n.known s c) (j:Int)=de x;rw[fw];split
   ·rename_i e2;have h2:=(h.known _ _ h1).2.2.2;rw[<-e2]at h2;rw[hc.one hS h2]
   ·exact h1
  rg:=λr hr=>⟨(h.rg r hr).core,λe s h1 h2 h3 h4 x=>(h.rg r hr).free e s h1 h2 (hg _ h3) h4 x⟩}
theorem hU.hH(a:Fits Q)(hi:i<5){dst:Int}(hd:0<=dst/\dst<5){k:Int}(hk:k=4\/k=5\/k=7){b:Int×Int}(hb:yH b){s:Int}{x:Int×Int}{c:bk}(hc:Q c):hU Q S ⟨k,(i:Int),dst,b,⟨s,x,c⟩,[]⟩:=
 ⟨by show 0<=k/\k<=7;omega,by show 0<=(i:Int)/\(i:Int)<5;omega,hd,hb,hc,λv hv=>(by cases hv),bX _,λe=>by have e:k=0:=e;omega,λe=>by have e:k=1:=e;omega,λe=>by have e:k=2:=e;omega,λe=>by have e:k=3:=e;omega,λe=>by have e:k=6:=e;omega⟩
theorem hU.Ot(hi:i<5){dst:Int}(hd:0<=dst/\dst<5){s:Int}{c:bk}(hc:Q c)(h0:0<=s)(h4:s<40)(h:S.lq s.toNat c):hU Q S ⟨6,(i:Int),dst,(0,0),⟨s,(0,0),c⟩,[]⟩:=
 ⟨by show(0:Int)<=6/\(6:Int)<=7;omega,by show 0<=(i:Int)/\(i:Int)<5;omega,hd,.inl rfl,hc,λv hv=>(by cases hv),bX _,λe=>by have e:(6:Int)=0:=e;omega,λe=>by have e:(6:Int)=1:=e;omega,λe=>by have e:(6:Int)=2:=e;omega,λe=>by have e:(6:Int)=3:=e;omega,λ_=>⟨h0,h4,h⟩⟩
theorem hU.three(hi:i<5){dst:Int}(hd:0<=dst/\dst<5){y:cF}(hc:Q y.cW)(hv:jJ y=dE)(h:S.h y.slot.toNat i (fS y.bG)=de y.cW):hU Q S ⟨3,(i:Int),dst,(0,0),y,[]⟩:=
 ⟨by show(0:Int)<=3/\(3:Int)<=7;omega,by show 0<=(i:Int)/\(i:Int)<5;omega,hd,.inl rfl,hc,λv hv=>(by cases hv),bX _,λe=>by have e:(3:Int)=0:=e;omega,λe=>by have e:(3:Int)=1:=e;omega,λe=>by have e:(3:Int)=2:=e;omega,λ_=>⟨hv,h⟩,λe=>by have e:(3:Int)=6:=e;omega⟩
theorem hU.two(hi:i<5){dst:Int}(hd:0<=dst/\dst<5){y:cF}(hc:Q y.cW)(hv:jJ y=dE)(h:S.v y.slot.toNat (fS y.bG)=de y.cW):hU Q S ⟨2,(i:Int),dst,(0,0),y,[]⟩:=
 ⟨by show(0:Int)<=2/\(2:Int)<=7;omega,by show 0<=(i:Int)/\(i:Int)<5;omega,hd,.inl rfl,hc,λv hv=>(by cases hv),bX _,λe=>by have e:(2:Int)=0:=e;omega,λe=>by have e:(2:Int)=1:=e;omega,λ_=>⟨hv,h⟩,λe=>by have e:(2:Int)=3:=e;omega,λe=>by have e:(2:Int)=6:=e;omega⟩
theorem hU.LI(a:Fits Q)(hi:i<5){dst:Int}(hd:0<=dst/\dst<5){b:Int×Int}(hb:okB b=dE):hU Q S ⟨0,(i:Int),dst,b,cF.zero,[]⟩:=
 ⟨by show(0:Int)<=0/\(0:Int)<=7;omega,by show 0<=(i:Int)/\(i:Int)<5;omega,hd,.inr hb,a.zero,λv hv=>(by cases hv),bX _,λ_=>hb,λe=>by have e:(0:Int)=1:=e;omega,λe=>by have e:(0:Int)=2:=e;omega,λe=>by have e:(0:Int)=3:=e;omega,λe=>by have e:(0:Int)=6:=e;omega⟩
theorem hU.one(a:Fits Q)(hi:i<5){dst:Int}(hd:0<=dst/\dst<5){b:Int×Int}(hb:okB b=dE){l:List cF}(hl:∀v∈l,jJ v=dE/\Q v.cW)(h4:l.length<=40)(h:∀s,S.Mr s i (fS b) l):hU Q S ⟨1,(i:Int),dst,b,cF.zero,l⟩:=
 ⟨by show(0:Int)<=1/\(1:Int)<=7;omega,by show 0<=(i:Int)/\(i:Int)<5;omega,hd,.inr hb,a.zero,hl,h4,λe=>by have e:(1:Int)=0:=e;omega,λ_=>⟨hb,h⟩,λe=>by have e:(1:Int)=2:=e;omega,λe=>by have e:(1:Int)=3:=e;omega,λe=>by have e:(1:Int)=6:=e;omega⟩
def dZ.fX(n:dZ)(c:bk):dZ:={n with log:=n.log++[c],store:=n.store.next c,queue:=n.queue.filter (λx=>decide (x≠c)),wait:=n.wait.erase c}
theorem Ac(M:aT)(i:Nat)(c:bk):(M.fX i c).nd=(M.aX i ((M.nd i).fX c)).nd/\(M.fX i c).cz=M.cz/\(M.fX i c).bad=M.bad:=by
 unfold aT.fX dZ.fX;dsimp only;split
 ·exact⟨rfl,rfl,rfl⟩
 ·exact⟨rfl,rfl,rfl⟩
theorem fE.fX(h:fE Q S i n)(hu:n.up=dE){c:bk}(hc:cd n.known (n.log.length:Int)=de c):fE Q S i (n.fX c):=by
 exact{h with
  down:=λe=>by rw[show(n.fX c).up=n.up from rfl,hu]at e;cases e
  log:=λj x e=>by
   have e:(n.log++[c])[j]?=de x:=e;rcases dy j n.log.length with hl|hl
   ·rw[bU hl]at e;exact h.log j x e
   ·rw[bF hl]at e;have hj:j=n.log.length:=by
     rcases Nat.eq_or_lt_of_le hl with h1|h1
     ·exact h1.symm
     ·rw[jF (by simp;omega)]at e;cases e
    subst hj;rw[Nat.sub_self]at e;have e:de c=de x:=e;rw[<-e];exact hc
  store:=by
   show n.store.next c=dA.zero.all (n.log++[c]);rw[dA.Iu,h.store]
  ja:=⟨h.ja.1.filter _,λx hx=>h.ja.2 x (bZ.1 hx).1⟩
  mO:=⟨h.mO.1.erase _,λx hx=>h.mO.2 x (List.mem_of_mem_erase hx)⟩
  rg:=λr hr=>⟨(h.rg r hr).core,λe s h1 h2 h3 h4 x=>(h.rg r hr).free e s h1 (by
   have h2:(n.log++[c]).length<=s:=h2;rw[aD]at h2;omega) h3 h4 x⟩}
theorem eh.Ng{M M':aT}(h:eh Q S M)(h1:M'.nd=M.nd)(h2:M'.cz=M.cz):eh Q S M':=⟨h.ok,by rw[h1];exact h.nd,by rw[h2];exact h.cz⟩
structure At(Q:bk->Prop)(S:eN)(i:Nat)(M:aT):Prop where
 inv:eh Q S M
 lt:i<5
 up:(M.nd i).up=dE
theorem At.node(h:At Q S i M):fE Q S i (M.nd i):=h.inv.nd i h.lt
theorem At.set(h:At Q S i M){n:dZ}(a:fE Q S i n)(hu:n.up=dE):At Q S i (M.aX i n):=⟨h.inv.set a,h.lt,by rw[bf];exact hu⟩
theorem At.send(h:At Q S i M){dst:Int}{l:dK}(hl:hU Q S {l with nK:=(i:Int),dst:=dst}):At Q S i (M.send i dst l):=⟨h.inv.send h.lt hl,h.lt,h.up⟩
theorem At.Ng{M':aT}(h:At Q S i M)(h1:M'.nd=M.nd)(h2:M'.cz=M.cz):At Q S i M':=⟨h.inv.Ng h1 h2,h.lt,by rw[h1];exact h.up⟩
theorem At.fX(h:At Q S i M){c:bk}(hc:cd (M.nd i).known ((M.nd i).log.length:Int)=de c):At Q S i (M.fX i c):=
 (h.set (h.node.fX h.up hc) h.up).Ng (Ac M i c).1 (Ac M i c).2.1
theorem At.jR:∀(f:Nat) {M:aT},At Q S i M->At Q S i (M.jR f i)
 |0,M,h=>h
 |f+1,M,h=>by
  cases e:cd (M.nd i).known ((M.nd i).log.length:Int)with
  |none=>rw[uN e];exact h
  |some c=>rw[uM e];exact At.jR f (h.fX e)
theorem At.mH(h:At Q S i M){s:Int}{c:bk}(h0:0<=s)(h4:s<40)(hq:Q c)(hc:S.lq s.toNat c):At Q S i (M.mH i s c):=
 At.jR 41 (h.set (h.node.NU h.inv.ok h.up h0 h4 hq hc) h.up)
theorem At.oh(a:Fits Q)(h:At Q S i M){l:dK}(hl:hU Q S l):At Q S i (M.oh i l):=by
 have h1:=h.node.notes h.up hl.bG;have h2:=h.set h1.1 h1.2;unfold aT.oh;dsimp only;cases e:cd ((M.aX i ((M.nd i).notes l.bG)).nd i).known l.cP.slot with
 |none=>exact h2
 |some c=>
  have h3:=h2.node.known _ _ e;exact h2.send (hU.Ot h.lt hl.nK h3.2.2.1 h3.1 h3.2.1 h3.2.2.2)
theorem zI{ks:List Int}(b:ks.Nodup)(h5:∀k∈ks,0<=k/\k<5)(hm:lG ks.length=dE):II (ks.map Int.toNat):=by
 unfold lG at hm;rw[ap]at hm;refine⟨?_,λa c=>?_,by rw[aY];exact hm⟩
 ·clear hm;induction ks with
  |nil=>exact jX
  |cons k ks d=>
   rw[dm,gG];rw[gG]at b;refine⟨λhk=>?_,d b.2 (λx hx=>h5 x (bw _ hx))⟩;obtain⟨x,hx,e⟩:=cH.1 hk;have h1:=h5 x (bw _ hx);have h2:=h5 k (bO ..);have:x=k:=by omega
   exact b.1 (this▸hx)
 ·obtain⟨k,hk,rfl⟩:=cH.1 c;have:=h5 k hk;omega
theorem fE.KK(h:fE Q S i n)(hu:n.up=dE){r r':eW}(hr:n.rg=de r)(hb:r'.bG=r.bG)(hs:mn Q S i n.log n.known r'):fE Q S i {n with rg:=de r'}:=
 {h with
  down:=λe=>by rw[show({n with rg:=de r'}:dZ).up=n.up from rfl,hu]at e;cases e
  rg:=λx hx=>by injection hx with hx;rw[<-hx];exact hs
  cI:=λq hq=>{h.cI q hq with
   hH:=λe=>by
    obtain⟨x,h1,h2⟩:=(h.cI q hq).hH e;rw[hr]at h1;injection h1 with h1;exact⟨r',rfl,by rw[hb,h1];exact h2⟩}}
theorem At.fC(m:Fits Q)(h:At Q S i M){l:dK}(hl:hU Q S l)(hk:l.kind=1\/l.kind=3):At Q S i (M.fC i l):=by
 unfold aT.fC;cases e:(M.nd i).rg with
 |none=>exact h
 |some r=>
  have hr:=h.node.rg r e;dsimp only;by_cases h1:l.kind=1
  ·rw[ar h1];by_cases hb:l.bG=r.bG
   ·rw[ar hb];refine h.set (h.node.KK h.up e rfl ⟨{hr.core with keys:=km hr.core.keys _ _,prom:=λq hq=>?_},hr.free⟩) h.up;rcases lX hq with rfl|hq
    ·exact⟨hl.nK.1,hl.nK.2,λs=>by have:=(hl.k1 h1).2 s;rw[hb]at this;exact this,hl.vs,hl.Od⟩
    ·exact hr.core.prom q hq
   ·rw[ak hb];exact h
  ·have h3:l.kind=3:=hk.resolve_left h1;rw[ak h1];by_cases hb:l.cP.bG=r.bG
   ·rw[ar hb];obtain⟨hv,f⟩:=hl.k3 h3;have d:=eV hv;have hold:∀k∈(cd r.aV l.cP.slot).getD [],0<=k/\k<5/\∃c,S.h l.cP.slot.toNat k.toNat (fS r.bG)=de c:=λk hk=>by
     cases e2:cd r.aV l.cP.slot with
     |none=>rw[e2]at hk;cases hk
     |some ks=>rw[e2]at hk;exact(hr.core.aV _ (kQ e2)).2.2.2 k hk
    have g:((cd r.aV l.cP.slot).getD []).Nodup:=by
     cases e2:cd r.aV l.cP.slot with
     |none=>exact jX
     |some ks=>exact(hr.core.aV _ (kQ e2)).2.2.1
    have b:∀k∈iA ((cd r.aV l.cP.slot).getD []) l.nK,0<=k/\k<5/\∃c,S.h l.cP.slot.toNat k.toNat (fS r.bG)=de c:=λk hk=>by
     rcases Gj.1 hk with rfl|hk
     ·exact⟨hl.nK.1,hl.nK.2,_,by rw[<-hb];exact f⟩
     ·exact hold k hk
    have h2:At Q S i (M.aX i {M.nd i with rg:=de {r with aV:=di r.aV l.cP.slot (iA ((cd r.aV l.cP.slot).getD []) l.nK)}}):=by
     refine h.set (h.node.KK h.up e rfl ⟨{hr.core with tJ:=km hr.core.tJ _ _,aV:=λq hq=>?_},hr.free⟩) h.up;rcases lX hq with rfl|hq
     ·exact⟨d.1,d.2.1,tV g _,b⟩
     ·exact hr.core.aV q hq
    split
    ·rename_i hm;refine h2.mH d.1 d.2.1 hl.q ⟨fS r.bG,_,zI (tV g _) (λk hk=>⟨(b k hk).1,(b k hk).2.1⟩) hm,λa j=>?_⟩;obtain⟨k,hk,rfl⟩:=cH.1 j;obtain⟨c,hc⟩:=(b k hk).2.2;have v1:=(h.inv.ok l.cP.slot.toNat).val _ _ _ hc;have v2:=(h.inv.ok l.cP.slot.toNat).val _ _ _ f;rw[hb]at v2;rw[v1]at v2;rw[hc,v2]
    ·exact h2
   ·rw[ak hb];exact h
theorem qy(b:Int×Int):(Tp.iJ b.1 b.2).length=9:=by
 unfold Tp.iJ gH;simp[gx]
theorem yR(y:cF):(Tp.sV y.slot y.bG.1 y.bG.2 y.cW.kind y.cW.bD y.cW.seq y.cW.name y.cW.value).length=33:=by
 unfold Tp.sV gH;rw[aD,nG];simp[gx]
theorem uG{k:Nat}(h:n.full k=dT):n.D.length+k<=100000:=by
 unfold dZ.full at h;rw[ah]at h;omega
theorem fE.write(h:fE Q S i n)(hu:n.up=dE)(hp:n.cI=dl){q:Ds}{b:List UInt8}(hb:b.length<=200)(hl:n.D.length+(b.length+5)<=100000)(c:eD ⟨n.p,n.l⟩ b=de ⟨q.p,q.l⟩)(hq:Fo Q S i n.p n.l n.rg q):fE Q S i {n with D:=n.D++Tp.frame b,cI:=de q}:=by
 have h1:=h.tape;unfold yv at h1;rw[ar hu]at h1;obtain⟨a,k1,k2,k3⟩:=h1;rw[hp]at k3;have k3:n.D=a:=k3;have hd:({n with D:=n.D++Tp.frame b,cI:=de q}:dZ).Ca=n.Ca:=by
  unfold dZ.Ca;simp only[hu,if_true]
 exact{h with
  Av:=by rw[hd];exact h.Av
  gO:=by rw[hd];exact h.gO
  len:=by
   show(n.D++Tp.frame b).length<=100000;rw[aD,ku];exact hl
  tape:=by
   unfold yv;simp only[hu,if_true];exact⟨a,k1,k2,b,by rw[k3],hb,c⟩
  down:=λe=>by rw[show({n with D:=n.D++Tp.frame b,cI:=de q}:dZ).up=n.up from rfl,hu]at e;cases e
  cI:=λx hx=>by injection hx with hx;rw[<-hx];exact hq}
theorem At.gj(a:Fits Q)(h:At Q S i M)(hp:(M.nd i).cI=dl){l:dK}(hl:hU Q S l)(hk:l.kind=0):At Q S i (M.gj i l):=by
 have hb:=hl.k0 hk;have hi:=h.lt;unfold aT.gj;by_cases h1:dX l.bG (M.nd i).p<0
 ·rw[ar h1];exact h.send (hU.hH a hi hl.nK (.inr (.inr rfl)) (h.node.ym h.up) a.zero)
 ·rw[ak h1];by_cases h2:(M.nd i).p=l.bG
  ·rw[ar h2];have c:=h.node.Av;rw[h.node.ol h.up]at c;refine h.send (hU.one a hi hl.nK hb (λv hv=>⟨(c.aV v hv).1,?_⟩) (qX (h.node.kf h.up)) (λs=>?_))
   ·have:=h.node.gO;rw[h.node.ol h.up]at this;exact this v hv
   ·have:=c.NJ h.inv.ok s;rw[show(⟨(M.nd i).p,(M.nd i).l⟩:eL).p=l.bG from h2]at this;exact this
  ·rw[ak h2];by_cases h3:(M.nd i).full 14=dE
   ·rw[ar h3];exact h
   ·rw[ak h3];have h3:=uG (Bool.eq_false_iff.2 h3);refine h.set (h.node.write h.up hp (b:=Tp.iJ l.bG.1 l.bG.2) (by rw[qy];decide) (by rw[qy];exact h3) ?_ ⟨.inl rfl,hl.nK,hb,h1,?_,λ_=>⟨rfl,rfl⟩,λe=>by have e:(1:Nat)=2:=e;omega,λe=>by have e:(1:Nat)=3:=e;omega⟩) h.up
    ·rw[uY _ hb];unfold oG;rw[ar ⟨hb,h1⟩]
    ·have:=h.node.gO;rw[h.node.ol h.up]at this;exact this
theorem At.asked(a:Fits Q)(h:At Q S i M)(hp:(M.nd i).cI=dl){l:dK}(hl:hU Q S l)(hk:l.kind=2):At Q S i (M.asked i l):=by
 obtain⟨hv,hs⟩:=hl.k2 hk;have f:=eV hv;have hi:=h.lt;have c:=h.node.Av;rw[h.node.ol h.up]at c;unfold aT.asked;by_cases h1:dX l.cP.bG (M.nd i).p<0
 ·rw[ar h1];exact h.send (hU.hH a hi hl.nK (.inr (.inr rfl)) (h.node.ym h.up) a.zero)
 ·rw[ak h1];by_cases h2:l.cP∈(M.nd i).l
  ·rw[ar h2];exact h.send (hU.three hi hl.nK hl.q hv (c.has l.cP.slot.toNat l.cP h2 (by omega)).1)
  ·rw[ak h2];by_cases h3:(M.nd i).full 38=dE
   ·rw[ar h3];exact h
   ·rw[ak h3];have h3:=uG (Bool.eq_false_iff.2 h3);refine h.set (h.node.write h.up hp (b:=Tp.sV l.cP.slot l.cP.bG.1 l.cP.bG.2 l.cP.cW.kind l.cP.cW.bD l.cP.cW.seq l.cP.cW.name l.cP.cW.value) (by rw[yR];decide) (by rw[yR];exact h3) ?_ ⟨.inr (.inl rfl),hl.nK,f.2.2.1,h1,?_,λe=>absurd rfl e,λ_=>⟨hv,rfl,rfl,hl.q,hs⟩,λe=>by have e:(2:Nat)=3:=e;omega⟩) h.up
    ·rw[Cm _ hv];unfold pq;rw[ar ⟨hv,h1⟩]
    ·intro v d;have h4:=h.node.gO;rw[h.node.ol h.up]at h4;rcases nD.1 d with rfl|⟨h5,-⟩
     ·exact hl.q
     ·exact h4 v h5
theorem At.handle(a:Fits Q)(h:At Q S i M)(hp:(M.nd i).cI=dl){l:dK}(hl:hU Q S l):At Q S i (M.handle i l):=by
 unfold aT.handle;by_cases k0:l.kind=0
 ·rw[ar k0];exact h.gj a hp hl k0
 rw[ak k0];by_cases k1:l.kind=1
 ·rw[ar k1];exact h.fC a hl (.inl k1)
 rw[ak k1];by_cases k2:l.kind=2
 ·rw[ar k2];exact h.asked a hp hl k2
 rw[ak k2];by_cases k3:l.kind=3
 ·rw[ar k3];exact h.fC a hl (.inr k3)
 rw[ak k3];by_cases k4:l.kind=4
 ·rw[ar k4];have h1:=h.node.add h.up hl.q;exact h.set h1.1 h1.2
 rw[ak k4];by_cases b:l.kind=5
 ·rw[ar b];exact h.oh a hl
 rw[ak b];by_cases k6:l.kind=6
 ·rw[ar k6];exact h.mH (hl.k6 k6).1 (hl.k6 k6).2.1 hl.q (hl.k6 k6).2.2
 rw[ak k6];have h1:=h.node.notes h.up hl.bG;exact h.set h1.1 h1.2
theorem At.serve(b:Fits Q):∀(f:Nat) {M:aT},At Q S i M->At Q S i (M.serve f i)
 |0,M,h=>h
 |f+1,M,h=>by
  unfold aT.serve;split
  ·exact h
  ·rename_i hp;have hp:(M.nd i).cI=dl:=by
    cases e:(M.nd i).cI with
    |none=>rfl
    |some q=>rw[e]at hp;exact absurd rfl hp
   split
   ·exact h
   ·rename_i l ls e;have a:=h.node;have h1:At Q S i (M.aX i {M.nd i with inbox:=ls}):=h.set {a with
     down:=λe=>by rw[show({M.nd i with inbox:=ls}:dZ).up=(M.nd i).up from rfl,h.up]at e;cases e
     jq:=λx hx=>a.jq x (by rw[e];exact bw _ hx)} h.up
    exact At.serve b f (h1.handle b (by rw[bf];exact hp) (a.jq l (by rw[e];exact bO ..)).1)
end
section
variable{Q:bk->Prop}{S T:eN}{i j:Nat}{n:dZ}{M:aT}
theorem vX{a:List UInt8}{A B:eL}{b:List UInt8}(h:cE eL.zero a=(A,a.length))(hb:b.length<=200)(c:eD A b=de B):cE eL.zero (a++Tp.frame b)=(B,(a++Tp.frame b).length):=by
 have h1:=rT [] hb c;rw[List.append_nil]at h1;have h2:cE B ((Tp.frame b).drop (b.length+5))=(B,0):=eK (by rw[mz (by rw[ku];omega)];exact nu _);rw[nQ a.length eL.zero a _ (ag _) (by rw[h]),h,ie h1,h2];simp[ku]
theorem DI{a:List UInt8}{A:eL}{b:List UInt8}{k:Nat}(h:cE eL.zero a=(A,a.length))(hb:b.length<=200)(hk:k<(a++Tp.frame b).length)(c:a.length<=k):(cE eL.zero ((a++Tp.frame b).take k)).1=A:=by
 rw[aD,ku]at hk;have e:(a++Tp.frame b).take k=a++(Tp.frame b).take (k-a.length):=by
  rw[List.take_append,bK (by omega)]
 rw[e,nQ a.length eL.zero a _ (ag _) (by rw[h]),h];show(cE A _).1=A;rw[eK (zh hb (by omega))]
def eN.sync(S:eN)(i:Nat)(q:Ds):eN:=if q.tag=2 then S.cast i q.cP.slot.toNat (fS q.cP.bG) q.cP.cW else S.raise i (fS q.p)
theorem yW(hS:S.Ok){p:Int×Int}{l:List cF}{rg:Option eW}{q:Ds}(a:S.xy i ⟨p,l⟩)(hq:Fo Q S i p l rg q):S.By i (S.sync i q)/\(S.sync i q).Ok/\(S.sync i q).xy i ⟨q.p,q.l⟩/\(S.sync i q).v=S.v:=by
 have hle:S.p i<=fS q.p:=by
  have h1:=hq.high;rw[uK (.inr hq.bG) a.bG]at h1;have h2:fS p=S.p i:=a.p;have h3:fS (⟨p,l⟩:eL).p=fS p:=rfl;omega
 unfold eN.sync;split
 ·rename_i e;obtain⟨h1,h2,h3,h4,h5⟩:=hq.ps e;rw[h2]at hle;refine⟨eN.Ki hS h5 hle,eN.Kh hS h5 hle,?_,rfl⟩;rw[h2,h3];exact a.cast hS h1 (by rw[<-h2];exact hq.high)
 ·rename_i e;obtain⟨h1,h2⟩:=hq.NN e;refine⟨eN.Ge S hle,eN.Gd hS hle,?_,rfl⟩;rw[h1];exact a.raise hq.bG hq.high
theorem At.iz(t:Fits Q)(h:At Q S i M){q:Ds}(hp:(M.nd i).cI=de q):∃T,S.By i T/\At Q T i (M.iz i q):=by
 have a:=h.node;have hq:=a.cI q hp;have k:=a.Av;rw[a.ol h.up]at k;obtain⟨k1,k2,k3,k4⟩:=yW h.inv.ok k hq;refine⟨S.sync i q,k1,?_⟩;generalize S.sync i q=T at k1 k2 k3 k4;have g:=a.tape;unfold yv at g;rw[ar h.up]at g;obtain⟨y,t1,t2,t3⟩:=g;rw[hp]at t3;obtain⟨b,t3,t4,t5⟩:=t3;have m:=vX t1 t4 t5;rw[<-t3]at m;have hrg:∀r,(M.nd i).rg=de r->mn Q T i (M.nd i).log (M.nd i).known r:=λr hr=>(a.rg r hr).le k1.le (λs=>by rw[k4]);have key:∀d:Option eW,(∀r,d=de r->mn Q T i (M.nd i).log (M.nd i).known r)->At Q T i (M.aX i {M.nd i with iZ:=((M.nd i).D.length:Int),cI:=dl,p:=q.p,l:=q.l,rg:=d}):=by
  intro d w;refine⟨h.inv.fN k1 k2 ?_ (λj hj=>iB M _ hj) (λl hl=>.inl hl),h.lt,by rw[bf];exact h.up⟩;rw[bf];have hd:({M.nd i with iZ:=((M.nd i).D.length:Int),cI:=dl,p:=q.p,l:=q.l,rg:=d}:dZ).Ca=⟨q.p,q.l⟩:=by
   unfold dZ.Ca;simp only[h.up,if_true]
  exact{a with
   Av:=by rw[hd];exact k3
   gO:=by rw[hd];exact hq.vs
   tape:=by
    unfold yv;simp only[h.up,if_true];exact⟨(M.nd i).D,m,rfl,rfl⟩
   down:=λe=>by rw[show({M.nd i with iZ:=((M.nd i).D.length:Int),cI:=dl,p:=q.p,l:=q.l,rg:=d}:dZ).up=(M.nd i).up from rfl,h.up]at e;cases e
   known:=λs c e=>⟨(a.known s c e).1,(a.known s c e).2.1,(a.known s c e).2.2.1,(a.known s c e).2.2.2.le k1.le⟩
   jq:=λl hl=>⟨(a.jq l hl).1.le k1.le,(a.jq l hl).2⟩
   rg:=w
   cI:=λx hx=>by cases hx
   hH:=λs b hs hb=>by
    rw[k4]at hs;exact aE (a.hH s b hs hb) (k1.le.p i)}
 unfold aT.iz;dsimp only;by_cases e3:q.tag=3
 ·rw[ar e3];refine key _ (λr hr=>?_);cases er:(M.nd i).rg with
  |none=>rw[er]at hr;cases hr
  |some r0=>
   rw[er]at hr;injection hr with hr;have hr:(if r0.bG=q.bG then{r0 with prom:=di r0.prom (i:Int) q.l}else r0)=r:=hr;have h0:=hrg r0 er;by_cases f:r0.bG=q.bG
   ·rw[ar f]at hr;subst hr;refine⟨{h0.core with keys:=km h0.core.keys _ _,prom:=λx hx=>?_},h0.free⟩;rcases lX hx with rfl|hx
    ·have hv:=k3.aV;have u:q.p=r0.bG:=by rw[f];exact(hq.NN (by rw[e3];decide)).2.symm
     refine⟨Int.natCast_nonneg i,by have:=h.lt;show(i:Int)<5;omega,λs=>?_,λv n=>⟨(hv v n).1,hq.vs v n⟩,qX k3.ok⟩;have h9:=k3.NJ k2 s;rw[show(⟨q.p,q.l⟩:eL).p=r0.bG from u]at h9;exact h9
    ·exact h0.core.prom x hx
   ·rw[ak f]at hr;rw[<-hr];exact h0
 ·rw[ak e3];have h2:=key (M.nd i).rg hrg;by_cases e1:q.tag=1
  ·rw[ar e1];have e2:q.tag≠2:=by omega
   obtain⟨z,o⟩:=hq.NN e2;refine h2.send (hU.one t h.lt hq.dst (by rw[o];exact hq.bG) (λv hv=>⟨(k3.aV v hv).1,hq.vs v hv⟩) (qX k3.ok) (λs=>?_));have h9:=k3.NJ k2 s;rw[show(⟨q.p,q.l⟩:eL).p=q.bG from o.symm]at h9;exact h9
  ·rw[ak e1];have e2:q.tag=2:=by have:=hq.tag;omega
   obtain⟨v1,v2,v3,v4,A⟩:=hq.ps e2;refine h2.send (hU.three h.lt hq.dst v4 v1 ?_);have hm:q.cP∈(⟨q.p,q.l⟩:eL).l:=by
    show q.cP∈q.l;rw[v3];exact nD.2 (.inl rfl)
   exact(k3.has q.cP.slot.toNat q.cP hm (by have:=(eV v1).1;omega)).1
theorem zU{α:Type}{m:List (Int×α)}(h:(m.map (·.1)).Nodup){k:Int}{v:α}(hm:(k,v)∈m):cd m k=de v:=by
 induction m with
 |nil=>cases hm
 |cons p m a=>
  rw[dm,gG]at h;unfold cd;rcases dF.1 hm with e|hm
  ·rw[<-e,ar rfl]
  ·have:p.1≠k:=λe=>h.1 (by rw[e];exact cH.2 ⟨_,hm,rfl⟩);rw[ak this];exact a h.2 hm
theorem mq.lP{r:eW}(h:mq Q S i r){v:cF}:v∈r.lists.flatten<->∃q∈r.prom,v∈q.2:=by
 unfold eW.lists;rw[np];constructor
 ·rintro⟨l,hl,hv⟩;obtain⟨m,hm,rfl⟩:=cH.1 hl;cases e:cd r.prom (m:Int)with
  |none=>rw[e]at hv;cases hv
  |some l=>rw[e]at hv;exact⟨_,kQ e,hv⟩
 ·rintro⟨⟨k,l⟩,hq,hv⟩;have h1:=h.prom _ hq;refine⟨l,List.mem_map.2 ⟨k.toNat,List.mem_range.2 (by have:=h1.1;have:=h1.2.1;dsimp only at*;omega),?_⟩,hv⟩;have e:((k.toNat:Nat):Int)=k:=by have:=h1.1;dsimp only at*;omega
  rw[e,zU h.keys hq];rfl
theorem mq.safe{r:eW}(hS:S.Ok)(h:mq Q S i r)(hm:lG r.prom.length=dE)(s:Nat)(hv:S.v s (fS r.bG)=dl)(x:bk)
  (hx:(∀v∈r.lists.flatten,v.slot≠(s:Int))\/∃v∈r.lists.flatten,v.slot=(s:Int)/\x=v.cW/\∀u∈r.lists.flatten,u.slot=(s:Int)->dX u.bG v.bG<=0):(S.at s).Safe (fS r.bG) x:=by
 have hk:II ((r.prom.map (·.1)).map Int.toNat):=zI h.keys (λk hk=>by
  obtain⟨q,hq,rfl⟩:=cH.1 hk;exact⟨(h.prom q hq).1,(h.prom q hq).2.1⟩) (by rw[aY];exact hm)
 have f:∀a∈(r.prom.map (·.1)).map Int.toNat,∃q∈r.prom,a=q.1.toNat:=λa b=>by
  obtain⟨k,hk,rfl⟩:=cH.1 b;obtain⟨q,hq,rfl⟩:=cH.1 hk;exact⟨q,hq,rfl⟩
 refine(hS s).told (fS r.bG) _ hk (λa b=>?_) x ?_
 ·obtain⟨q,hq,rfl⟩:=f a b;exact((h.prom q hq).2.2.1 s).1
 ·rcases hx with hx|⟨v,n,o,rfl,p⟩
  ·refine .inl (λa b d hd=>?_);obtain⟨q,hq,rfl⟩:=f a b;exact(((h.prom q hq).2.2.1 s).2 hv).2 (λv hv=>hx v (h.lP.2 ⟨q,hq,hv⟩)) d hd
  ·obtain⟨m,j,l⟩:=h.lP.1 n;have h0:=(((h.prom m j).2.2.1 s).2 hv).1 v l o;refine .inr ⟨fS v.bG,h0.1,(hS s).val _ _ _ h0.2.1,λa b d d1 d2=>?_⟩;obtain⟨q,hq,rfl⟩:=f a b;obtain⟨t1,t2⟩:=((h.prom q hq).2.2.1 s).2 hv;by_cases g:∀u∈q.2,u.slot≠(s:Int)
   ·exact t2 g d d2
   ·have⟨u,hu,c⟩:∃u,u∈q.2/\u.slot=(s:Int):=Classical.byContradiction λe=>g (λu hu c=>e ⟨u,hu,c⟩);have h3:=p u (h.lP.2 ⟨q,hq,hu⟩) c;have b1:=(eV ((h.prom q hq).2.2.2.1 u hu).1).2.2.1;have b2:=(eV ((h.prom m j).2.2.2.1 v l).1).2.2.1;rw[BV (.inr b1) (.inr b2)]at h3;exact(t1 u hu c).2.2 d (by omega) d2
theorem sj(s:Int):∀(ls:List (List cF)) (b:cF),ls.foldl (dJ s) b=dJ s b ls.flatten
 |[],b=>rfl
 |l::ls,b=>by rw[dH,sj s ls,jI,lH]
theorem mq.pick{r:eW}(a:Fits Q)(hS:S.Ok)(h:mq Q S i r)(hm:lG r.prom.length=dE)(s:Nat)(hv:S.v s (fS r.bG)=dl):(S.at s).Safe (fS r.bG) (r.pick (s:Int))/\Q (r.pick (s:Int)):=by
 have hl:∀v∈r.lists.flatten,1<=v.bG.1/\Q v.cW:=λv hv=>by
  obtain⟨q,hq,b⟩:=h.lP.1 hv;have h1:=(h.prom q hq).2.2.2.1 v b;exact⟨(tB.1 (eV h1.1).2.2.1).1,h1.2⟩
 have hb:=Io (s:Int) r.lists.flatten (λv hv=>(hl v hv).1);unfold eW.pick;rw[sj];rcases hb with⟨e,h1⟩|⟨h1,h2,h3⟩
 ·exact⟨h.safe hS hm s hv _ (.inl h1),by rw[e];exact a.zero⟩
 ·exact⟨h.safe hS hm s hv _ (.inr ⟨_,h1,h2,rfl,h3⟩),(hl _ h1).2⟩
structure eN.rL(i:Nat)(b:Nat)(S T:eN):Prop where
 Lg:S.By i T
 ok:T.Ok
 p:T.p=S.p
 h:T.h=S.h
 v:∀s d,T.v s d≠dl->S.v s d≠dl\/d=b
theorem eN.rL.refl(hS:S.Ok)(b:Nat):S.rL i b S:=⟨.refl i S,hS,rfl,rfl,λ_ _ h=>.inl h⟩
theorem eN.rL.t{U:eN}{b:Nat}(h:S.rL i b T)(k:T.rL i b U):S.rL i b U:=
 ⟨h.Lg.t k.Lg,k.ok,k.p.t h.p,k.h.t h.h,λs d e=>by
  rcases k.v s d e with e|e
  ·exact h.v s d e
  ·exact .inr e⟩
theorem mq.put{r:eW}(hS:S.Ok)(h:mq Q S i r)(hb:r.begun=dE){s:Nat}(h4:s<40){c:bk}(b:cd r.dD (s:Int)=dl)(hq:Q c)(hs:(S.at s).Safe (fS r.bG) c):
  S.rL i (fS r.bG) (S.ask s (fS r.bG) c)/\mq Q (S.ask s (fS r.bG) c) i {r with dD:=di r.dD (s:Int) c}:=by
 have hv:S.v s (fS r.bG)=dl:=(h.dD hb s).t b;have k:=eN.Ml (i:=i) (x:=c) hv h.mod;have a:∀t d,(S.ask s (fS r.bG) c).v t d=if t=s/\d=fS r.bG then de c else S.v t d:=λ_ _=>rfl
 refine⟨⟨k,eN.Mk hS hv hs,rfl,rfl,λt d e=>?_⟩,?_⟩
 ·rw[a]at e;split at e
  ·rename_i e2;exact .inr e2.2
  ·exact .inl e
 ·exact{h with
   prom:=λq hq=>⟨(h.prom q hq).1,(h.prom q hq).2.1,λs=>((h.prom q hq).2.2.1 s).le k.le,(h.prom q hq).2.2.2⟩
   new:=λe=>by rw[show({r with dD:=di r.dD (s:Int) c}:eW).begun=r.begun from rfl,hb]at e;cases e
   hH:=λ_=>h.hH hb
   dD:=λ_ t=>by
    show(S.ask s (fS r.bG) c).v t (fS r.bG)=cd (di r.dD (s:Int) c) (t:Int);rw[a,fw];by_cases e:t=s
    ·rw[ar ⟨e,rfl⟩,ar (by rw[e])]
    ·rw[ak (λx=>e x.1),ak (by omega)];exact h.dD hb t
   fit:=λt x e=>by
    have e:cd (di r.dD (s:Int) c) t=de x:=e;rw[fw]at e;split at e
    ·rename_i e2;injection e with e;exact⟨by omega,by omega,e▸hq⟩
    ·exact h.fit t x e
   aV:=h.aV}
theorem sB{r:eW}(a:Fits Q)(hS:S.Ok)(h:mq Q S i {r with begun:=dE})(hp:r.dD=[])(hm:lG r.prom.length=dE)(n:dZ)(s0:Nat):∀k,s0+k<=40->
  ∃T,S.rL i (fS r.bG) T/\mq Q T i {r with begun:=dE,dD:=eM n r s0 k}/\(∀t:Nat,s0+k<=t->cd (eM n r s0 k) (t:Int)=dl)/\∀t:Nat,s0<=t->t<s0+k->cd n.known (t:Int)=dl->cd (eM n r s0 k) (t:Int)≠dl
 |0,_=>⟨S,.refl hS _,h,λt d=>by show cd r.dD _=dl;rw[hp];rfl,λt h1 h2=>absurd h2 (by omega)⟩
 |k+1,hk=>by
  obtain⟨T,a1,a2,a3,a4⟩:=sB a hS h hp hm n s0 k (by omega);cases hkn:cd n.known ((s0+k:Nat):Int)with
  |some c=>
   have e:eM n r s0 (k+1)=eM n r s0 k:=by
    conv=>lhs;unfold eM
    rw[hkn];rfl
   rw[e];refine⟨T,a1,a2,λt d=>a3 t (by omega),λt h1 h2 h3=>?_⟩;by_cases e2:t=s0+k
   ·rw[e2,hkn]at h3;cases h3
   ·exact a4 t h1 (by omega) h3
  |none=>
   have e:eM n r s0 (k+1)=di (eM n r s0 k) ((s0+k:Nat):Int) (r.pick ((s0+k:Nat):Int)):=by
    conv=>lhs;unfold eM
    rw[hkn];rfl
   rw[e];have b:=a3 (s0+k) (ag _);have hv:T.v (s0+k) (fS r.bG)=dl:=(a2.dD rfl (s0+k)).t b;obtain⟨f,g⟩:=mq.pick (r:={r with begun:=dE,dD:=eM n r s0 k}) a a1.ok a2 hm (s0+k) hv;obtain⟨b1,b2⟩:=a2.put a1.ok rfl (s:=s0+k) (by omega) b g f;refine⟨_,a1.t b1,b2,λt d=>?_,λt h1 h2 h3=>?_⟩
   ·rw[fw,ak (by omega)];exact a3 t (by omega)
   ·rw[fw];split
    ·exact λe=>by cases e
    ·rename_i e2;exact a4 t h1 (by omega) h3
theorem foldl_max(l:List cF):∀t:Int,t<=l.foldl (λt v=>max t v.slot) t/\(∀v∈l,v.slot<=l.foldl (λt v=>max t v.slot) t)/\(∀m,t<=m->(∀v∈l,v.slot<=m)->l.foldl (λt v=>max t v.slot) t<=m):=by
 induction l with
 |nil=>exact λt=>⟨jZ _,λv hv=>(by cases hv),λm h _=>h⟩
 |cons u l b=>
  intro t;obtain⟨h1,h2,h3⟩:=b (max t u.slot);refine⟨by rw[dH];omega,λv hv=>?_,λm hm hv=>?_⟩
  ·rw[dH];rcases dF.1 hv with rfl|hv
   ·omega
   ·exact h2 v hv
  ·rw[dH];refine h3 m ?_ (λv a=>hv v (bw _ a));have:=hv u (bO ..);omega
theorem mn.begin{r:eW}{n:dZ}(a:Fits Q)(hS:S.Ok)(hl:n.log.length<=40)(h:mn Q S i n.log n.known r)(hb:r.begun=dT)(ho:fS r.bG<=S.p i)(hm:lG r.prom.length=dE):
  ∃T,S.rL i (fS r.bG) T/\mn Q T i n.log n.known (r.begin n):=by
 obtain⟨hv,hp⟩:=h.core.new hb;have h0:mq Q S i {r with begun:=dE}:={h.core with
  new:=λe=>by cases e
  hH:=λ_=>ho
  dD:=λ_ s=>by rw[hp];exact hv s}
 obtain⟨t1,t2,t3⟩:=foldl_max r.lists.flatten (-1);have c:r.top<=39:=t3 39 (by omega) (λv hv=>by
  obtain⟨q,hq,b⟩:=h.core.lP.1 hv;have:=(eV ((h.core.prom q hq).2.2.2.1 v b).1).2.1;omega)
 obtain⟨T,a1,a2,a3,a4⟩:=sB a hS h0 hp hm n n.log.length (r.top+1-(n.log.length:Int)).toNat (by omega);refine⟨T,a1,a2,λ_ s d h1 h2 h3 x=>?_⟩;have h3:cd (eM n r n.log.length (r.top+1-(n.log.length:Int)).toNat) (s:Int)=dl:=h3;have hs:n.log.length+(r.top+1-(n.log.length:Int)).toNat<=s:=by
  rcases dy s (n.log.length+(r.top+1-(n.log.length:Int)).toNat)with e|e
  ·exact absurd h3 (a4 s h1 e h2)
  ·exact e
 refine a2.safe a1.ok hm s ((a2.dD rfl s).t h3) x (.inl λv hv=>?_);have h9:v.slot<=r.top:=t2 v hv;omega
theorem uH{n:dZ}{r:eW}{c:bk}{s:Int}:∀k,k<=40->jr n r c k=de s->40-(k:Int)<=s/\s<40/\cd r.dD s=dl/\cd n.known s=dl
 |0,_,h=>by cases h
 |k+1,hk,h=>by
  unfold jr at h;dsimp only at h;split at h
  ·cases h
  ·split at h
   ·rename_i h2;injection h with h;subst h;exact⟨by omega,by omega,h2.1,h2.2⟩
   ·have:=uH k (by omega) h;exact⟨by omega,this.2⟩
theorem mn.ask{r:eW}{n:dZ}(hS:S.Ok)(h:mn Q S i n.log n.known r)(hb:r.begun=dE){c:bk}(hq:Q c)(hl:n.log.length<=40):∃T,S.rL i (fS r.bG) T/\mn Q T i n.log n.known (r.ask n c)/\(r.ask n c).bG=r.bG/\(r.ask n c).begun=dE:=by
 unfold eW.ask;cases e:jr n r c (40-n.log.length)with
 |none=>exact⟨S,.refl hS _,h,rfl,hb⟩
 |some s=>
  obtain⟨h1,h2,h3,h4⟩:=uH _ (by omega) e;obtain⟨t,rfl⟩:∃t:Nat,s=(t:Int):=⟨s.toNat,by omega⟩
  have hs:=h.free hb t (by omega) (by omega) h4 h3;obtain⟨b1,b2⟩:=h.core.put hS hb (s:=t) (by omega) h3 hq (hs c);refine⟨_,b1,⟨b2,λ_ u b u1 a u3 x=>?_⟩,rfl,hb⟩;have u3:cd (di r.dD (t:Int) c) (u:Int)=dl:=u3;rw[fw]at u3;split at u3
  ·cases u3
  ·exact eN.Safe.le (h.free hb u b u1 a u3 x) b1.Lg.le
theorem mn.asks{n:dZ}(hl:n.log.length<=40):∀(l:List bk) {S:eN} {r:eW},S.Ok->mn Q S i n.log n.known r->r.begun=dE->(∀c∈l,Q c)->∃T,S.rL i (fS r.bG) T/\mn Q T i n.log n.known (l.foldl (λr c=>r.ask n c) r)/\(l.foldl (λr c=>r.ask n c) r).bG=r.bG/\(l.foldl (λr c=>r.ask n c) r).begun=dE
 |[],S,r,hS,h,hb,_=>⟨S,.refl hS _,h,rfl,hb⟩
 |c::l,S,r,hS,h,hb,hq=>by
  obtain⟨T,a1,a2,a3,a4⟩:=h.ask hS hb (hq c (bO ..)) hl;obtain⟨U,b1,b2,a,b⟩:=mn.asks hl l a1.ok a2 a4 (λx hx=>hq x (bw _ hx));rw[a3]at b1 a;exact⟨U,a1.t b1,b2,a,b⟩
theorem fE.LJ(h:fE Q S i n)(hu:n.up=dE){b:Nat}(k:S.rL i b T)(a:b<=S.p i){r r':eW}(hr:n.rg=de r)(hb:r'.bG=r.bG)(hs:mn Q T i n.log n.known r'):fE Q T i {n with rg:=de r'}:=
 {h with
  Av:=h.Av.same (by rw[k.p]) (λs d=>by rw[k.h])
  down:=λe=>by rw[show({n with rg:=de r'}:dZ).up=n.up from rfl,hu]at e;cases e
  known:=λs c e=>⟨(h.known s c e).1,(h.known s c e).2.1,(h.known s c e).2.2.1,(h.known s c e).2.2.2.le k.Lg.le⟩
  jq:=λl hl=>⟨(h.jq l hl).1.le k.Lg.le,(h.jq l hl).2⟩
  rg:=λx hx=>by injection hx with hx;rw[<-hx];exact hs
  cI:=λq hq=>by
   have h1:=(h.cI q hq).le k.Lg.le;exact{h1 with
    hH:=λe=>by
     obtain⟨x,h1,h2⟩:=h1.hH e;rw[hr]at h1;injection h1 with h1;exact⟨r',rfl,by rw[hb,h1];exact h2⟩}
  hH:=λs d hs hd=>by
   rw[k.p];rcases k.v s d hs with h1|h1
   ·exact h.hH s d h1 hd
   ·rw[h1];exact a}
theorem At.foldl{α:Type}(f:aT->α->aT):∀(l:List α) {M:aT},At Q S i M->(∀M x,x∈l->At Q S i M->At Q S i (f M x))->At Q S i (l.foldl f M)
 |[],_,h,_=>h
 |x::l,M,h,a=>At.foldl f l (a M x (bO ..) h) (λM y hy=>a M y (bw _ hy))
theorem At.each(h:At Q S i M)(ks:List Int){l:dK}(hl:∀m:Nat,m<5->hU Q S {l with nK:=(i:Int),dst:=(m:Int)}):At Q S i (M.each i ks l):=by
 unfold aT.each;refine At.foldl _ _ h (λM m hm h=>?_);split
 ·exact h
 ·exact h.send (hl m (bj.1 hm))
theorem At.ke(f:Fits Q)(h:At Q S i M){r:eW}(hr:(M.nd i).rg=de r)(hp:(M.nd i).cI=dl)(hd:later (M.nd i).p r.bG=dT):∃T,S.By i T/\At Q T i (M.ke i r):=by
 have a:=h.node;have d:=a.rg r hr;have hi:=h.lt;unfold aT.ke;dsimp only;by_cases h1:later r.bG (M.nd i).p=dE
 ·rw[ar h1];have t:¬dX r.bG (M.nd i).p<0:=by
   rw[rz (.inr d.core.bG) (a.ym h.up)]at h1;rw[uK (.inr d.core.bG) (a.ym h.up)];omega
  refine⟨S,.refl i S,?_⟩;by_cases h3:(M.nd i).full 14=dE
  ·rw[ar h3];exact h
  ·rw[ak h3];have h3:=uG (Bool.eq_false_iff.2 h3);refine h.set (a.write h.up hp (b:=Tp.iJ r.bG.1 r.bG.2) (by rw[qy];decide) (by rw[qy];exact h3) ?_ ⟨.inr (.inr rfl),⟨jZ 0,by show(0:Int)<5;decide⟩,d.core.bG,t,?_,λ_=>⟨rfl,rfl⟩,λe=>by have e:(3:Nat)=2:=e;omega,λ_=>⟨r,hr,jZ _,d.core.me⟩⟩) h.up
   ·rw[uY _ d.core.bG];unfold oG;rw[ar ⟨d.core.bG,t⟩]
   ·have:=a.gO;rw[a.ol h.up]at this;exact this
 ·rw[ak h1];by_cases hm:lG r.prom.length=dE
  ·rw[ar hm];have ho:fS r.bG<=S.p i:=by
    have q:=a.Av;rw[a.ol h.up]at q;have e1:fS (M.nd i).p=S.p i:=q.p;rw[Bool.not_eq_true,<-Bool.not_eq_true,rz (.inr d.core.bG) (a.ym h.up)]at h1;omega
   have⟨v,a1,a2,a3,a4⟩:∃T,S.rL i (fS r.bG) T/\mn Q T i (M.nd i).log (M.nd i).known (if r.begun then r else r.begin (M.nd i))/\(if r.begun then r else r.begin (M.nd i)).bG=r.bG/\(if r.begun then r else r.begin (M.nd i)).begun=dE:=by
    by_cases hb:r.begun=dE
    ·rw[ar hb];exact⟨S,.refl h.inv.ok _,d,rfl,hb⟩
    ·have hb:r.begun=dT:=by simpa using hb
     rw[hb];obtain⟨T,b1,b2⟩:=d.begin f h.inv.ok a.ru hb ho hm;exact⟨T,b1,b2,rfl,rfl⟩
   generalize (if r.begun then r else r.begin (M.nd i))=r1 at a2 a3 a4|-;obtain⟨g,b1,b2,n,o⟩:=mn.asks a.ru (M.nd i).queue a1.ok a2 a4 a.ja.2;rw[a3]at b1;generalize (M.nd i).queue.foldl (λr c=>r.ask (M.nd i) c) r1=u at b2 n o|-;have k:=a1.t b1;refine⟨g,k.Lg,?_⟩;have h2:At Q g i (M.aX i {M.nd i with rg:=de u}):=by
    refine⟨h.inv.fN k.Lg k.ok ?_ (λj hj=>iB M _ hj) (λl hl=>.inl hl),hi,by rw[bf];exact h.up⟩;rw[bf];exact a.LJ h.up k ho hr (n.t a3) b2
   refine At.foldl _ _ h2 (λM' s hs p=>?_);have hs:=bj.1 hs;unfold aT.qi;split
   ·rename_i c e1 e2;have hc:=(b2.core.fit _ _ e1).2.2;refine p.each _ (λm hm=>hU.two hi ⟨by omega,by omega⟩ hc ?_ ?_)
    ·unfold jJ;simp only[aP,ap];exact⟨by omega,by omega,b2.core.bG,f.fit c hc⟩
    ·have:=b2.core.dD o s;rw[e1]at this;simpa using this
   ·exact p
  ·rw[ak hm];exact⟨S,.refl i S,h.each _ (λm hm=>hU.LI f hi ⟨by omega,by omega⟩ d.core.bG)⟩
theorem At.asks(b:Fits Q)(h:At Q S i M):At Q S i (M.asks i):=by
 have a:=h.node;have hi:=h.lt;unfold aT.asks;dsimp only;have c:0<=((M.nd i).fN+1)%5/\((M.nd i).fN+1)%5<5:=⟨Int.emod_nonneg _ (by decide),Int.emod_lt_of_pos _ (by decide)⟩
 have h2:At Q S i (M.aX i {M.nd i with fN:=((M.nd i).fN+1)%5}):=h.set {a with
  down:=λe=>by rw[show({M.nd i with fN:=((M.nd i).fN+1)%5}:dZ).up=(M.nd i).up from rfl,h.up]at e;cases e
  fN:=c} h.up
 split
 ·refine h2.send (hU.hH b hi c (.inr (.inl rfl)) ?_ b.zero);split
  ·exact a.heard
  ·exact a.ym h.up
 ·exact h2
theorem At.drop(h:At Q S i M)(hp:(M.nd i).cI=dl):At Q S i (M.drop i)/\((M.drop i).nd i).cI=dl/\∀r,((M.drop i).nd i).rg=de r->later ((M.drop i).nd i).p r.bG=dT:=by
 have a:=h.node;unfold aT.drop;cases e:(M.nd i).rg with
 |none=>exact⟨h,hp,λr hr=>by rw[e]at hr;cases hr⟩
 |some r=>
  dsimp only;by_cases h1:later (M.nd i).p r.bG=dE
  ·rw[ar h1];refine⟨h.set {a with
    down:=λe=>by rw[show({M.nd i with rg:=dl}:dZ).up=(M.nd i).up from rfl,h.up]at e;cases e
    rg:=λr hr=>by cases hr
    cI:=λq hq=>by rw[show({M.nd i with rg:=dl}:dZ).cI=(M.nd i).cI from rfl,hp]at hq;cases hq} h.up,by rw[bf];exact hp,λr hr=>by rw[bf]at hr;cases hr⟩
  ·rw[ak h1];exact⟨h,hp,λr' hr=>by rw[e]at hr;injection hr with hr;rw[<-hr];simpa using h1⟩
theorem At.mB(a:Fits Q)(h:At Q S i M)(hp:(M.nd i).cI=dl):∃T,S.By i T/\At Q T i (M.mB i):=by
 obtain⟨h1,h2,h3⟩:=h.drop hp;unfold aT.mB;dsimp only;cases e:((M.drop i).nd i).rg with
 |some r=>
  obtain⟨T,a1,a2⟩:=h1.ke a e h2 (h3 r e);refine⟨T,a1,?_⟩;dsimp only;split
  ·exact a2
  ·exact a2.asks a
 |none=>
  refine⟨S,.refl i S,?_⟩;dsimp only;split
  ·rename_i hc;refine At.asks a (At.foldl _ _ h1 (λM' c d b=>b.send (hU.hH a h.lt ?_ (.inl rfl) (.inl rfl) (h1.node.ja.2 c d))));have:=(h1.node.ym h1.up).num;exact⟨this.2.2.1,this.2.2.2⟩
  ·exact h1.asks a
theorem eh.step(a:Fits Q)(h:eh Q S M)(hi:i<5):∃T,S.By i T/\eh Q T (M.step i):=by
 unfold aT.step;by_cases hu:(M.nd i).up=dE
 ·rw[ar hu];have b:At Q S i M:=⟨h,hi,hu⟩
  cases e:(M.nd i).cI with
  |some q=>
   obtain⟨T,a1,a2⟩:=b.iz a e;exact⟨T,a1,a2.inv⟩
  |none=>
   have h1:=At.serve a (M.nd i).inbox.length b;dsimp only;split
   ·exact⟨S,.refl i S,h1.inv⟩
   ·rename_i hp;obtain⟨T,a1,a2⟩:=h1.mB a (by
     cases e:((M.serve (M.nd i).inbox.length i).nd i).cI with
     |none=>rfl
     |some q=>rw[e]at hp;exact absurd rfl hp)
    exact⟨T,a1,a2.inv⟩
 ·rw[ak hu];exact⟨S,.refl i S,h⟩
end
structure oq(Q:bk->Prop)(a:AF):Prop where
 kind:1<=a.kind/\a.kind<=9
 node:0<=a.node/\a.node<5
 keep:0<=a.keep
 at':0<=a.at_
 MA:∀now,(a.MA now).2=0->Q (a.MA now).1
section
variable{Q:bk->Prop}{S T:eN}{i j:Nat}{n:dZ}{M:aT}
theorem eh.fQ(d:Fits Q)(h:eh Q S M)(hi:i<5){o:bk×Int}(ho:o.2=0->Q o.1):eh Q S (M.fQ i o):=by
 unfold aT.fQ;dsimp only;by_cases hu:(M.nd i).up=dE
 ·rw[ar hu];by_cases h2:o.2≠0
  ·rw[ar h2];exact h.Ng rfl rfl
  ·rw[ak h2];have hq:=ho (Classical.not_not.1 h2);by_cases h3:o.1∈(M.nd i).log
   ·rw[ar h3];exact h.Ng rfl rfl
   ·rw[ak h3];obtain⟨k1,k2⟩:=(h.nd i hi).add hu hq;refine h.set {k1 with
     down:=λe=>by
      have e:((M.nd i).add o.1).up=dT:=e;rw[k2]at e;cases e
     mO:=?_}
    split
    ·exact k1.mO
    ·rename_i h4;refine⟨mw.2 ⟨k1.mO.1,by simp,λa c b hb e=>h4 (by rw[cL.1 hb]at e;exact e▸c)⟩,λx hx=>?_⟩;rcases dR.1 hx with hx|hx
     ·exact k1.mO.2 x hx
     ·rw[cL.1 hx];exact hq
 ·rw[ak hu];exact h
theorem xU(M:aT)(i:Nat):∃r1:Int,M.lead i=(if(M.nd i).up=dE/\r1<=65536 then M.aX i {M.nd i with rg:=de ⟨(r1,(i:Int)),[],dT,[],[]⟩}else M)/\(M.nd i).p.1+1<=r1/\(M.nd i).heard.1+1<=r1/\(∀r,(M.nd i).rg=de r->r.bG.1+1<=r1)/\(r1=(M.nd i).p.1+1\/r1=(M.nd i).heard.1+1\/∃r,(M.nd i).rg=de r/\r1=r.bG.1+1):=by
 unfold aT.lead;dsimp only;cases e:(M.nd i).rg with
 |none=>exact⟨max (M.nd i).p.1 (M.nd i).heard.1+1,rfl,by omega,by omega,λr hr=>(by cases hr),by omega⟩
 |some r0=>
  refine⟨max (max (M.nd i).p.1 (M.nd i).heard.1+1) (r0.bG.1+1),rfl,by omega,by omega,λr hr=>?_,?_⟩
  ·injection hr with hr;rw[<-hr];omega
  ·by_cases h1:max (M.nd i).p.1 (M.nd i).heard.1+1<=r0.bG.1+1
   ·exact .inr (.inr ⟨r0,rfl,by omega⟩)
   ·omega
theorem eh.lead(k:Fits Q)(h:eh Q S M)(hi:i<5):eh Q S (M.lead i):=by
 have a:=h.nd i hi;obtain⟨r1,he,l,-,hrg,-⟩:=xU M i;rw[he];by_cases hc:(M.nd i).up=dE/\r1<=65536
 ·rw[ar hc];obtain⟨hu,h6⟩:=hc;have d:=a.ym hu;have f:okB (r1,(i:Int))=dE:=by
   have:=d.num;rw[tB];dsimp only;omega
  have hv:∀s,S.v s (fS (r1,(i:Int)))=dl:=λs=>by
   cases e:S.v s (fS (r1,(i:Int)))with
   |none=>rfl
   |some x=>
    exfalso;have h1:=a.hH s (fS (r1,(i:Int))) (by rw[e];exact λe=>by cases e) (by
     have:=zX (b:=(r1,(i:Int))) (.inr f);have e2:((r1,(i:Int)):Int×Int).2=(i:Int):=rfl;omega)
    have g:=a.Av;rw[a.ol hu]at g;have e1:fS (M.nd i).p=S.p i:=g.p;have e2:=d.int;have e3:=yH.int (b:=(r1,(i:Int))) (.inr f);have j:=d.num;dsimp only at e3;omega
  refine h.set {a with
   down:=λe=>by
    have e:(M.nd i).up=dT:=e;rw[hu]at e;cases e
   rg:=λr hr=>by
    injection hr with hr;subst hr;exact⟨⟨f,rfl,jX,λq hq=>(by cases hq),λ_=>⟨hv,rfl⟩,λe=>(by cases e),λe=>(by cases e),λs c e=>(by cases e),jX,λq hq=>(by cases hq)⟩,λe=>by cases e⟩
   cI:=λq hq=>by
    have h1:=a.cI q hq;exact{h1 with
     hH:=λe=>by
      obtain⟨r,k1,k2,k3⟩:=h1.hH e;refine⟨_,rfl,?_,k3⟩;have:=hrg r k1;show q.bG.1<=r1;omega}}
 ·rw[ak hc];exact h
theorem eh.jG(h:eh Q S M){l:dK}(hl:hU Q S l):eh Q S (M.jG l):=by
 unfold aT.jG;have hd:=hl.dst;have hi:l.dst.toNat<5:=by omega
 split
 ·rename_i hu;have a:=h.nd _ hi;refine h.set {a with
   down:=λe=>by
    have e:(M.nd l.dst.toNat).up=dT:=e;rw[hu]at e;cases e
   jq:=λx hx=>?_}
  rcases dR.1 hx with hx|hx
  ·exact a.jq x hx
  ·rw[cL.1 hx];exact⟨hl,by omega⟩
 ·exact h
theorem eh.comes:∀(ls:List dK) {M:aT},eh Q S M->(∀l∈ls,hU Q S l)->eh Q S (ls.foldl (λM l=>M.jG l) M)
 |[],_,h,_=>h
 |l::ls,M,h,hl=>eh.comes ls (h.jG (hl l (bO ..))) (λx hx=>hl x (bw _ hx))
theorem eh.La(h:eh Q S M){L:List dK}(a:∀l∈L,l∈M.cz):eh Q S {M with cz:=L}:=⟨h.ok,h.nd,λl hl=>h.cz l (a l hl)⟩
theorem eh.sO(h:eh Q S M):eh Q S M.sO:=eh.comes M.cz (h.La (L:=[]) (λl hl=>by cases hl)) h.cz
theorem oX{α:Type}{l:List α}{k:Nat}{d:α}(hk:k<l.length):l.getD k d∈l:=by
 rw[au,aC hk];exact dW hk
theorem eh.iC(h:eh Q S M)(k:Nat)(comes stays:Bool):eh Q S (M.iC k comes stays):=by
 unfold aT.iC;split
 ·exact h
 ·rename_i a;have hlen:0<M.cz.length:=dw.2 a;have hm:M.cz.getD (k%M.cz.length) dK.zero∈M.cz:=oX (fm _ hlen);dsimp only;have h1:eh Q S (if stays then M else{M with cz:=M.cz.eraseIdx (k%M.cz.length)}):=by
   split
   ·exact h
   ·exact h.La (λl hl=>List.mem_of_mem_eraseIdx hl)
  split
  ·exact h1.jG (h.cz _ hm)
  ·exact h1
theorem fE.blank{up:Bool}{D:List UInt8}{iZ:Int}{A:eL}(a:S.xy i (dZ.blank up D iZ A).Ca)(hv:∀v∈(dZ.blank up D iZ A).Ca.l,Q v.cW)(hl:D.length<=100000)(d:yv (dZ.blank up D iZ A))(hd:up=dT->A=eL.zero)(ho:∀s b,S.v s b≠dl->b%5=i->b<=S.p i):fE Q S i (dZ.blank up D iZ A) where
 Av:=a
 gO:=hv
 len:=hl
 tape:=d
 down:=λe=>by
  have e:up=dT:=e;rw[hd e,e];rfl
 heard:= .inl rfl
 known:=λs c e=>by cases e
 log:=λj c e=>by
  have e:([]:List bk)[j]?=de c:=e;rw[List.getElem?_nil]at e;cases e
 store:=rfl
 ja:=⟨jX,λc hc=>by cases hc⟩
 mO:=⟨jX,λc hc=>by cases hc⟩
 jq:=λl hl=>by cases hl
 fN:=⟨jZ 0,by show(0:Int)<5;decide⟩
 rg:=λr hr=>by cases hr
 cI:=λq hq=>by cases hq
 hH:=ho
theorem eh.jT(t:Fits Q)(h:eh Q S M)(hi:i<5)(keep:Nat):∃T,S.By i T/\eh Q T (M.jT i keep):=by
 have a:=h.nd i hi;unfold aT.jT;dsimp only;by_cases hu:(M.nd i).up=dE
 ·rw[ar hu];have f:=a.tape;unfold yv at f;rw[ar hu]at f;obtain⟨c,t1,t2,t3⟩:=f;obtain⟨k,hk⟩:=aK ((M.nd i).iZ.toNat+min keep ((M.nd i).D.length-(M.nd i).iZ.toNat));rw[<-hk];have p:(M.nd i).iZ.toNat=c.length:=by omega
  rw[p]at hk;have hlen:c.length<=(M.nd i).D.length:=by
   cases e:(M.nd i).cI with
   |none=>rw[e]at t3;have t3:(M.nd i).D=c:=t3;rw[t3];exact ag _
   |some q=>
    rw[e]at t3;obtain⟨b,t3,-⟩:=t3;rw[t3,aD];omega
  have hkl:k<=(M.nd i).D.length:=by omega
  have m:((M.nd i).D.take k).length=k:=by rw[aM];omega
  have d:=a.Av;have g:=a.gO;rw[a.ol hu]at d g;have n:(∃T,S.By i T/\T.Ok/\T.v=S.v/\T.xy i (cE eL.zero ((M.nd i).D.take k)).1/\∀v∈(cE eL.zero ((M.nd i).D.take k)).1.l,Q v.cW):=by
   cases e:(M.nd i).cI with
   |none=>
    rw[e]at t3;have t3:(M.nd i).D=c:=t3;have e2:(M.nd i).D.take k=c:=by rw[t3,bK];rw[<-t3];rw[t3]at hk|-;omega
    rw[e2,t1];exact⟨S,.refl i S,h.ok,rfl,d,g⟩
   |some q=>
    rw[e]at t3;obtain⟨b,t3,t4,t5⟩:=t3;by_cases o:k<(M.nd i).D.length
    ·have h1:=DI (b:=b) (k:=k) t1 t4 (by rw[<-t3];exact o) (by omega);rw[<-t3]at h1;rw[h1];exact⟨S,.refl i S,h.ok,rfl,d,g⟩
    ·have e2:(M.nd i).D.take k=c++Tp.frame b:=by rw[bK (by omega),t3]
     rw[e2,vX t1 t4 t5];have hq:=a.cI q e;obtain⟨k1,k2,k3,k4⟩:=yW h.ok d hq;exact⟨_,k1,k2,k4,k3,hq.vs⟩
  obtain⟨T,k1,k2,k4,k3,r⟩:=n;refine⟨T,k1,h.fN k1 k2 ?_ (λj hj=>iB M _ hj) (λl hl=>.inl hl)⟩;rw[bf];refine fE.blank k3 r ?_ ?_ (λ_=>rfl) (λs b hs hb=>?_)
  ·rw[m];exact aE hkl a.len
  ·show((k:Nat):Int)=(((M.nd i).D.take k).length:Int)
   rw[m]
  ·rw[k4]at hs;exact aE (a.hH s b hs hb) (k1.le.p i)
 ·rw[ak hu];exact⟨S,.refl i S,h⟩
theorem eh.start(h:eh Q S M)(hi:i<5):eh Q S (M.start i):=by
 have a:=h.nd i hi;unfold aT.start;dsimp only;by_cases hu:(M.nd i).up=dE
 ·rw[ar hu];exact h
 ·rw[ak hu];have hd:(M.nd i).Ca=(cE eL.zero (M.nd i).D).1:=by unfold dZ.Ca;rw[if_neg hu]
  have d:=a.tape;unfold yv at d;rw[ak hu]at d;have hle:=nw (M.nd i).D.length eL.zero (M.nd i).D (ag _);have hid:=rV (M.nd i).D.length eL.zero (M.nd i).D (ag _);obtain⟨k,hk⟩:=aK ((cE eL.zero (M.nd i).D).2);rw[<-hk]at hle hid|-;have b:((M.nd i).D.take k).length=k:=by rw[aM];omega
  have f:(cE eL.zero ((M.nd i).D.take k)).1=(cE eL.zero (M.nd i).D).1:=by rw[hid]
  have c:(dZ.blank dE ((M.nd i).D.take k) (min (M.nd i).iZ (k:Int)) (cE eL.zero ((M.nd i).D.take k)).1).Ca=(M.nd i).Ca:=by
   rw[hd,f];rfl
  refine h.set (fE.blank (by rw[c];exact a.Av) (by rw[c];exact a.gO) (by rw[b];exact aE hle a.len) ?_ (λe=>by cases e) a.hH);show∃g,_;refine⟨(M.nd i).D.take k,?_,?_,rfl⟩
  ·rw[b,hid];exact Prod.ext rfl hk.symm
  ·show min (M.nd i).iZ (k:Int)=_;rw[b];omega
theorem eh.act(b:Fits Q)(h:eh Q S M){a:AF}(c:oq Q a):∃T,S.Le T/\eh Q T (M.act a):=by
 have g:=c.node;have hi:a.node.toNat<5:=by omega
 unfold aT.act;by_cases k1:a.kind=1
 ·rw[ar k1];exact⟨S,.refl S,h.fQ b hi (c.MA _)⟩
 rw[ak k1];by_cases k2:a.kind=2
 ·rw[ar k2];exact⟨S,.refl S,h.lead b hi⟩
 rw[ak k2];by_cases k3:a.kind=3
 ·rw[ar k3];obtain⟨T,h1,h2⟩:=h.step b hi;exact⟨T,h1.le,h2⟩
 rw[ak k3];by_cases k4:a.kind=4
 ·rw[ar k4];exact⟨S,.refl S,h.iC _ _ _⟩
 rw[ak k4];by_cases d:a.kind=5
 ·rw[ar d];exact⟨S,.refl S,h.iC _ _ _⟩
 rw[ak d];by_cases k6:a.kind=6
 ·rw[ar k6];exact⟨S,.refl S,h.iC _ _ _⟩
 rw[ak k6];by_cases e:a.kind=7
 ·rw[ar e];exact⟨S,.refl S,h.sO⟩
 rw[ak e];by_cases f:a.kind=8
 ·rw[ar f];obtain⟨T,h1,h2⟩:=h.jT b hi a.keep.toNat;exact⟨T,h1.le,h2⟩
 rw[ak f];exact⟨S,.refl S,h.start hi⟩
theorem eh.Mo(b:Fits Q):∀(l:List AF) {S:eN} {M:aT},eh Q S M->(∀a∈l,oq Q a)->∃T,S.Le T/\eh Q T (l.foldl aT.act M)
 |[],S,M,h,_=>⟨S,.refl S,h⟩
 |a::l,S,M,h,c=>by
  obtain⟨T,h1,h2⟩:=h.act b (c a (bO ..));obtain⟨U,k1,k2⟩:=eh.Mo b l h2 (λx hx=>c x (bw _ hx));exact⟨U,h1.t k1,k2⟩
theorem Bi:cE eL.zero []=(eL.zero,0):=eK (nu _)
theorem eh.zero:eh Q eN.zero aT.zero:=by
 refine⟨eN.sR,λi hi=>?_,λl hl=>by cases hl⟩;refine fE.blank ⟨by decide,rfl,λs v hv=>(by cases hv),λs _ d=>rfl⟩ (λv hv=>by cases hv) (bX _) ?_ (λe=>by cases e) (λs b hs=>absurd rfl hs);exact⟨[],Bi,rfl,rfl⟩
theorem eh.run(b:Fits Q){l:List AF}(c:∀a∈l,oq Q a):∃S,eh Q S (pS l):=by
 obtain⟨T,-,h⟩:=eh.Mo b l eh.zero c;exact⟨T,h⟩
theorem FT(l:List AF){j k:Nat}(h:j<=k):pS (l.take k)=((l.take k).drop j).foldl aT.act (pS (l.take j)):=by
 unfold pS;rw[<-iw];congr 1;have e:l.take j=(l.take k).take j:=by rw[iS];congr 1;omega
 rw[e,dg]
theorem DQ(f:Fits Q){l:List AF}(g:∀a∈l,oq Q a){j k:Nat}(n:j<=k){a b:Nat}(h5:a<5)(i:b<5){s:Nat}{c d:bk}(hc:((pS (l.take j)).nd a).log[s]?=de c)(hd:((pS (l.take k)).nd b).log[s]?=de d):c=d:=by
 obtain⟨S,hS⟩:=eh.run f (l:=l.take j) (λa h=>g a (jY h));obtain⟨T,m,e⟩:=eh.Mo f ((l.take k).drop j) hS (λa h=>g a (jY (List.mem_of_mem_drop h)));rw[<-FT l n]at e;exact(((hS.nd a h5).wN hc).1.le m).one e.ok ((e.nd b i).wN hd).1
end
def MK(t:vj):Int×Int×Int:=(t.node,t.bD,t.seq)
def Nx(i:Nat)(c:bk):Int×Int×Int:=((i:Int),c.bD,c.seq)
structure cJ(i:Nat)(M M':aT)(k:Nat):Prop where
 AH:∀j,j≠i->M'.nd j=M.nd j
 bad:M'.bad=M.bad
 cz:∃ls,M'.cz=M.cz++ls/\ls.length<=k
 jq:(M'.nd i).inbox=(M.nd i).inbox
 up:(M'.nd i).up=(M.nd i).up
 told:∃ts ws,M'.told=M.told++ts/\ts.map MK=ws.map (Nx i)/\(M.nd i).wait.Perm (ws++(M'.nd i).wait)
 log:∃cs,(M'.nd i).log=(M.nd i).log++cs
section
variable{i:Nat}{M M' M'':aT}{a b:Nat}
theorem cJ.refl(i:Nat)(M:aT):cJ i M M 0:=⟨λ_ _=>rfl,rfl,⟨[],by simp,ag _⟩,rfl,rfl,⟨[],[],by simp,rfl,by simp⟩,⟨[],by simp⟩⟩
theorem cJ.t(h:cJ i M M' a)(k:cJ i M' M'' b):cJ i M M'' (a+b):=by
 obtain⟨e,e1,n⟩:=h.cz;obtain⟨f,e2,o⟩:=k.cz;obtain⟨t1,c,f1,g1,g⟩:=h.told;obtain⟨t2,m,f2,g2,l⟩:=k.told;obtain⟨c1,d1⟩:=h.log;obtain⟨d,d2⟩:=k.log;refine⟨λj hj=>(k.AH j hj).t (h.AH j hj),k.bad.t h.bad,⟨e++f,by rw[e2,e1,bJ],by rw[aD];omega⟩,k.jq.t h.jq,k.up.t h.up,
  ⟨t1++t2,c++m,by rw[f2,f1,bJ],by rw[du,du,g1,g2],?_⟩,⟨c1++d,by rw[d2,d1,bJ]⟩⟩
 rw[bJ];exact g.t (l.append_left c)
theorem cJ.m(h:cJ i M M' a)(c:a<=b):cJ i M M' b:=by
 obtain⟨d,e1,e⟩:=h.cz;exact{h with cz:=⟨d,e1,aE e c⟩}
theorem cJ.send(i:Nat)(M:aT)(dst:Int)(l:dK):cJ i M (M.send i dst l) 1:=⟨λ_ _=>rfl,rfl,⟨[_],rfl,Nat.le_refl _⟩,rfl,rfl,⟨[],[],by unfold aT.send;simp,rfl,List.Perm.refl _⟩,⟨[],by unfold aT.send;simp⟩⟩
theorem cJ.set(i:Nat)(M:aT){n:dZ}(h1:n.inbox=(M.nd i).inbox)(h2:n.up=(M.nd i).up)(h3:n.wait=(M.nd i).wait)(h4:n.log=(M.nd i).log):cJ i M (M.aX i n) 0:=
 ⟨λj hj=>iB M n hj,rfl,⟨[],by unfold aT.aX;simp,Nat.le_refl _⟩,by rw[bf];exact h1,by rw[bf];exact h2,⟨[],[],by unfold aT.aX;simp,rfl,by rw[bf,h3];exact List.Perm.refl _⟩,⟨[],by rw[bf,h4];simp⟩⟩
theorem cJ.qZ(i:Nat)(M:aT){n:dZ}{k:Nat}(h1:n.inbox=(M.nd i).inbox)(h2:n.up=(M.nd i).up)(h3:n.wait=(M.nd i).wait)(h4:n.log=(M.nd i).log):cJ i M (M.aX i n) k:=(cJ.set i M h1 h2 h3 h4).m (bX k)
theorem cJ.foldl{α:Type}(f:aT->α->aT)(k:Nat)(a:∀M x,cJ i M (f M x) k):∀(l:List α) (M:aT),cJ i M (l.foldl f M) (k*l.length)
 |[],M=>by simpa using cJ.refl i M
 |x::l,M=>by
  have h1:=(a M x).t (cJ.foldl f k a l (f M x));refine h1.m ?_;rw[aZ,Nat.mul_add];omega
theorem cJ.fX(i:Nat)(M:aT)(c:bk):cJ i M (M.fX i c) 0:=by
 unfold aT.fX;dsimp only;split
 ·rename_i hc;refine⟨λj hj=>iB M _ hj,rfl,⟨[],by unfold aT.aX;simp,Nat.le_refl _⟩,?_,?_,⟨[_],[c],rfl,rfl,?_⟩,⟨[c],?_⟩⟩
  ·show((M.aX i _).nd i).inbox=_;rw[bf]
  ·show((M.aX i _).nd i).up=_;rw[bf]
  ·show List.Perm _ ([c]++((M.aX i _).nd i).wait);rw[bf];exact List.perm_cons_erase hc
  ·show((M.aX i _).nd i).log=_;rw[bf]
 ·rename_i hc;refine⟨λj hj=>iB M _ hj,rfl,⟨[],by unfold aT.aX;simp,Nat.le_refl _⟩,by rw[bf],by rw[bf],⟨[],[],by unfold aT.aX;simp,rfl,?_⟩,⟨[c],by rw[bf]⟩⟩;rw[bf];dsimp only;rw[ni hc];exact List.Perm.refl _
theorem cJ.jR(i:Nat):∀(f:Nat) (M:aT),cJ i M (M.jR f i) 0
 |0,M=>cJ.refl i M
 |f+1,M=>by
  unfold aT.jR;split
  ·exact cJ.refl i M
  ·exact(cJ.fX i M _).t (cJ.jR i f _)
theorem cJ.mH(i:Nat)(M:aT)(s:Int)(c:bk):cJ i M (M.mH i s c) 0:=(cJ.set i M (n:={M.nd i with known:=di (M.nd i).known s c}) rfl rfl rfl rfl).t (cJ.jR i 41 _)
theorem cJ.gj(i:Nat)(M:aT)(l:dK):cJ i M (M.gj i l) 1:=by
 unfold aT.gj;split
 ·exact cJ.send ..
 ·split
  ·exact cJ.send ..
  ·split
   ·exact(cJ.refl i M).m (by omega)
   ·exact cJ.qZ i M rfl rfl rfl rfl
theorem cJ.asked(i:Nat)(M:aT)(l:dK):cJ i M (M.asked i l) 1:=by
 unfold aT.asked;split
 ·exact cJ.send ..
 ·split
  ·exact cJ.send ..
  ·split
   ·exact(cJ.refl i M).m (by omega)
   ·exact cJ.qZ i M rfl rfl rfl rfl
theorem cJ.fC(i:Nat)(M:aT)(l:dK):cJ i M (M.fC i l) 1:=by
 refine cJ.m (a:=0) ?_ (by omega);unfold aT.fC;split
 ·exact cJ.refl i M
 ·split
  ·split
   ·exact cJ.qZ i M rfl rfl rfl rfl
   ·exact cJ.refl i M
  ·split
   ·dsimp only;split
    ·refine cJ.t (a:=0) (b:=0) (cJ.qZ i M ?_ ?_ ?_ ?_) (cJ.mH i _ _ _)<;>rfl
    ·exact cJ.qZ i M rfl rfl rfl rfl
   ·exact cJ.refl i M
theorem mj(n:dZ)(c:bk):(n.add c).inbox=n.inbox/\(n.add c).up=n.up/\(n.add c).wait=n.wait/\(n.add c).log=n.log:=by
 unfold dZ.add;split<;>exact⟨rfl,rfl,rfl,rfl⟩
theorem iK(n:dZ)(b:Int×Int):(n.notes b).inbox=n.inbox/\(n.notes b).up=n.up/\(n.notes b).wait=n.wait/\(n.notes b).log=n.log:=by
 unfold dZ.notes;split<;>exact⟨rfl,rfl,rfl,rfl⟩
theorem cJ.oh(i:Nat)(M:aT)(l:dK):cJ i M (M.oh i l) 1:=by
 unfold aT.oh;have h0:cJ i M (M.aX i ((M.nd i).notes l.bG)) 0:=cJ.set i M (iK _ _).1 (iK _ _).2.1 (iK _ _).2.2.1 (iK _ _).2.2.2;dsimp only;split
 ·exact h0.m (by omega)
 ·exact h0.t (cJ.send ..)
theorem cJ.handle(i:Nat)(M:aT)(l:dK):cJ i M (M.handle i l) 1:=by
 unfold aT.handle;split
 ·exact cJ.gj ..
 split
 ·exact cJ.fC ..
 split
 ·exact cJ.asked ..
 split
 ·exact cJ.fC ..
 split
 ·exact(cJ.set i M (mj _ _).1 (mj _ _).2.1 (mj _ _).2.2.1 (mj _ _).2.2.2).m (by omega)
 split
 ·exact cJ.oh ..
 split
 ·exact(cJ.mH ..).m (by omega)
 ·exact(cJ.set i M (iK _ _).1 (iK _ _).2.1 (iK _ _).2.2.1 (iK _ _).2.2.2).m (by omega)
theorem cJ.each(i:Nat)(M:aT)(ks:List Int)(l:dK):cJ i M (M.each i ks l) 5:=by
 have h1:=cJ.foldl (i:=i) (λ(M:aT) (m:Nat)=>if(m:Int)∈ks then M else M.send i (m:Int) l) 1 (λM m=>by
  split
  ·exact(cJ.refl i M).m (by omega)
  ·exact cJ.send ..) (List.range 5) M
 exact h1.m (by simp)
theorem cJ.qi(i:Nat)(M:aT)(n:dZ)(r:eW)(s:Nat):cJ i M (M.qi i n r s) 5:=by
 unfold aT.qi;split
 ·exact cJ.each ..
 ·exact(cJ.refl i M).m (by omega)
theorem cJ.ke(i:Nat)(M:aT)(r:eW):cJ i M (M.ke i r) 200:=by
 unfold aT.ke;dsimp only;split
 ·split
  ·exact(cJ.refl i M).m (by omega)
  ·exact cJ.qZ i M rfl rfl rfl rfl
 ·split
  ·refine cJ.m (cJ.t (cJ.qZ (k:=0) i M ?_ ?_ ?_ ?_) (cJ.foldl (i:=i) _ 5 (λM m=>cJ.qi i M _ _ m) (List.range 40) _)) (by simp)<;>rfl
  ·exact(cJ.each ..).m (by omega)
theorem cJ.asks(i:Nat)(M:aT):cJ i M (M.asks i) 1:=by
 unfold aT.asks;dsimp only;split
 ·refine cJ.t (a:=0) (b:=1) (cJ.qZ i M ?_ ?_ ?_ ?_) (cJ.send ..)<;>rfl
 ·exact cJ.qZ i M rfl rfl rfl rfl
theorem cJ.drop(i:Nat)(M:aT):cJ i M (M.drop i) 0:=by
 unfold aT.drop;split
 ·split
  ·exact cJ.qZ i M rfl rfl rfl rfl
  ·exact cJ.refl i M
 ·exact cJ.refl i M
theorem Cb(M:aT)(i:Nat):((M.drop i).nd i).queue=(M.nd i).queue:=by
 unfold aT.drop;split
 ·split
  ·rw[bf]
  ·rfl
 ·rfl
theorem cJ.mB(i:Nat)(M:aT):cJ i M (M.mB i) (201+(M.nd i).queue.length):=by
 unfold aT.mB;dsimp only;have hd:=cJ.drop i M;split
 ·split
  ·exact(hd.t (cJ.ke ..)).m (by omega)
  ·exact((hd.t (cJ.ke ..)).t (cJ.asks ..)).m (by omega)
 ·split
  ·refine((hd.t (cJ.foldl (i:=i) _ 1 (λM c=>cJ.send i M _ _) ((M.drop i).nd i).queue _)).t (cJ.asks ..)).m ?_;rw[Cb];omega
  ·exact(hd.t (cJ.asks ..)).m (by omega)
theorem cJ.iz(i:Nat)(M:aT)(q:Ds):cJ i M (M.iz i q) 1:=by
 unfold aT.iz;dsimp only;split
 ·exact cJ.qZ i M rfl rfl rfl rfl
 ·split
  ·refine cJ.t (a:=0) (b:=1) (cJ.qZ i M ?_ ?_ ?_ ?_) (cJ.send ..)<;>rfl
  ·refine cJ.t (a:=0) (b:=1) (cJ.qZ i M ?_ ?_ ?_ ?_) (cJ.send ..)<;>rfl
end
structure gI(i:Nat)(M M':aT)(k:Nat):Prop where
 AH:∀j,j≠i->M'.nd j=M.nd j
 bad:M'.bad=M.bad
 cz:∃ls,M'.cz=M.cz++ls/\ls.length+(M'.nd i).inbox.length<=(M.nd i).inbox.length+k
 jq:∃pre,(M.nd i).inbox=pre++(M'.nd i).inbox
 up:(M'.nd i).up=(M.nd i).up
 told:∃ts ws,M'.told=M.told++ts/\ts.map MK=ws.map (Nx i)/\(M.nd i).wait.Perm (ws++(M'.nd i).wait)
 log:∃cs,(M'.nd i).log=(M.nd i).log++cs
section
variable{i:Nat}{M M' M'':aT}{a b:Nat}
theorem cJ.Gx(h:cJ i M M' a):gI i M M' a:=by
 obtain⟨ls,e,n⟩:=h.cz;exact⟨h.AH,h.bad,⟨ls,e,by rw[h.jq];omega⟩,⟨[],by rw[h.jq];rfl⟩,h.up,h.told,h.log⟩
theorem gI.t(h:gI i M M' a)(k:gI i M' M'' b):gI i M M'' (a+b):=by
 obtain⟨e,e1,q⟩:=h.cz;obtain⟨f,e2,r⟩:=k.cz;obtain⟨m,r1⟩:=h.jq;obtain⟨n,o⟩:=k.jq;obtain⟨t1,c,f1,g1,g⟩:=h.told;obtain⟨t2,p,f2,g2,l⟩:=k.told;obtain⟨c1,d1⟩:=h.log;obtain⟨d,d2⟩:=k.log;refine⟨λj hj=>(k.AH j hj).t (h.AH j hj),k.bad.t h.bad,⟨e++f,by rw[e2,e1,bJ],by rw[aD];omega⟩,⟨m++n,by rw[r1,o,bJ]⟩,k.up.t h.up,
  ⟨t1++t2,c++p,by rw[f2,f1,bJ],by rw[du,du,g1,g2],?_⟩,⟨c1++d,by rw[d2,d1,bJ]⟩⟩
 rw[bJ];exact g.t (l.append_left c)
theorem gI.m(h:gI i M M' a)(d:a<=b):gI i M M' b:=by
 obtain⟨c,e1,e⟩:=h.cz;exact{h with cz:=⟨c,e1,by omega⟩}
theorem gI.refl(i:Nat)(M:aT):gI i M M 0:=(cJ.refl i M).Gx
theorem gI.take(i:Nat)(M:aT){l:dK}{ls:List dK}(h:(M.nd i).inbox=l::ls):gI i M ((M.aX i {M.nd i with inbox:=ls}).handle i l) 0:=by
 have h1:=cJ.handle i (M.aX i {M.nd i with inbox:=ls}) l;obtain⟨b,e1,c⟩:=h1.cz;have hi:=h1.jq;rw[bf]at hi;have a:=h1.told;have hl:=h1.log;have hu:=h1.up;rw[bf]at a hl hu;exact⟨λj hj=>(h1.AH j hj).t (iB M _ hj),h1.bad,⟨b,e1,by rw[hi,h,List.length_cons];dsimp only;omega⟩,⟨[l],by rw[hi,h];rfl⟩,hu,a,hl⟩
theorem gI.serve(i:Nat):∀(f:Nat) (M:aT),gI i M (M.serve f i) 0
 |0,M=>gI.refl i M
 |f+1,M=>by
  unfold aT.serve;split
  ·exact gI.refl i M
  ·split
   ·exact gI.refl i M
   ·rename_i l ls e;exact(gI.take i M e).t (gI.serve i f _)
theorem nB{α:Type}[DecidableEq α]:∀{l L:List α},l.Nodup->(∀x∈l,x∈L)->l.length<=L.length
 |[],L,_,_=>bX _
 |x::l,L,h,hs=>by
  have hx:=hs x (bO ..);rw[gG]at h;have h1:=nB (l:=l) (L:=L.erase x) h.2 (λy hy=>(List.mem_erase_of_ne (λe=>h.1 (by rw[<-e];exact hy))).2 (hs y (bw _ hy)));rw[qp hx]at h1;have h2:=List.length_pos_of_mem hx;rw[aZ];omega
theorem gI.step{L:List bk}{S:eN}(b:Fits (·∈L))(h:eh (·∈L) S M)(hi:i<5):gI i M (M.step i) (201+L.length):=by
 unfold aT.step;split
 ·rename_i hu;split
  ·exact(cJ.iz ..).Gx.m (by omega)
  ·rename_i hp;dsimp only;have h1:=gI.serve i (M.nd i).inbox.length M;split
   ·exact h1.m (by omega)
   ·have a:At (·∈L) S i M:=⟨h,hi,hu⟩
    have hq:=(At.serve b (M.nd i).inbox.length a).node.ja;have c:=nB hq.1 hq.2;exact(h1.t (cJ.mB ..).Gx).m (by omega)
 ·exact(gI.refl i M).m (by omega)
end
def yY(f:Nat->Nat):Nat:=f 0+f 1+f 2+f 3+f 4
theorem qt{f g:Nat->Nat}{i:Nat}(hi:i<5)(h:∀j,j≠i->g j=f j):yY g+f i=yY f+g i:=by
 unfold yY;have hc:i=0\/i=1\/i=2\/i=3\/i=4:=by omega
 rcases hc with rfl|rfl|rfl|rfl|rfl
 ·rw[h 1 (by decide),h 2 (by decide),h 3 (by decide),h 4 (by decide)];omega
 ·rw[h 0 (by decide),h 2 (by decide),h 3 (by decide),h 4 (by decide)];omega
 ·rw[h 0 (by decide),h 1 (by decide),h 3 (by decide),h 4 (by decide)];omega
 ·rw[h 0 (by decide),h 1 (by decide),h 2 (by decide),h 4 (by decide)];omega
 ·rw[h 0 (by decide),h 1 (by decide),h 2 (by decide),h 3 (by decide)];omega
theorem sY(f:Nat->Nat){i:Nat}(hi:i<5):f i<=yY f:=by
 unfold yY;have hc:i=0\/i=1\/i=2\/i=3\/i=4:=by omega
 rcases hc with rfl|rfl|rfl|rfl|rfl<;>omega
def aT.cU(M:aT):Nat:=M.cz.length+yY λi=>(M.nd i).inbox.length
def aT.answers(M:aT):Nat:=M.told.length+yY λi=>(M.nd i).wait.length
section
variable{i:Nat}{M M':aT}{k:Nat}
theorem gI.cU(h:gI i M M' k)(hi:i<5):M'.cU<=M.cU+k:=by
 obtain⟨ls,e,n⟩:=h.cz;have h1:=qt (f:=λj=>(M.nd j).inbox.length) (g:=λj=>(M'.nd j).inbox.length) hi (λj hj=>by rw[h.AH j hj]);unfold aT.cU;rw[e,aD];omega
theorem gI.answers(h:gI i M M' k)(hi:i<5):M'.answers=M.answers:=by
 obtain⟨a,ws,e,n,p⟩:=h.told;have h1:=qt (f:=λj=>(M.nd j).wait.length) (g:=λj=>(M'.nd j).wait.length) hi (λj hj=>by rw[h.AH j hj]);have h2:=dz List.length n;have h3:=p.length_eq;rw[aY,aY]at h2;rw[aD]at h3;unfold aT.answers;rw[e,aD];omega
theorem rR(M:aT)(hi:i<5)(n:dZ):(M.aX i n).cU+(M.nd i).inbox.length=M.cU+n.inbox.length:=by
 have h1:=qt (f:=λj=>(M.nd j).inbox.length) (g:=λj=>((M.aX i n).nd j).inbox.length) hi (λj hj=>by rw[iB M n hj]);rw[bf]at h1;unfold aT.cU;have h2:(M.aX i n).cz=M.cz:=rfl;rw[h2];omega
theorem rS(M:aT)(hi:i<5)(n:dZ):(M.aX i n).answers+(M.nd i).wait.length=M.answers+n.wait.length:=by
 have h1:=qt (f:=λj=>(M.nd j).wait.length) (g:=λj=>((M.aX i n).nd j).wait.length) hi (λj hj=>by rw[iB M n hj]);rw[bf]at h1;unfold aT.answers;have h2:(M.aX i n).told=M.told:=rfl;rw[h2];omega
theorem zd(M:aT)(hi:i<5){n:dZ}{k m:Nat}(h1:n.inbox.length<=(M.nd i).inbox.length+k)(h2:n.wait.length<=(M.nd i).wait.length+m):(M.aX i n).cU<=M.cU+k/\(M.aX i n).answers<=M.answers+m:=by
 have h3:=rR M hi n;have h4:=rS M hi n;exact⟨by omega,by omega⟩
theorem nY(M:aT)(l:dK)(hd:0<=l.dst/\l.dst<5):(M.jG l).cU<=M.cU+1/\(M.jG l).answers<=M.answers:=by
 unfold aT.jG;have hi:l.dst.toNat<5:=by omega
 split
 ·exact zd (m:=0) M hi (by simp) (ag _)
 ·exact⟨by omega,ag _⟩
theorem pI:∀(ls:List dK) (M:aT),(∀l∈ls,0<=l.dst/\l.dst<5)->(ls.foldl (λM l=>M.jG l) M).cU<=M.cU+ls.length/\(ls.foldl (λM l=>M.jG l) M).answers<=M.answers
 |[],M,_=>⟨ag _,ag _⟩
 |l::ls,M,h=>by
  have h1:=nY M l (h l (bO ..));have h2:=pI ls (M.jG l) (λx hx=>h x (bw _ hx));rw[dH,aZ];exact⟨by omega,aE h2.2 h1.2⟩
end
theorem yq{Q:bk->Prop}{S:eN}{M:aT}(h:eh Q S M):M.sO.cU<=M.cU/\M.sO.answers<=M.answers:=by
 have h1:=pI M.cz {M with cz:=[]} (λl hl=>(h.cz l hl).dst);unfold aT.sO;refine⟨aE h1.1 ?_,h1.2⟩;show([]:List dK).length+_+_<=_;unfold aT.cU;simp only[ot];omega
theorem mU{Q:bk->Prop}{S:eN}{M:aT}(h:eh Q S M)(k:Nat)(comes stays:Bool):(M.iC k comes stays).cU<=M.cU+1/\(M.iC k comes stays).answers<=M.answers:=by
 unfold aT.iC;split
 ·exact⟨by omega,ag _⟩
 ·rename_i a;have hlt:k%M.cz.length<M.cz.length:=fm _ (dw.2 a);have hd:=(h.cz _ (oX (d:=dK.zero) hlt)).dst;dsimp only;cases stays with
  |true=>
   cases comes with
   |true=>exact nY M _ hd
   |false=>exact⟨by simp,ag _⟩
  |false=>
   have h1:({M with cz:=M.cz.eraseIdx (k%M.cz.length)}:aT).cU+1=M.cU:=by
    unfold aT.cU;have h2:=fK hlt;show(M.cz.eraseIdx (k%M.cz.length)).length+_+1=_;rw[h2];dsimp only;omega
   cases comes with
   |true=>
    have h2:=nY {M with cz:=M.cz.eraseIdx (k%M.cz.length)} _ hd;refine⟨?_,h2.2⟩;have h3:=h2.1;simp only[pk,if_false,if_true];omega
   |false=>
    refine⟨?_,ag _⟩;simp only[pk,if_false];omega
theorem tL(M:aT){i:Nat}(hi:i<5)(o:bk×Int):(M.fQ i o).cU<=M.cU/\(M.fQ i o).answers<=M.answers+1:=by
 unfold aT.fQ;dsimp only;split
 ·split
  ·exact⟨ag _,Nat.le_succ _⟩
  ·split
   ·refine⟨ag _,?_⟩;unfold aT.answers;show(M.told++[_]).length+(yY λi=>(M.nd i).wait.length)<=_;rw[aD,jE];omega
   ·have hk:=mj (M.nd i) o.1;refine zd (k:=0) M hi (by rw[fI];exact gi (dz List.length hk.1)) ?_;dsimp only;rw[hk.2.2.1];split
    ·omega
    ·rw[aD];exact ag _
 ·exact⟨ag _,Nat.le_succ _⟩
theorem tN(M:aT){i:Nat}(hi:i<5)(n:dZ)(h1:n.inbox.length<=(M.nd i).inbox.length)(h2:n.wait.length<=(M.nd i).wait.length):(M.aX i n).cU<=M.cU/\(M.aX i n).answers<=M.answers:=by
 have h3:=rR M hi n;have h4:=rS M hi n;exact⟨by omega,by omega⟩
theorem Au{L:List bk}{S:eN}{M:aT}(b:Fits (·∈L))(h:eh (·∈L) S M){a:AF}(c:oq (·∈L) a):(M.act a).cU<=M.cU+(201+L.length)/\(M.act a).answers<=M.answers+1:=by
 have hi:a.node.toNat<5:=by have:=c.node;omega
 unfold aT.act;split
 ·have:=tL M hi (a.MA ((M.nd a.node.toNat).log.length:Int));exact⟨by omega,this.2⟩
 split
 ·have:(M.lead a.node.toNat).cU<=M.cU/\(M.lead a.node.toNat).answers<=M.answers:=by
   obtain⟨r1,he,-⟩:=xU M a.node.toNat;rw[he];split
   ·exact tN M hi _ (ag _) (ag _)
   ·exact⟨ag _,ag _⟩
  exact⟨by omega,by omega⟩
 split
 ·have h1:=gI.step b h hi;exact⟨h1.cU hi,by rw[h1.answers hi];omega⟩
 split
 ·have:=mU h a.at_.toNat dE dT;exact⟨by omega,by omega⟩
 split
 ·have:=mU h a.at_.toNat dT dT;exact⟨by omega,by omega⟩
 split
 ·have:=mU h a.at_.toNat dE dE;exact⟨by omega,by omega⟩
 split
 ·have:=yq h;exact⟨by omega,by omega⟩
 split
 ·have:(M.jT a.node.toNat a.keep.toNat).cU<=M.cU/\(M.jT a.node.toNat a.keep.toNat).answers<=M.answers:=by
   unfold aT.jT;dsimp only;split
   ·exact tN M hi _ (bX _) (bX _)
   ·exact⟨ag _,ag _⟩
  exact⟨by omega,by omega⟩
 ·have:(M.start a.node.toNat).cU<=M.cU/\(M.start a.node.toNat).answers<=M.answers:=by
   unfold aT.start;dsimp only;split
   ·exact⟨ag _,ag _⟩
   ·exact tN M hi _ (bX _) (bX _)
  exact⟨by omega,by omega⟩
theorem qQ{L:List bk}(b:Fits (·∈L)):∀(l:List AF) {S:eN} {M:aT},eh (·∈L) S M->(∀a∈l,oq (·∈L) a)->(l.foldl aT.act M).cU<=M.cU+l.length*(201+L.length)/\(l.foldl aT.act M).answers<=M.answers+l.length
 |[],S,M,_,_=>⟨by simp,by simp⟩
 |a::l,S,M,h,c=>by
  obtain⟨T,-,h1⟩:=h.act b (c a (bO ..));have h2:=Au b h (c a (bO ..));have h3:=qQ b l h1 (λx hx=>c x (bw _ hx));rw[dH,aZ,Nat.add_mul,Nat.one_mul];exact⟨by omega,by omega⟩
theorem xA:aT.zero.cU=0/\aT.zero.answers=0:=⟨rfl,rfl⟩
structure nJ(M M':aT)(a:AF):Prop where
 log:∀n:Nat,n<5->¬(a.kind=8/\a.node=(n:Int))->∃cs,(M'.nd n).log=(M.nd n).log++cs/\(cs≠[]->a.kind=3/\a.node=(n:Int))
 jT:∀n:Nat,n<5->a.kind=8->a.node=(n:Int)->(M'.nd n).up=dT/\(M'.nd n).log=[]
 bad:∀n:Nat,n<5->M'.bad.getD n 0=M.bad.getD n 0\/(a.kind=1/\a.node=(n:Int)/\M'.bad.getD n 0=M.bad.getD n 0+1)
 told:∃ts,M'.told=M.told++ts/\(ts≠[]->a.kind=1\/a.kind=3)
 len:M'.bad.length=M.bad.length
 JT:a.kind=4\/a.kind=5->M'.cz.length=M.cz.length-1
 Oy:a.kind=7->M'.cz.length=0
 Oz:a.kind=3->M.cz.length<=M'.cz.length
 OC:a.kind≠3->a.kind≠4->a.kind≠5->a.kind≠7->M'.cz.length=M.cz.length
structure Comes(M M':aT):Prop where
 log:∀n,(M'.nd n).log=(M.nd n).log
 bad:M'.bad=M.bad
 told:M'.told=M.told
 cz:M'.cz=M.cz
theorem Comes.refl(M:aT):Comes M M:=⟨λ_=>rfl,rfl,rfl,rfl⟩
theorem Comes.t{M M' a:aT}(h:Comes M M')(k:Comes M' a):Comes M a:=⟨λn=>(k.log n).t (h.log n),k.bad.t h.bad,k.told.t h.told,k.cz.t h.cz⟩
theorem tf(M:aT)(i:Nat){n:dZ}(h:n.log=(M.nd i).log)(j:Nat):((M.aX i n).nd j).log=(M.nd j).log:=by
 by_cases e:j=i
 ·rw[e,bf,h]
 ·rw[iB M n e]
theorem yh(M:aT)(l:dK):Comes M (M.jG l):=by
 unfold aT.jG;split
 ·exact⟨λn=>tf M _ (by rfl) n,rfl,rfl,rfl⟩
 ·exact Comes.refl M
theorem Ah:∀(ls:List dK) (M:aT),Comes M (ls.foldl (λM l=>M.jG l) M)
 |[],M=>Comes.refl M
 |l::ls,M=>(yh M l).t (Ah ls _)
theorem nJ.of{M M':aT}{a:AF}(d:a.kind≠8)(h:∀n:Nat,n<5->(M'.nd n).log=(M.nd n).log)(hb:M'.bad=M.bad)(f:M'.told=M.told)(h4:a.kind=4\/a.kind=5->M'.cz.length=M.cz.length-1)(c:a.kind=7->M'.cz.length=0)(h3:a.kind=3->M.cz.length<=M'.cz.length)(h1:a.kind≠3->a.kind≠4->a.kind≠5->a.kind≠7->M'.cz.length=M.cz.length):nJ M M' a:=
 ⟨λn b _=>⟨[],by rw[h n b];simp,λe=>absurd rfl e⟩,λn b e=>absurd e d,λn b=>.inl (by rw[hb]),⟨[],by rw[f];simp,λe=>absurd rfl e⟩,by rw[hb],h4,c,h3,h1⟩
theorem tZ(M:aT)(k:Nat)(comes stays:Bool):(∀n,((M.iC k comes stays).nd n).log=(M.nd n).log)/\(M.iC k comes stays).bad=M.bad/\(M.iC k comes stays).told=M.told/\(M.iC k comes stays).cz.length=if stays then M.cz.length else M.cz.length-1:=by
 unfold aT.iC;split
 ·rename_i e;rw[e];exact⟨λ_=>rfl,rfl,rfl,by cases stays<;>rfl⟩
 ·rename_i a;have hlt:k%M.cz.length<M.cz.length:=fm _ (dw.2 a);dsimp only;cases stays with
  |true=>
   cases comes with
   |true=>
    have h:=yh M (M.cz.getD (k%M.cz.length) dK.zero);exact⟨h.log,h.bad,h.told,by rw[ar rfl,ar rfl,ar rfl,h.cz]⟩
   |false=>exact⟨λ_=>rfl,rfl,rfl,rfl⟩
  |false=>
   cases comes with
   |true=>
    have h:=yh {M with cz:=M.cz.eraseIdx (k%M.cz.length)} (M.cz.getD (k%M.cz.length) dK.zero);refine⟨h.log,h.bad,h.told,?_⟩;simp only[pk,if_false,if_true];rw[h.cz];exact fK hlt
   |false=>
    refine⟨λ_=>rfl,rfl,rfl,?_⟩;simp only[pk,if_false];exact fK hlt
theorem Aa{Q:bk->Prop}{S:eN}{i:Nat}{n:dZ}(h:fE Q S i n)(hu:n.up=dT):n.log=[]:=by
 rw[h.down hu];rfl
theorem Kj(L:List Int)(i:Nat)(x:Int)(hi:i<L.length)(n:Nat):(L.set i x).getD n 0=if n=i then x else L.getD n 0:=by
 rw[au,au,gB];by_cases e:i=n
 ·rw[ar e,ar e.symm,ar hi];rfl
 ·rw[ak e,ak (λh=>e h.symm)]
theorem Fk{L:List bk}{S:eN}{M:aT}(m:Fits (·∈L))(h:eh (·∈L) S M){a:AF}(j:oq (·∈L) a)(h5:M.bad.length=5):nJ M (M.act a) a:=by
 have hi:a.node.toNat<5:=by have:=j.node;omega
 have r:=j.node;have q:=j.kind;unfold aT.act;split
 ·rename_i e;unfold aT.fQ;dsimp only;split
  ·split
   ·refine⟨λn b _=>⟨[],by simp,λe=>absurd rfl e⟩,λn b k=>by omega,λn b=>?_,⟨[],by simp,λe=>absurd rfl e⟩,by simp,λh=>by omega,λh=>by omega,λh=>by omega,λ_ _ _ _=>rfl⟩;dsimp only;rw[Kj _ _ _ (by omega)];split
    ·rename_i e2;exact .inr ⟨e,by omega,by rw[e2]⟩
    ·exact .inl rfl
   ·split
    ·exact⟨λn b _=>⟨[],by simp,λe=>absurd rfl e⟩,λn b k=>by omega,λn b=>.inl rfl,⟨[_],rfl,λ_=>.inl e⟩,rfl,λh=>by omega,λh=>by omega,λh=>by omega,λ_ _ _ _=>rfl⟩
    ·exact nJ.of (by omega) (λn b=>tf M _ (by exact(mj _ _).2.2.2) n) rfl rfl (λh=>by omega) (λh=>by omega) (λh=>by omega) (λ_ _ _ _=>rfl)
  ·exact nJ.of (by omega) (λn b=>rfl) rfl rfl (λh=>by omega) (λh=>by omega) (λh=>by omega) (λ_ _ _ _=>rfl)
 split
 ·rename_i e;obtain⟨r1,he,-⟩:=xU M a.node.toNat;rw[he];split
  ·exact nJ.of (by omega) (λn b=>tf M _ (by rfl) n) rfl rfl (λh=>by omega) (λh=>by omega) (λh=>by omega) (λ_ _ _ _=>rfl)
  ·exact nJ.of (by omega) (λn b=>rfl) rfl rfl (λh=>by omega) (λh=>by omega) (λh=>by omega) (λ_ _ _ _=>rfl)
 split
 ·rename_i e;have h1:=gI.step m h hi;obtain⟨p,ws,t1,-,-⟩:=h1.told;obtain⟨ls,o,-⟩:=h1.cz;obtain⟨cs,c1⟩:=h1.log;refine⟨λn b _=>?_,λn b k=>by omega,λn b=>.inl (by rw[h1.bad]),⟨p,t1,λ_=>.inr e⟩,by rw[h1.bad],λh=>by omega,λh=>by omega,λ_=>by rw[o,aD];omega,λh=>absurd e h⟩;by_cases e2:n=a.node.toNat
  ·rw[e2];exact⟨cs,c1,λ_=>⟨e,by omega⟩⟩
  ·rw[h1.AH n e2];exact⟨[],by simp,λe=>absurd rfl e⟩
 split
 ·rename_i e;obtain⟨c,d,f,g⟩:=tZ M a.at_.toNat dE dT;exact nJ.of (by omega) (λn b=>c n) d f (λ_=>g) (λh=>by omega) (λh=>by omega) (λ_ h _ _=>absurd e h)
 split
 ·rename_i e;obtain⟨c,d,f,g⟩:=tZ M a.at_.toNat dT dT;exact nJ.of (by omega) (λn b=>c n) d f (λ_=>g) (λh=>by omega) (λh=>by omega) (λ_ _ h _=>absurd e h)
 split
 ·rename_i e;obtain⟨c,d,f,g⟩:=tZ M a.at_.toNat dE dE;exact nJ.of (by omega) (λn b=>c n) d f (λh=>by omega) (λh=>by omega) (λh=>by omega) (λ_ _ _ _=>g)
 split
 ·rename_i e;have h1:=Ah M.cz {M with cz:=[]};exact nJ.of (by omega) (λn b=>h1.log n) h1.bad h1.told (λh=>by omega) (λ_=>by unfold aT.sO;rw[h1.cz];rfl) (λh=>by omega) (λ_ _ _ h=>absurd e h)
 split
 ·rename_i e;unfold aT.jT;dsimp only;by_cases hu:(M.nd a.node.toNat).up=dE
  ·rw[ar hu];refine⟨λn b l=>⟨[],?_,λe=>absurd rfl e⟩,λn b _ e2=>?_,λn b=>.inl rfl,⟨[],by unfold aT.aX;simp,λe=>absurd rfl e⟩,rfl,λh=>by omega,λh=>by omega,λh=>by omega,λ_ _ _ _=>rfl⟩
   ·rw[iB M _ (λe3=>l ⟨e,by omega⟩)];simp
   ·rw[show n=a.node.toNat by omega,bf];exact⟨rfl,rfl⟩
  ·rw[ak hu];refine⟨λn b l=>⟨[],by simp,λe=>absurd rfl e⟩,λn b _ e2=>?_,λn b=>.inl rfl,⟨[],by simp,λe=>absurd rfl e⟩,rfl,λh=>by omega,λh=>by omega,λh=>by omega,λ_ _ _ _=>rfl⟩;have i:(M.nd a.node.toNat).up=dT:=by cases hx:(M.nd a.node.toNat).up with
    |true=>exact absurd hx hu
    |false=>rfl
   rw[show n=a.node.toNat by omega];exact⟨i,Aa (h.nd _ hi) i⟩
 ·unfold aT.start;dsimp only;by_cases hu:(M.nd a.node.toNat).up=dE
  ·rw[ar hu];exact nJ.of (by omega) (λn b=>rfl) rfl rfl (λh=>by omega) (λh=>by omega) (λh=>by omega) (λ_ _ _ _=>rfl)
  ·rw[ak hu];have i:(M.nd a.node.toNat).up=dT:=by cases hx:(M.nd a.node.toNat).up with
    |true=>exact absurd hx hu
    |false=>rfl
   exact nJ.of (by omega) (λn b=>tf M _ (by rw[Aa (h.nd _ hi) i];rfl) n) rfl rfl (λh=>by omega) (λh=>by omega) (λh=>by omega) (λ_ _ _ _=>rfl)
end Go.Proofs.YtcdmenphjilnnaaGreatDoor
