/-
  TopGrowsAny holds: for every input the law returns true, and its input reads as it did.
-/
import Derived.Test.YtmeibmoklnihmaaGreatDoorM30
import Derived.DeepKeys
import Derived.Stop.LaidErr
import Derived.Test.YtmeibmoklnihmaaGreatDoorTie
import Derived.Test.YtmeibmoklnihmaaGreatDoorCards
set_option linter.unusedVariables false
set_option linter.unusedSimpArgs false
set_option maxRecDepth 100000
set_option maxHeartbeats 8000000
open Go.Proofs.Tryz
open Go renaming World->ax,Value->bd,Calls->bl
open Go.RowKit renaming Below->dd
open Option renaming some->de,none->dl
open Bool renaming true->dE,false->dT
open Go.Proofs.Tryz renaming prog->ed
namespace Go.Proofs.YtmeibmoklnihmaaGreatDoor
open Go.RowKit Go.Con
set_option maxHeartbeats 400000
theorem rdK_at{w w':ax}{va:Option Addr}{n c:Nat}{l:List mE}(h:lm w (.slice va n c) l)(hb:dd w.heap.size w w'){k:Nat}(hk:k<n):∃eb eoff,va=de ⟨eb,eoff,dl⟩/\eb<w.heap.size/\w'.cell? ⟨eb,eoff+k*5,dl⟩=de (.int .i64 (l.getD k mE.zero).k)/\w'.cell? ⟨eb,eoff+k*5+1,dl⟩=de (.int .i64 (l.getD k mE.zero).n):=by
 obtain⟨a',c',h0,h1,h2,h3⟩:=h.1
 injection h0 with e1 e2 e3
 subst e1 e3
 have hne:l≠[]:=λe=>by rw[e]at e2;simp at e2;omega
 obtain⟨b,off,rfl,hbl,hc⟩:=h3 hne
 have hk':k<l.length:=by omega
 refine⟨b,off,rfl,hbl,?_,?_⟩
 ·have h:=hc k hk' 0 (by omega)
  exact(hb.cell (p:=⟨b,off+k*5,dl⟩) hbl).t (by rw[<-show off+(5*k+0)=off+k*5 by omega];exact h)
 ·have h:=hc k hk' 1 (by omega)
  exact(hb.cell (p:=⟨b,off+k*5+1,dl⟩) hbl).t (by rw[<-show off+(5*k+1)=off+k*5+1 by omega];exact h)
theorem runX_grows{l:List mE}(h:oP l){i:Nat}(hi:i<l.length):nJ (ow (l.take i)) (ow (l.take (i+1))) (Mj (l.getD i mE.zero)):=by
 have hS:=FV h.1 (λx hx=>yl (h.2 x hx)) i
 obtain⟨S,hM⟩:=hS.inv
 have hx:l.getD i mE.zero∈l:=by rw[au,aC hi];exact dW _
 rw[DR hi]
 exact Fk (pY l) hM (Dk (yl (h.2 _ hx)) hx) hS.Oc
structure GrN(M M':aT)(k n:Int)(q:Nat):Prop where
 jT:k=8->n=(q:Int)->(M'.nd q).up=dT/\(M'.nd q).log.length=0
 short:¬(k=8/\n=(q:Int))->(M.nd q).log.length<=(M'.nd q).log.length
 long:¬(k=8/\n=(q:Int))->(M.nd q).log.length<(M'.nd q).log.length->k=3/\n=(q:Int)
 alike:¬(k=8/\n=(q:Int))->Alike (M.nd q).log (M'.nd q).log
 bad:M'.bad.getD q 0=M.bad.getD q 0\/(k=1/\n=(q:Int)/\M'.bad.getD q 0=M.bad.getD q 0+1)
theorem nJ.at{M M':aT}{a:AF}(h:nJ M M' a){q:Nat}(hq:q<5):GrN M M' a.kind a.node q:=by
 refine⟨λe1 e2=>?_,λhc=>?_,λhc hl=>?_,λhc=>?_,h.bad q hq⟩
 ·obtain⟨h1,h2⟩:=h.jT q hq e1 e2
  exact⟨h1,by rw[h2];rfl⟩
 ·obtain⟨cs,h1,-⟩:=h.log q hq hc
  rw[h1,aD];omega
 ·obtain⟨cs,h1,h2⟩:=h.log q hq hc
  refine h2 λe=>?_
  rw[h1,e,List.append_nil]at hl
  omega
 ·obtain⟨cs,h1,-⟩:=h.log q hq hc
  intro i hi hj
  rw[h1,au,au,bU hi]
theorem nJ.ts{M M':aT}{a:AF}(h:nJ M M' a):M.told.length<=M'.told.length/\(M.told.length<M'.told.length->a.kind=1\/a.kind=3)/\∀j,j<M.told.length->M'.told.getD j Mq=M.told.getD j Mq:=by
 obtain⟨ts,h1,h2⟩:=h.told
 refine⟨by rw[h1,aD];omega,λhl=>h2 λe=>?_,λj hj=>?_⟩
 ·rw[h1,e,List.append_nil]at hl;omega
 ·rw[h1,au,au,bU hj]
structure GrI(W:ax)(ab:Nat)(M:aT)(w:ax):Prop where
 below:dd W.heap.size W w
 AI:W.heap.size<=ab
 o:∃B wq ov,kU B wq (.agg ov) M/\(∀q,B<=q->q<wq.heap.size->w.heap[q]?=wq.heap[q]?)/\wq.heap.size<=w.heap.size/\(ab<B\/wq.heap.size<=ab)/\w.heap[ab]?=de (.cells ov 29 (0,0))
theorem GrI.stay{W w w':ax}{ab:Nat}{M:aT}(h:GrI W ab M w)(hb:dd w.heap.size w w'):GrI W ab M w':=by
 obtain⟨B,wq,ov,h1,h2,h3,h4,h5⟩:=h.o
 exact⟨h.below.t (hb.m h.below.size),h.AI,B,wq,ov,h1,λq hq hl=>(hb.block q (ai hl h3)).t (h2 q hq hl),aE h3 hb.size,h4,(hb.block ab (hF h5)).t h5⟩
theorem GrI.lit{W w:ax}{ab:Nat}{M:aT}(h:GrI W ab M w):∃f u0 u1 u2 u3 u4 b off c b0 b1 b2 b3 b4 ta tn tc,w.heap[ab]?=de (.cells #[.int .i64 f,.bool u0,.bool u1,.bool u2,.bool u3,.bool u4,.slice (de ⟨b,off,dl⟩) 5 c,.int .i64 b0,.int .i64 b1,.int .i64 b2,.int .i64 b3,.int .i64 b4,.slice ta tn tc] 29 (0,0))/\yC w M f u0 u1 u2 u3 u4 b off c b0 b1 b2 b3 b4 ta tn tc:=by
 obtain⟨B,wq,ov,h1,h2,h3,h4,h5⟩:=h.o
 obtain⟨f,u0,u1,u2,u3,u4,b,off,c,b0,b1,b2,b3,b4,ta,tn,tc,e,hl⟩:=(h1.heap h2 h3).lit
 injection e with e
 subst e
 exact⟨f,u0,u1,u2,u3,u4,b,off,c,b0,b1,b2,b3,b4,ta,tn,tc,h5,hl⟩
theorem yC.ups{w:ax}{M:aT}{f:Int}{u0 u1 u2 u3 u4:Bool}{b off c:Nat}{b0 b1 b2 b3 b4:Int}{ta:Option Addr}{tn tc ab:Nat}(h:yC w M f u0 u1 u2 u3 u4 b off c b0 b1 b2 b3 b4 ta tn tc)
  (hb:w.heap[ab]?=de (.cells #[.int .i64 f,.bool u0,.bool u1,.bool u2,.bool u3,.bool u4,.slice (de ⟨b,off,dl⟩) 5 c,.int .i64 b0,.int .i64 b1,.int .i64 b2,.int .i64 b3,.int .i64 b4,.slice ta tn tc] 29 (0,0))){q:Nat}(hq:q<5):
  w.cell? ⟨ab,1+q,dl⟩=de (.bool (M.nd q).up)/\w.cell? ⟨ab,7+q,dl⟩=de (.int .i64 (M.bad.getD q 0)):=by
 obtain⟨p0,p1,p2,p3,p4⟩:=h.up
 obtain⟨c0,c1,c2,c3,c4⟩:=h.bad
 have hc:q=0\/q=1\/q=2\/q=3\/q=4:=by omega
 rcases hc with rfl|rfl|rfl|rfl|rfl
 ·exact⟨by rw[<-p0];exact ej hb 1 rfl,by rw[<-c0];exact ej hb 7 rfl⟩
 ·exact⟨by rw[<-p1];exact ej hb 2 rfl,by rw[<-c1];exact ej hb 8 rfl⟩
 ·exact⟨by rw[<-p2];exact ej hb 3 rfl,by rw[<-c2];exact ej hb 9 rfl⟩
 ·exact⟨by rw[<-p3];exact ej hb 4 rfl,by rw[<-c3];exact ej hb 10 rfl⟩
 ·exact⟨by rw[<-p4];exact ej hb 5 rfl,by rw[<-c4];exact ej hb 11 rfl⟩
theorem putOut{w:ax}{b:Nat}{c d:Array bd}{t:TypeId}(h:w.heap[b]?=de (.cells c t (0,0)))(hs:d.size=c.size):(w.setCells b 0 d.toList).heap[b]?=de (.cells d t (0,0)):=by
 obtain⟨c',h1,h2,h3⟩:=eC b t (0,0) d.toList 0 c w h (by simp;omega)
 rw[h1]
 have e:c'=d:=by
  apply Array.ext_getElem?
  intro j
  rw[h3 j]
  simp
  intro hj
  rw[Array.getElem?_eq_none (by omega),Array.getElem?_eq_none (by omega)]
 rw[e]
theorem GrI.move{W w0 w4 w8 w9:ax}{ab:Nat}{M:aT}{c d:Array bd}(h1:dd W.heap.size W w8)(h2:W.heap.size<=ab)(h3:ab<w0.heap.size)(h4:kU w0.heap.size w4 (.agg d) M)(h5:dd w4.heap.size w4 w8)(h6:w0.heap.size<=w4.heap.size)(h7:w8.heap[ab]?=de (.cells c 29 (0,0)))(h8:d.size=c.size)(h9:w8.setCells ab 0 d.toList=w9):GrI W ab M w9:=by
 subst h9
 refine⟨bp h2 _ _ _ h1,h2,w0.heap.size,w4,d,h4,λq hq hl=>?_,?_,.inl h3,putOut h7 h8⟩
 ·rw[bE (by omega)]
  exact h5.block q hl
 ·rw[mQ]
  exact h5.size
theorem outOne(f b0 b1 b2 b3 b4:Int)(u0 u1 u2 u3 u4:Bool)(a c:Option Addr)(n k m j:Nat):(#[.int .i64 f,.bool u0,.bool u1,.bool u2,.bool u3,.bool u4,.slice a n k,.int .i64 b0,.int .i64 b1,.int .i64 b2,.int .i64 b3,.int .i64 b4,.slice c m j]:Array bd).all (·.oneCell')=dE:=by
 simp
 exact⟨rfl,rfl,rfl,rfl,rfl,rfl,rfl,rfl,rfl,rfl,rfl,rfl,rfl⟩
theorem rdT_at{w w':ax}{va:Option Addr}{n c:Nat}{l:List vj}(h:gN 5 ee Mq w (.slice va n c) l)(hb:dd w.heap.size w w'){k:Nat}(hk:k<n):∃eb eoff,va=de ⟨eb,eoff,dl⟩/\∀q,q<5->w'.cell? ⟨eb,eoff+k*5+q,dl⟩=(ee (l.getD k Mq))[q]?:=by
 obtain⟨eb,eoff,rfl,hel,hec⟩:=h.cells.2.2 k hk
 refine⟨eb,eoff,rfl,λq hq=>?_⟩
 rw[<-hec q hq,eJ,eI]
 exact aw (w:=w) (hb.block eb hel)
theorem cellsT{w:ax}{b o:Nat}{t:vj}(h:∀j,j<5->w.cell? ⟨b,o+j,dl⟩=(ee t)[j]?):w.cell? ⟨b,o,dl⟩=de (.int .i64 t.node)/\w.cell? ⟨b,o+1,dl⟩=de (.int .i64 t.bD)/\w.cell? ⟨b,o+2,dl⟩=de (.int .i64 t.seq)/\w.cell? ⟨b,o+3,dl⟩=de (.int .i64 t.yI.1)/\w.cell? ⟨b,o+4,dl⟩=de (.int .i64 t.yI.2):=
 ⟨h 0 (by decide),h 1 (by decide),h 2 (by decide),h 3 (by decide),h 4 (by decide)⟩
theorem eqInt1{t:TypeId}(hu:prog.underlying t=de (.int .i64))(d:Nat)(x:Int)(w:ax):(Op.equalIn (d+1) t (.int .i64 x) (.int .i64 x)).run ed w= .ok dE w:=by
 simp[Op.equalIn,dt hu]
theorem neAns(d:Nat)(t3 t4:Int)(w:ax):(Op.equalIn (d+2) 46 (.agg #[.int .i64 t3,.int .i64 t4]) (.agg #[.int .i64 t3,.int .i64 t4])).run ed w= .ok dE w:=by
 rw[run_equalIn_struct w (d+1) _ _ _ Tryz.underlying46 (by kernel_rfl)]
 simp[Program.fieldsOf,Tryz.underlying46,Op.eqFields,part,isAgg,dt Tryz.underlying3,dt Tryz.underlying30,eqInt1 Tryz.underlying3,eqInt1 Tryz.underlying30]
theorem neTld(t0 t1 t2 t3 t4:Int)(w:ax):(binOp BinOp.neq 48 (.agg #[.int .i64 t0,.int .i64 t1,.int .i64 t2,.int .i64 t3,.int .i64 t4]) (.agg #[.int .i64 t0,.int .i64 t1,.int .i64 t2,.int .i64 t3,.int .i64 t4])).run ed w= .ok (.bool dT) w:=by
 have h0:(Op.equal 48 (.agg #[.int .i64 t0,.int .i64 t1,.int .i64 t2,.int .i64 t3,.int .i64 t4]) (.agg #[.int .i64 t0,.int .i64 t1,.int .i64 t2,.int .i64 t3,.int .i64 t4])).run ed w= .ok dE w:=by
  show(Op.equalIn (9997+2+1) _ _ _).run ed w=_
  rw[run_equalIn_struct w (9997+2) _ _ _ Tryz.underlying48 (by kernel_rfl)]
  have h:=λx=>eqInt1 Tryz.underlying3 (9997+1) x w
  have h2:=neAns 9997 t3 t4 w
  simp[Program.fieldsOf,Tryz.underlying48,Op.eqFields,part,isAgg,dt Tryz.underlying3,dt Tryz.underlying46,h,h2]
 simp[binOp,go_sem,h0]
set_option maxHeartbeats 8000000
theorem walk_TopGrowsAny(v:bd)(l:List mE)(W:ax)(hv:lm W v l)(hk:Kn W)(hN:Nd W):
  bl ed 5 #[v] W λe W'=>e= .returned (.bool dE)/\dd W.heap.size W W':=by
 obtain⟨ea,ec,rfl,hle,hcm,-⟩:=id hv.1
 obtain⟨n,hn⟩:=aK l.length
 rw[<-hn]at hv hle|-
 have hcm2:ec<=9223372036854775807:=hcm
 have HV:=ae hv
 have HK:=ae hk
 have HD:=ae hN
 have HN:=ae hn
 have HBG:=ae (EZ W hk hN)
 clear hv hk hN hn hcm
 go_enter func5,ntmps5
 go_upto_region 3 with(go_at_call 19;refine HBG.o.m ?_;rintro e w1 ⟨rfl,hb1⟩;have B1:=ae hb1;clear hb1)
 by_cases hs:oP l
 ·have HS:=ae hs
  have HR:=ae (Cq _ l w1 (HV.o.stay B1.o) hs (HK.o.stay B1.o) (HD.o.stay B1.o))
  clear hs
  go_upto_region 4 with(go_at_call 20;refine HR.o.m ?_;rintro e w2 ⟨ov,rfl,hout,hb2⟩;have B2:=ae hb2;obtain⟨f,x0,x1,x2,x3,x4,lb,lo,lc,u0,u1,u2,u3,u4,ta,tn,tc,rfl,-⟩:=hout.lit;clear hout hb2)
  generalize hW:World.alloc _ _=w3
  have B3:=ae (show dd W.heap.size W w3 by rw[<-hW];exact B1.o.t ((B2.o.t (((aj _ _).alloc (ag _) _).m B2.o.size)).m B1.o.size))
  clear hW
  have HR0:=ae (LA (.slice dl 0 0) [] w3 ⟨⟨dl,0,rfl,ag _,bX _,λh=>absurd rfl h⟩,λx hx=>by cases hx⟩ ⟨bX _,λx hx=>by cases hx⟩ (HK.o.stay B3.o) (HD.o.stay B3.o))
  go_upto_region 7 with(go_at_call 22;refine HR0.o.m ?_;rintro e w4 ⟨ov,rfl,hout,hb4⟩;have B4:=ae hb4;have HOUT:=ae hout;obtain⟨f,x0,x1,x2,x3,x4,lb,lo,lc,u0,u1,u2,u3,u4,ta,tn,tc,rfl,-⟩:=hout.lit;clear hout hb4)
  generalize hW:World.alloc _ _=w5
  obtain⟨ab,hab⟩:=aK w4.heap.size
  have B34:=ae (B3.o.t (B4.o.m B3.o.size))
  have R1:Hid (GrI W ab (ow (l.take 0)) w5):=ae ⟨B34.o.t ((gv hW).m B34.o.size),by rw[hab];exact B34.o.size,w3.heap.size,w4,_,HOUT.o,λq _ hl=>(gv hW).block q hl,(gv hW).size,.inr (by rw[hab];exact ag _),by rw[hab,<-hW];exact aL _ _⟩
  rw[<-hab]
  clear hW hab HOUT
  go_cut [7]from 12 to 26 (λs wc=>s= .int .i64 0/\w5=wc)
  case first=>
   go_wp2_with fail
   go_meet
   case rel=>exact⟨rfl,rfl⟩
  case rest=>
  obtain⟨rfl,rfl⟩:=hcut
  go_upto_region 8 with fail
  go_loopg [7] n (λg s wr=>∃i:Nat,i+g=n/\s= .int .i64 i/\Hid (GrI W ab (ow (l.take i)) wr))
  case atStart=>exact⟨0,by omega,rfl,R1⟩
  case round=>
   clear R1
   obtain⟨i,hig,rfl,HI⟩:=hrel
   obtain⟨w0,rfl⟩:=aK wr
   have B0:=ae HI.o.below
   by_cases h1:i<n
   ·have d1:decide ((i:Int)<n)=dE:=by rw[ap];omega
    have d1n:decide (i<n)=dE:=by rw[ap];omega
    obtain⟨g1,hg1⟩:∃g,gk=g+1:=⟨gk-1,by omega⟩
    have HG1:=ae hg1
    have HIG:=ae hig
    have hi0:(0:Int)<=(i:Int):=by omega
    have hkc:i+1<=ec:=by omega
    have hkcI:(i:Int)+1<=(ec:Int):=by omega
    have HRN:=ae (LA (.slice ea (i+1) (i+1)) (l.take (i+1)) w0 ((HV.o.front (i+1) (by omega)).stay B0.o) (HS.o.take (i+1)) (HK.o.stay B0.o) (HD.o.stay B0.o))
    go_upto_region 11 with(go_at_call 22;refine HRN.o.m ?_;rintro e w4 ⟨ov,rfl,hout,hb4⟩;have B4:=ae hb4;have HOUT:=ae hout;obtain⟨fb,ub0,ub1,ub2,ub3,ub4,lbb,lob,lcb,bb0,bb1,bb2,bb3,bb4,tab,tnb,tcb,rfl,hlit⟩:=hout.lit;have HOL:=ae hlit;clear hout hb4 hlit)
    generalize hW:World.alloc _ _=w6
    obtain⟨cb,hcb⟩:=aK w4.heap.size
    have hlt:ab<w0.heap.size:=by obtain⟨B,wq,ov,-,-,-,-,h⟩:=HI.o.o;exact hF h
    have HLT:=ae hlt
    have HA:=ae ((HI.o.stay B4.o).stay (gv hW))
    have B04:=ae (B0.o.t (B4.o.m B0.o.size))
    have HCB:=ae (eZ hW hcb)
    have LTC:=ae (hF HCB.o)
    have HOB:=ae HOUT.o
    have HOLD:=ae HI.o.AI
    have HSZ:=ae B4.o.size
    have HBE:=ae (gv hW)
    rw[<-hcb]
    clear hW hcb hlt HOUT hig hg1
    have GR:=ae (runX_grows HS.o (show i<l.length by rw[<-HN.o];exact h1))
    obtain⟨eb,eo,hea,heb,a0,a1⟩:=rdK_at HV.o (aj _ _) h1
    subst hea
    obtain⟨xk,hxk⟩:=aK (l.getD i mE.zero).k
    obtain⟨xn,hxn⟩:=aK (l.getD i mE.zero).n
    rw[<-hxk]at a0
    rw[<-hxn]at a1
    have A0:=ae a0
    have A1:=ae a1
    have HEB:=ae heb
    have HGN:=ae (λq (hq:q<5)=>(show GrN (ow (l.take i)) (ow (l.take (i+1))) xk xn q by rw[hxk,hxn];exact GR.o.at hq))
    have HGT:=ae (show _/\(_->xk=1\/xk=3)/\_ by rw[hxk];exact GR.o.ts)
    have BW6:=ae HA.o.below
    have HI0:=ae hi0
    clear hxk hxn a0 a1 heb
    go_upto_region 13 with fail
    go_cut [10]from 27 to 47 (λs wc=>s= .int .i64 0/\w6=wc)
    case first=>
     go_wp2_with fail
     go_meet
     case rel=>exact⟨rfl,rfl⟩
    case rest=>
    obtain⟨rfl,rfl⟩:=hcut
    go_upto_region 14 with fail
    have R2:=ae (aj w6.heap.size w6)
    obtain⟨gk1,hgk1⟩:=aK gk
    rw[<-hgk1]at*
    go_loopg [10] 5 (λg s wr=>∃q:Nat,q+g=5/\s= .int .i64 q/\Hid (dd w6.heap.size w6 wr))
    case atStart=>exact⟨0,by omega,rfl,R2⟩
    case round=>
     clear R2
     obtain⟨q,hqg,rfl,HJ⟩:=hrel
     obtain⟨w7,rfl⟩:=aK wr
     by_cases h2:q<5
     ·have hq5:(q:Int)<5:=by omega
      obtain⟨g2,hg2⟩:∃g,gk=g+1:=⟨gk-1,by omega⟩
      have HG2:=ae hg2
      have HQG:=ae hqg
      have BW7:=ae (BW6.o.t (HJ.o.m BW6.o.size))
      have a0:=cZ BW7.o HEB.o A0.o
      have a1:=cZ BW7.o HEB.o A1.o
      have GN:=ae (HGN.o q h2)
      obtain⟨fa,ua0,ua1,ua2,ua3,ua4,lba,loa,lca,ba0,ba1,ba2,ba3,ba4,taa,tna,tca,hA,hAL⟩:=(HA.o.stay HJ.o).lit
      have hB:=(HJ.o.block cb LTC.o).t HCB.o
      have hBL:=HOL.o.stay (HBE.o.t (HJ.o.m HBE.o.size))
      have x6:=ej hA 6 rfl
      have y6:=ej hB 6 rfl
      obtain⟨xu,xb⟩:=hAL.ups hA h2
      obtain⟨yu,yb⟩:=hBL.ups hB h2
      obtain⟨pa,na,ka,xl,hra⟩:=hAL.log q h2
      obtain⟨pb,nb,kb,yl,hrb⟩:=hBL.log q h2
      have hna:((ow (l.take i)).nd q).log.length=na:=by obtain⟨a',c',h0,-⟩:=id hra;injection h0 with e1 e2 e3;exact e2.symm
      have hnb:((ow (l.take (i+1))).nd q).log.length=nb:=by obtain⟨a',c',h0,-⟩:=id hrb;injection h0 with e1 e2 e3;exact e2.symm
      have hcma:=hAL.cm
      have hcmb:=hBL.cm
      have hc5a:=hAL.c5
      have hc5b:=hBL.c5
      have HRA:=ae hra
      have HRB:=ae hrb
      obtain⟨va,hva⟩:=aK ((ow (l.take i)).nd q).up
      obtain⟨vb,hvb⟩:=aK ((ow (l.take (i+1))).nd q).up
      obtain⟨ga,hga⟩:=aK ((ow (l.take i)).bad.getD q 0)
      obtain⟨gb,hgb⟩:=aK ((ow (l.take (i+1))).bad.getD q 0)
      rw[<-hva]at xu
      rw[<-hvb]at yu
      rw[<-hga]at xb
      rw[<-hgb]at yb
      have HVB:=ae hvb
      have HGA:=ae hga
      have HGB:=ae hgb
      have HNA:=ae hna
      have HNB:=ae hnb
      have hnl:na<=9223372036854775807/\nb<=9223372036854775807:=by
       obtain⟨a',c',h0,h3,h4,-⟩:=id hra
       obtain⟨a2',c2',h0',h3',h4',-⟩:=id hrb
       injection h0 with e1 e2 e3
       injection h0' with e1' e2' e3'
       have h5:c'<=9223372036854775807:=h4
       have h6:c2'<=9223372036854775807:=h4'
       omega
      clear hg2 hqg hA hB hAL hBL hra hrb hna hnb hva hvb hga hgb
      by_cases hc:xk=8/\xn=(q:Int)
      ·obtain⟨rfl,rfl⟩:=hc
       obtain⟨hz1,hz2⟩:=GN.o.jT rfl rfl
       obtain rfl:vb=dT:=HVB.o.t hz1
       obtain rfl:nb=0:=HNB.o.symm.t hz2
       go_wp2_with fail
       go_roundg g2
       ·exact⟨q+1,by have:=HQG.o;have:=HG2.o;omega,by go_num,HJ⟩
       ·have:=HG2.o;omega
      ·have hsh:=GN.o.short hc
       have hlo:=GN.o.long hc
       have hal:=GN.o.alike hc
       have hbd:=GN.o.bad
       rw[HNA.o,HNB.o]at hsh hlo
       rw[<-HGA.o,<-HGB.o]at hbd
       have HALB:=ae (show∀m:ox w7,bl ed 23 #[.slice pa na ka,.slice pb nb kb] m.o λe w'=>e= .returned (.bool dE)/\dd m.o.heap.size m.o w' from λm=>(Fi (.slice pa na ka) (.slice pb nb kb) _ _ m.o (HRA.o.stay m.kj) (HRB.o.stay m.kj)).m λe w' h=>by
        obtain⟨⟨r,he,hr⟩,hb⟩:=h
        exact⟨by rw[he,hr.2 hal],hb⟩)
       have k1:(xk==8)=dT\/((xk==8)=dE/\(xn==(q:Int))=dT):=by
        by_cases h8:xk=8
        ·exact .inr ⟨by rw[h8];rfl,by rw[aJ];exact λe=>hc ⟨h8,e⟩⟩
        ·exact .inl (by rw[aJ];exact h8)
       have k2:(na<nb/\xk=3/\xn=(q:Int))\/na=nb:=by
        rcases dy na nb with h3|h3
        ·exact .inl ⟨h3,hlo h3⟩
        ·exact .inr (Nat.le_antisymm hsh h3)
       have k3:gb=ga\/(xk=1/\xn=(q:Int)/\gb=ga+1):=hbd
       have X6:=ae x6
       have Y6:=ae y6
       have XB:=ae xb
       have YB:=ae yb
       have C0:=ae a0
       have C1:=ae a1
       have m1:=od (aI _ _ x6) x6
       have m2:=od (aI _ _ y6) y6
       have m3:=od (aI _ _ xl) xl
       have m4:=od (aI _ _ yl) yl
       have m5:=od (aI _ _ a0) a0
       have m6:=od (aI _ _ a1) a1
       clear hsh hlo hal hbd hc x6 y6 xb yb xl yl xu yu
       have hgab:0<=ga/\ga<1000000000000:=by
        have h:=(FV HS.o.1 (λx hx=>yl (HS.o.2 x hx)) i).bad q
        rw[<-HGA.o]at h
        exact h
       have K2:=ae k2
       have K3:=ae k3
       have HGAB:=ae hgab
       clear k2 k3 hgab
       go_upto_region 16 with fail
       go_cut [66]from 66 to 66 (λs wc=>s= .bool dT/\w7=wc)
       case first=>
        rcases k1 with e8|⟨e8,e9⟩
        all_goals (
         go_wp2_with fail
         go_meet
         case rel=>exact⟨rfl,rfl⟩)
       case rest=>
       obtain⟨rfl,rfl⟩:=hcut
       clear k1 a0 a1
       go_upto_region 19 with fail
       go_cut [144]from 144 to 144 (λs wc=>s= .bool dT/\Hid (dd w7.heap.size w7 wc))
       case first=>
        rcases K2.o with⟨h3,rfl,rfl⟩|rfl
        have d3:decide ((na:Int)<nb)=dE:=by rw[ap];omega
        have d3n:decide (na<nb)=dE:=by rw[ap];omega
        have d4:decide ((nb:Int)<na)=dT:=by rw[ah];omega
        have d4n:decide (nb<na)=dT:=by rw[ah];omega
        all_goals as_aux_lemma=>(
         refine ct (by kernel_rfl) (by kernel_rfl) ?_
         repeat (go_big_quiet_step ((go_at_call 23;exact fD (HALB.o _))))
         refine IR λw8 B8=>?_
         go_wp2_with fail
         go_meet
         case rel=>exact⟨rfl,B8⟩)
       case rest=>
       obtain⟨rfl,B8⟩:=hcut
       obtain⟨w8,rfl⟩:=aK wc
       clear m1 m2 m3 m4 m5 m6
       have m5:=EW B8.o (aI _ _ C0.o) C0.o
       have m6:=EW B8.o (aI _ _ C1.o) C1.o
       have m7:=EW B8.o (aI _ _ XB.o) XB.o
       have m8:=EW B8.o (aI _ _ YB.o) YB.o
       go_upto_region 21 with fail
       go_cut [182]from 182 to 182 (λs wc=>s= .bool dT/\Hid (dd w8.heap.size w8 wc))
       case first=>
        rcases K3.o with rfl|⟨rfl,rfl,rfl⟩
        rotate_left
        have hwg:wrap64 (ga+1)=ga+1:=by have:=HGAB.o;unfold wrap64;omega
        have hne:(ga+1 !=ga)=dE:=by rw[eP];omega
        all_goals as_aux_lemma=>(
         refine ct (by kernel_rfl) (by kernel_rfl) ?_
         repeat (go_big_quiet_step (fail))
         refine IR λw9 B9=>?_
         go_wp2_with fail
         go_meet
         case rel=>exact⟨rfl,B9⟩)
       case rest=>
       obtain⟨rfl,B9⟩:=hcut
       obtain⟨w9,rfl⟩:=aK wc
       clear m5 m6 m7 m8
       have NX:=ae (HJ.o.t ((B8.o.t (B9.o.m B8.o.size)).m HJ.o.size))
       go_wp2_with fail
       go_roundg g2
       ·exact⟨q+1,by have:=HQG.o;have:=HG2.o;omega,by go_num,NX⟩
       ·have:=HG2.o;omega
     ·have hq5:¬(q:Int)<5:=by omega
      clear hqg h2
      have BW7:=ae (BW6.o.t (HJ.o.m BW6.o.size))
      have a0:=cZ BW7.o HEB.o A0.o
      obtain⟨fa,ua0,ua1,ua2,ua3,ua4,lba,loa,lca,ba0,ba1,ba2,ba3,ba4,taa,tna,tca,hA,hAL⟩:=(HA.o.stay HJ.o).lit
      have hB:=(HJ.o.block cb LTC.o).t HCB.o
      have hBL:=HOL.o.stay (HBE.o.t (HJ.o.m HBE.o.size))
      have x12:=ej hA 12 rfl
      have y12:=ej hB 12 rfl
      have hta:=hAL.told
      have htb:=hBL.told
      have hna:(ow (l.take i)).told.length=tna:=by obtain⟨a',c',h0,-⟩:=id hta;injection h0 with e1 e2 e3;exact e2.symm
      have hnb:(ow (l.take (i+1))).told.length=tnb:=by obtain⟨a',c',h0,-⟩:=id htb;injection h0 with e1 e2 e3;exact e2.symm
      have hnl:tna<=9223372036854775807/\tnb<=9223372036854775807:=by
       obtain⟨a',c',h0,h3,h4,-⟩:=id hta
       obtain⟨a2',c2',h0',h3',h4',-⟩:=id htb
       injection h0 with e1 e2 e3
       injection h0' with e1' e2' e3'
       have h5:c'<=9223372036854775807:=h4
       have h6:c2'<=9223372036854775807:=h4'
       omega
      obtain⟨hsh,hlo,htd⟩:=HGT.o
      rw[hna,hnb]at hsh hlo
      rw[hna]at htd
      have HTA:=ae hta
      have HTB:=ae htb
      have HTD:=ae htd
      have HHA:=ae hA
      have HHB:=ae hB
      have HSH:=ae hsh
      have X12:=ae x12
      have Y12:=ae y12
      have k4:(tna<tnb/\xk=1)\/(tna<tnb/\xk=3)\/tna=tnb:=by
       rcases dy tna tnb with h3|h3
       ·rcases hlo h3 with h4|h4
        ·exact .inl ⟨h3,h4⟩
        ·exact .inr (.inl ⟨h3,h4⟩)
       ·exact .inr (.inr (Nat.le_antisymm hsh h3))
      clear hA hB hAL hBL hta htb hna hnb hsh hlo htd
      go_upto_region 23 with fail
      go_cut [214]from 214 to 214 (λs wc=>s= .bool dT/\w7=wc)
      case first=>
       have K4:=ae k4
       clear k4
       rcases K4.o with⟨h3,rfl⟩|⟨h3,rfl⟩|rfl
       rotate_right
       all_goals try (
        have d3:decide ((tna:Int)<tnb)=dE:=by rw[ap];omega
        have d3n:decide (tna<tnb)=dE:=by rw[ap];omega
        have d4:decide ((tnb:Int)<tna)=dT:=by rw[ah];omega
        have d4n:decide (tnb<tna)=dT:=by rw[ah];omega)
       all_goals (
        go_wp2_with fail
        go_meet
        case rel=>exact⟨rfl,rfl⟩)
      case rest=>
      obtain⟨rfl,rfl⟩:=hcut
      clear k4 a0
      go_upto_region 26 with fail
      have R3:=ae (aj w7.heap.size w7)
      clear x12 y12
      go_loopg [11] tna (λg s wr=>∃k:Nat,k+g=tna/\s= .int .i64 k/\Hid (dd w7.heap.size w7 wr))
      case atStart=>exact⟨0,by omega,rfl,R3⟩
      case round=>
       clear R3
       obtain⟨k,hkg,rfl,HL⟩:=hrel
       obtain⟨w8,rfl⟩:=aK wr
       have x12:=cZ HL.o (hF HHA.o) X12.o
       have y12:=cZ HL.o (hF HHB.o) Y12.o
       by_cases h3:k<tna
       ·have d5:decide ((k:Int)<tna)=dE:=by rw[ap];omega
        have d5n:decide (k<tna)=dE:=by rw[ap];omega
        obtain⟨g3,hg3⟩:∃g,gk=g+1:=⟨gk-1,by omega⟩
        have HG3:=ae hg3
        have HKG:=ae hkg
        have hkb:k<tnb:=ai h3 HSH.o
        obtain⟨eb2,eo2,rfl,hec⟩:=rdT_at HTA.o HL.o h3
        obtain⟨fb2,fo2,rfl,hfc⟩:=rdT_at HTB.o HL.o hkb
        rw[HTD.o k h3]at hfc
        obtain⟨y,hy⟩:=aK ((ow (l.take i)).told.getD k Mq)
        rw[<-hy]at hec hfc
        clear hy hkg hg3
        obtain⟨t0,t1,t2,⟨t3,t4⟩⟩:=y
        obtain⟨y0,y1,y2,y3,y4⟩:=cellsT hec
        obtain⟨z0,z1,z2,z3,z4⟩:=cellsT hfc
        dsimp only at y0 y1 y2 y3 y4 z0 z1 z2 z3 z4
        have hk0:(0:Int)<=(k:Int):=by omega
        have hkI:(k:Int)<(tna:Int):=by omega
        have hkJ:(k:Int)<(tnb:Int):=by omega
        have e5:=neTld t0 t1 t2 t3 t4
        clear hec hfc
        go_wp2_with fail
        go_region
        all_goals (
         go_wp2_with fail
         go_roundg g3
         ·exact⟨k+1,by have:=HKG.o;have:=HG3.o;omega,by go_num,ae HL.o.drew⟩
         ·have:=HG3.o;omega)
       ·have d5:decide ((k:Int)<tna)=dT:=by rw[ah];omega
        have d5n:decide (k<tna)=dT:=by rw[ah];omega
        have hA8:=(HL.o.block ab (hF HHA.o)).t HHA.o
        have hB8:=(HL.o.block cb (hF HHB.o)).t HHB.o
        have HA8:=ae hA8
        have TH:=ae (show w8.there ab 0 13 from dr hA8 rfl)
        have b0:=ej hB8 0 rfl
        have b1:=ej hB8 1 rfl
        have b2:=ej hB8 2 rfl
        have b3:=ej hB8 3 rfl
        have b4:=ej hB8 4 rfl
        have b5:=ej hB8 5 rfl
        have b6:=ej hB8 6 rfl
        have b7:=ej hB8 7 rfl
        have b8:=ej hB8 8 rfl
        have b9:=ej hB8 9 rfl
        have b10:=ej hB8 10 rfl
        have b11:=ej hB8 11 rfl
        have BW8:=ae (BW7.o.t (HL.o.m BW7.o.size))
        have B48:=ae (HBE.o.t ((HJ.o.t (HL.o.m HJ.o.size)).m HBE.o.size))
        clear hA8 hB8 hkg h3
        go_upto_region 30 with fail
        go_wp2_with (refine bz rfl 29 (.tmp 5) (.tmp 233) rfl ab 0 #[.int .i64 fb,.bool ub0,.bool ub1,.bool ub2,.bool ub3,.bool ub4,.slice (de ⟨lbb,lob,dl⟩) 5 lcb,.int .i64 bb0,.int .i64 bb1,.int .i64 bb2,.int .i64 bb3,.int .i64 bb4,.slice tab tnb tcb] rfl rfl TH.o rY (outOne _ _ _ _ _ _ _ _ _ _ _ _ _ _ _ _ _) ?_;generalize hW9:World.setCells _ _ _ _=w9;have NX:Hid (GrI W ab (ow (l.take (i+1))) w9):=ae (GrI.move BW8.o HOLD.o HLT.o HOB.o B48.o HSZ.o HA8.o rfl hW9);clear hW9)
        go_roundg g1
        ·exact⟨i+1,by have:=HG1.o;have:=HIG.o;omega,by go_num,NX⟩
        ·have:=HG1.o;omega
   ·have d1:decide ((i:Int)<n)=dT:=by rw[ah];omega
    have d1n:decide (i<n)=dT:=by rw[ah];omega
    go_wp2_with fail
    go_ret
    exact⟨rfl,B0.o⟩
 ·have HR:=ae (Iz _ l w1 (HV.o.stay B1.o) hs)
  have HS:=ae hs
  clear hs
  go_upto_region 4 with(go_at_call 20;refine HR.o.m ?_;rintro e w2 ⟨cx,hc0,rfl,hb2⟩;have hz:(cx !=0)=dE:=(by rw[eP];exact hc0);have B2:=ae hb2;clear hc0 hb2;simp only[je,fp])
  generalize hW:World.alloc _ _=w3
  have B3:=ae (show dd W.heap.size W w3 by rw[<-hW];exact B1.o.t ((B2.o.t (((aj _ _).alloc (ag _) _).m B2.o.size)).m B1.o.size))
  clear hW
  have HRF:=ae (Bh _ l w3 (HV.o.stay B3.o) HS.o)
  go_wp2_with (go_at_call 21;refine HRF.o.m ?_;rintro e w4 ⟨rfl,hb4⟩;have B4:=ae hb4;clear hb4)
  go_ret
  exact⟨rfl,B3.o.t (B4.o.m B3.o.size)⟩
end Go.Proofs.YtmeibmoklnihmaaGreatDoor
namespace Go.Proofs.YtmeibmoklnihmaaGreatDoor.lawTopGrowsAny
open Go.ChangeShapes Go.WideShapes Go.ChangeAt Go.RowKit Go.Con
theorem lifted(os:Os)(started:os.Started)(H:Type)(fS:TypeId×bd->H):
  ReturnsInHanded {} Tryz.checked os 5 .any (λw args=>(Rows.topGrowsAnySpec.pre fS ed Tryz.f5 [] dT w args/\laidMetH ed [("conclave/sha.numbers",Rows.laid_conclave_sha_numbers),("conclave/order.need",Rows.laid_conclave_order_need)] w)/\sizedMet fS ed Tryz.f5 (OpenSpec.ofChange Rows.topGrowsAnySpec) dT w args)
   (Rows.topGrowsAnySpec.post fS ed Tryz.f5 dT dE dT dT):=by
 refine returnsInHanded_of_change_and (C:=Tryz.checked) (X:=λw _=>laidMetH ed [("conclave/sha.numbers",Rows.laid_conclave_sha_numbers),("conclave/order.need",Rows.laid_conclave_order_need)] w) (λ_ _ _ hh h=>h.of_heap hh) hH started (by kernel_rfl) func5
  (ChangeSpec.witness_shaped (enc:=fS) (C:=Tryz.checked) (os:=os) (X:=λw _=>laidMetH ed [("conclave/sha.numbers",Rows.laid_conclave_sha_numbers),("conclave/order.need",Rows.laid_conclave_order_need)] w) dT (World.doorLaid ed 400 os) #[.slice dl 0 0] 8 rfl (World.shaped_of_RefB (by kernel_rfl) (by kernel_rfl)) (by kernel_rfl) (by kernel_rfl) (by kernel_rfl)
   (laidMetH_of_parts (laidMet_of_run' 8 (by kernel_rfl) (by kernel_rfl)) (by kernel_rfl))) ?_
 intro W base args ds gs before hval0 hW _ hsz0 hL _
 have hval:∀(j:Nat) t v,Tryz.f5.params[j]?=de t->args[j]?=de v->Value.okWide ed W .any base t v:=hval0
 have hW':=hW
 obtain⟨p,q,hA0,hV,rfl,hfz,hnd⟩:=hW
 have hA:DataW.TrodAll fS ed W 0 (λ_=>dE) dE Tryz.f5.params.toList args.toList ds p:=hA0
 rw[Tryz.params5]at hA hval
 obtain⟨v0,vs0,d0,ds0,p0,q0,hargs,rfl,rfl,h0,r0⟩:=trodAll_cons hA
 obtain⟨rfl,rfl,rfl⟩:=trodAll_nil r0
 obtain rfl:args=#[v0]:=by cases args;simp_all
 obtain⟨rfl,rfl⟩:=trodVars_none hV
 have hL':laidMetH ed [("conclave/sha.numbers",Rows.laid_conclave_sha_numbers),("conclave/order.need",Rows.laid_conclave_order_need)] W:=hL
 rw[MakeChecks.laidMetH_plain _ _ _ (by kernel_rfl)]at hL'
 have hKn:Kn W:=Bz hL'
 have h_need:=xO hL'.tail
 have k0:=h0
 have lt0:∀x∈p0,x.block<W.heap.size:=by obtain⟨m,hm⟩:=k0;exact DataW.trod_lt m _ _ _ hm
 obtain⟨a0,w0⟩:=Ei (fS:=fS) (hval 0 22 v0 rfl rfl) h0
 clear hA0 hval0
 refine(walk_TopGrowsAny v0 a0 W w0 hKn h_need).m λe W' ⟨he,kj⟩=>?_
 subst he
 exact⟨_,rfl,_,_,_,[],_,[],hW',trodAll_mk1 (shut_bool Tryz.underlying4 _),(trodAll_cons_mk (Below.trod laidOut (by kernel_rfl) (fF (by kernel_rfl)) k0 kj lt0) trodAll_mk0),rfl,kj.frame _,λh=>by cases h⟩
theorem closed:joinedFacts ed 5 Tryz.f5 Rows.topGrowsAnySpec Rows.topGrowsAnyRow=dE:=by
 unfold joinedFacts
 simp only[aP]
 repeat' apply And.intro
 all_goals first|(with_reducible exact may)|(rw[Ni];as_aux_lemma=>kernel_rfl)|(rw[LM];as_aux_lemma=>kernel_rfl)|(as_aux_lemma=>kernel_rfl)
theorem over:Rows.topGrowsAnyRow.holds Tryz.pinned (OpenSpec.ofChange Rows.topGrowsAnySpec):=
 OpenClaim.holds_of_wide 5 Tryz.f5 rfl rfl rfl rfl rfl rfl rfl ⟨rfl,rfl,rfl,rfl,rfl⟩ rfl rfl rfl rfl rfl (by kernel_rfl) func5 closed
  (of_decide_eq_true (by kernel_rfl)) (by unfold Func.isWrapper;first|(rw[if_pos (by decide+kernel)];kernel_rfl)|(rw[if_neg (by decide+kernel)];exact⟨rfl,rfl⟩))
  (λos started H fS _=>lifted os started H fS)
theorem proved:Rows.TopGrowsAnyCardSaid:=
 Claim7.holds_tied_plain_at .later [] [.data,.data] dE Rows.topGrowsAnyCard.stood.harness dT
  over (λ_ h=>by cases h) (by kernel_rfl) (λ_ h=>by cases h) topGrowsAny_row_tie rfl ⟨rfl,rfl⟩ (by kernel_rfl) rfl
  (λf fn hf hfn=>by
   obtain rfl:f=5:=fT ((show prog.funcNamed "conclave/conclavetop.TopGrowsAny" =de 5 by kernel_rfl).symm.t hf)|>.symm
   obtain rfl:fn=Tryz.f5:=(fT (func5.symm.t hfn)).symm
   exact⟨by kernel_rfl,λj t ht=>by
    rw[Tryz.params5]at ht
    have hm:t∈([22]:List TypeId):=by simpa using Array.mem_of_getElem? ht
    have hall:(([22]:List TypeId).all λu=>!prog.wantsStandIn u)=dE:=by kernel_rfl
    exact(show prog.wantsStandIn t=dT by simpa using gR.1 hall t hm)⟩)
  (by kernel_rfl)
#print axioms proved
end Go.Proofs.YtmeibmoklnihmaaGreatDoor.lawTopGrowsAny
