/-
  Parts of the proofs of the laws of the whole (what the functions compute, and plain laws of it); no conditions.
-/
import Derived.Test.YtcdmenphjilnnaaGreatDoorM22
import Derived.Test.YtcdmenphjilnnaaGreatDoorM23
import Derived.Test.YtcdmenphjilnnaaGreatDoorM24
import Derived.Test.YtcdmenphjilnnaaGreatDoorM25
import Derived.Deep.CutBlock
set_option linter.unusedVariables false
set_option linter.unusedSimpArgs false
set_option maxRecDepth 100000
set_option maxHeartbeats 1000000
open Go.Proofs.Tryz
open Go renaming World->ax,Value->bd,Calls->bl
open Go.RowKit renaming Below->dd
open Option renaming some->de,none->dl
open Bool renaming true->dE,false->dT
open Go.Proofs.Tryz renaming prog->ed
namespace Go.Proofs.YtcdmenphjilnnaaGreatDoor
open Go.RowKit Go.Con
set_option maxHeartbeats 400000
structure IA(M:aT)(i:Nat)(r:eW):Prop where
 cI:(M.nd i).cI=dl
 kf:kf (M.nd i).p (M.nd i).l=dE
 s0:0<=(M.nd i).iZ
 s1:(M.nd i).iZ<=(M.nd i).D.length
 len:(M.nd i).D.length<=100000
 log:(M.nd i).log.length<=40
 known:∀s x,cd (M.nd i).known s=de x->cS x=0
 ja:∀c∈(M.nd i).queue,cS c=0
 bG:okB r.bG=dE
 aV:∀l∈r.lists,∀v∈l,jJ v=dE
 dD:mr r
 prom:r.prom.length<1000000
 cz:M.cz.length+200<1000000000000
theorem FX{hH:bI}{W:ax}{wb i:Nat}{G:Gh}{M:aT}{a:GR}{r:eW}(h:dB hH W wb G M)(hi:i<5)(ho:IA M i r)(hg:(G.n i).rg=de a)(hr:(M.nd i).rg=de r):
  bl ed 83 #[ptr wb,ptr (G.n i).b,ptr a.b] W λe b=>e= .returned (.tuple #[])/\aW hH W wb G i (M.ke i r) b:=by
 cases hl:later r.bG (M.nd i).p with
 |true=>exact FW h hi ho.cI ho.kf ho.bG ho.s0 ho.s1 ho.len hg hr hl
 |false=>
  cases hm:lG r.prom.length with
  |true=>
   exact DT h hi ho.cI ho.log ho.aV ho.dD ho.known ho.ja hg hr hl hm ho.prom ho.cz
  |false=>
   have e:M.ke i r=M.each i (r.prom.map (·.1)) {dK.zero with kind:=0,bG:=r.bG}:=by
    unfold aT.ke;dsimp only;rw[ak (by rw[hl];decide),ak (by rw[hm];decide)]
   rw[e];exact DU h hi hg hr hl hm ho.prom (by have:=ho.cz;omega)
section
variable{hH:bI}{W:ax}{wb i:Nat}{G:Gh}{M:aT}
theorem dB.Jd(h:dB hH W wb G M)(hi:i<5)(t:Int):aW hH W wb G i (M.aX i {M.nd i with fN:=t}) (W.setCell ((G.n i).b,56) t):=by
 have hq:=(h.nd i hi).pt;exact h.jc hi (cG.refl hH W (λ_=>False)) (λt a=>a.elim) (λ_ _=>rfl) (G.n i) {M.nd i with fN:=t} rfl
  ⟨hq.kl,hq.kn,hq.tk,hq.mg,hq.gO,hq.log,hq.ja,hq.mO,hq.jq,hq.rg,hq.lO⟩ 56 [t] (eY (i:=i) (g:=G.n i) (n:=M.nd i) (h.nd i hi).pt.kl (G.n i) {M.nd i with fN:=t} rfl rfl 4 [t] rfl)
theorem dB.Lx(h:dB hH W wb G M)(hi:i<5)(hp:(M.nd i).cI=dl):aW hH W wb G i (M.aX i {M.nd i with rg:=dl}) (W.setCell ((G.n i).b,9) (.pointer dl)):=by
 have hq:=(h.nd i hi).pt;exact h.jc hi (cG.refl hH W (λ_=>False)) (λt a=>a.elim) (λ_ _=>rfl) {G.n i with rg:=dl} {M.nd i with rg:=dl} rfl
  ⟨hq.kl,hq.kn,hq.tk,hq.mg,hq.gO,hq.log,hq.ja,hq.mO,hq.jq,trivial,eO.nil hp (h.lf hi hp)⟩ 9 [.pointer dl] rfl
theorem dB.Ga(h:dB hH W wb G M)(hi:i<5)(hr:(M.nd i).rg=dl):(G.n i).rg=dl:=by
 have h1:=(h.nd i hi).pt.rg;rw[hr]at h1;cases e:(G.n i).rg with
 |none=>rfl
 |some a=>rw[e]at h1;exact h1.elim
end
def mJ(M:aT)(i:Nat)(dst:Int)(L:List bk)(m:Nat):aT:=(L.take m).foldl (λM c=>M.send i dst {dK.zero with kind:=4,cP:=⟨0,(0,0),c⟩}) M
theorem BM(M:aT)(i:Nat)(dst:Int){L:List bk}{m:Nat}(hm:m<L.length):mJ M i dst L (m+1)=(mJ M i dst L m).send i dst {dK.zero with kind:=4,cP:=⟨0,(0,0),L.getD m bk.zero⟩}:=by
 unfold mJ;rw[eA,iw,au,aC hm];rfl
theorem zV(M:aT)(i:Nat)(dst:Int)(L:List bk)(m:Nat):(mJ M i dst L m).nd=M.nd/\(mJ M i dst L m).cz.length<=M.cz.length+m:=by
 unfold mJ;have h:∀(l:List bk) (M:aT),(l.foldl (λM c=>M.send i dst {dK.zero with kind:=4,cP:=⟨0,(0,0),c⟩}) M).nd=M.nd/\(l.foldl (λM c=>M.send i dst {dK.zero with kind:=4,cP:=⟨0,(0,0),c⟩}) M).cz.length=M.cz.length+l.length:=by
  intro l;induction l with
  |nil=>intro M;exact⟨rfl,rfl⟩
  |cons c l a=>
   intro M;rw[dH];have h1:=a (M.send i dst {dK.zero with kind:=4,cP:=⟨0,(0,0),c⟩});refine⟨h1.1,h1.2.t ?_⟩;unfold aT.send;simp only[aD,aZ,ot];omega
 refine⟨(h _ M).1,?_⟩;rw[(h _ M).2,aM];omega
theorem DS(M:aT)(i:Nat)(r:eW):((M.ke i r).nd i).fN=(M.nd i).fN:=by
 unfold aT.ke;dsimp only;split
 ·split
  ·rfl
  ·rw[bf]
 ·split
  ·have e:=(qO (M.aX i {M.nd i with rg:=de ((M.nd i).queue.foldl (λr c=>r.ask (M.nd i) c) (if r.begun=dE then r else r.begin (M.nd i)))}) i (M.nd i) ((M.nd i).queue.foldl (λr c=>r.ask (M.nd i) c) (if r.begun=dE then r else r.begin (M.nd i))) 40).1;unfold iE at e;rw[e,bf]
  ·rw[yd,oZ]
theorem Nf(fn:FuncId)(a:Array bd)(w:ax):(binOp BinOp.neq 1 (.func (.func fn) #[] a) .nilFunc).run ed w= .ok (.bool dE) w:=by kernel_rfl
theorem CZ(w:ax):(binOp BinOp.neq 1 .nilFunc .nilFunc).run ed w= .ok (.bool dT) w:=by kernel_rfl
theorem Oe(fn:FuncId)(a:Array bd)(w:ax):(binOp BinOp.eql 1 (.func (.func fn) #[] a) .nilFunc).run ed w= .ok (.bool dT) w:=by kernel_rfl
theorem JU(w:ax):(binOp BinOp.eql 1 .nilFunc .nilFunc).run ed w= .ok (.bool dE) w:=by kernel_rfl
theorem Fb(M:aT)(i:Nat){t:Int}{b:Int×Int}{ln:Nat}(h1:t=((M.nd i).fN+1)%5)(a:t≠(i:Int))(h2:ln=(M.nd i).log.length)(h4:ln<40)(hb:(if later (M.nd i).heard (M.nd i).p=dE then(M.nd i).heard else(M.nd i).p)=b):
  M.asks i=(M.aX i {M.nd i with fN:=t}).send i t {dK.zero with kind:=5,bG:=b,cP:=⟨(ln:Int),(0,0),bk.zero⟩}:=by
 subst h1 h2 hb;unfold aT.asks;dsimp only;rw[ar ⟨a,h4⟩]
set_option maxHeartbeats 1000000
structure Oj(hH:bI)(W:ax)(wb i:Nat)(G:Gh)(M:aT)(w:ax):Prop where
 jc:aW hH W wb G i (M.drop i) w
 nd:((M.drop i).nd i).rg=dl/\((M.drop i).nd i).p=(M.nd i).p/\((M.drop i).nd i).queue=(M.nd i).queue/\((M.drop i).nd i).fN=(M.nd i).fN/\((M.drop i).nd i).log=(M.nd i).log/\(M.drop i).cz=M.cz
structure KE(hH:bI)(W:ax)(wb i:Nat)(G:Gh)(M MX:aT)(w:ax):Prop where
 jc:aW hH W wb G i MX w
 is:M.mB i=MX.asks i
 Oq:0<=(MX.nd i).fN/\(MX.nd i).fN<5
 cz:MX.cz.length<1000000000000
theorem Hi{hH:bI}{W:ax}{f i:Nat}{G:Gh}{M:aT}(h:dB hH W f G M)(hi:i<5)(hp:(M.nd i).cI=dl)(b2:0<=(M.nd i).fN/\(M.nd i).fN<5)(n8:(M.nd i).log.length<=40)(n3:M.cz.length+200+(M.nd i).queue.length<1000000000000)(o5:∀r,(M.nd i).rg=de r->later (M.nd i).p r.bG=dT->IA M i r):
  bl ed 56 #[ptr f,ptr (G.n i).b] W λe W'=>e= .returned (.tuple #[])/\aW hH W f G i (M.mB i) W':=by
 obtain⟨c,e8⟩:=aK ((G.n i).b);have a8:=(h.nd i hi).dM;rw[<-e8]at a8;rw[<-e8];obtain⟨a1,a2,f5⟩:∃a b,(M.nd i).p=(a,b):=⟨_,_,rfl⟩
 have c6:=ae a8;have H:=ae e8;have d4:=ae f5;have HR:=ae h;have HP:=ae hp;have g9:=ae b2;have u0:=ae n8;have d0:=ae n3;have q5:=ae o5;have E4:=ae (show W.cell? (c,4)=a1 from(aR a8 4).t (by show de (Value.int .i64 (M.nd i).p.1)=_;rw[f5]));have E5:=ae (show W.cell? (c,5)=a2 from(aR a8 5).t (by show de (Value.int .i64 (M.nd i).p.2)=_;rw[f5]));have a5:=ae (hF a8);clear h hp b2 n8 n3 e8 f5 a8 o5;show bl ed 56 #[.pointer (de ⟨f,0,dl⟩),.pointer (de ⟨c,0,dl⟩)] W _;go_enter func56,ntmps56
 go_step
 go_step
 go_cut []from 9 to 139 (λwc=>Hid (Oj hH W f i G M wc\/∃r,(M.nd i).rg=de r/\later (M.nd i).p r.bG=dT/\dd W.heap.size W wc))
 case first=>
  cases hrg:(M.nd i).rg with
  |none=>
   have T:W.cell? (c,9)=de (.pointer dl):=(aR c6.o 9).t (by show de (Value.pointer ((G.n i).rg.map λr=>(r.b,0)))=_;rw[HR.o.Ga hi hrg];rfl);go_upto_region 1 with fail
   refine ct (by kernel_rfl) (by kernel_rfl) ?_;repeat (go_big_quiet_step (fail))
   refine bt ?_;rintro _ ⟨B,rfl⟩;go_wp2_with fail
   go_meet
   case rel=>
    have b6:M.drop i=M:=by unfold aT.drop;rw[hrg]
    exact .inl ⟨by rw[b6];exact⟨hH,G,HR.o.below B.kj,λ_=>rfl,cG.below B.kj⟩,by rw[b6];exact⟨hrg,rfl,rfl,rfl,rfl,rfl⟩⟩
  |some r=>
   obtain⟨gr,b9,hR⟩:=HR.o.wo hi hrg;obtain⟨rb,b0⟩:=aK gr.b;have a9:=hR.dM;rw[<-b0]at a9;obtain⟨r1,r2,f7⟩:∃a b,r.bG=(a,b):=⟨_,_,rfl⟩
   have T:W.cell? (c,9)=(rb,0):=(aR c6.o 9).t (by show de (Value.pointer ((G.n i).rg.map λr=>(r.b,0)))=_;rw[b9,b0];rfl);have f0:W.cell? (rb,0)=r1:=(ej a9 0 rfl).t (by show de (Value.int .i64 r.bG.1)=_;rw[f7]);have f1:W.cell? (rb,1)=r2:=(ej a9 1 rfl).t (by show de (Value.int .i64 r.bG.2)=_;rw[f7]);have m4:=od a5.o E4.o;have m5:=od a5.o E5.o;have n0:=od (hF a9) f0;have n1:=od (hF a9) f1;obtain⟨d,hd⟩:=aK (later (a1,a2) (r1,r2));have Y:=λw=>lQ (a1,a2) (r1,r2) w;rw[<-hd]at Y;have q1:=ae Y;have b4:=ae (show later (M.nd i).p r.bG=d by rw[d4.o,f7,hd]);have S:=ae hrg;clear b9 hR b0 a9 f7 f0 f1 Y hd hrg;go_upto_region 1 with fail
   refine ct (by kernel_rfl) (by kernel_rfl) ?_;repeat (go_big_quiet_step ((go_at_call 82;exact fD (q1.o _))))
   refine IR λw0 B0=>?_;clear m4 m5 n0 n1 T;cases d with
   |false=>
    go_wp2_with fail
    go_meet
    case rel=>exact .inr ⟨r,S.o,b4.o,B0.o⟩
   |true=>
    have p6:=ae ((HR.o.below B0.o).Lx hi HP.o);have a7:=(B0.o.block c a5.o).t c6.o;have T:=(aR a7 9).t rfl;have ef:=aO a7;clear a7;go_wp2_with fail
    go_meet
    case rel=>
     have b6:M.drop i=M.aX i {M.nd i with rg:=dl}:=by unfold aT.drop;rw[S.o];dsimp only;rw[if_pos b4.o]
     exact .inl ⟨by rw[b6,H.o];exact p6.o.pre B0.o,by rw[b6,bf];exact⟨rfl,rfl,rfl,rfl,rfl,rfl⟩⟩
 case rest=>
  obtain⟨w1,rfl⟩:=aK wc;have HC:=ae hcut.o;clear hcut;have s1:w1.cell? (c,4)=a1/\w1.cell? (c,5)=a2:=by
   rcases HC.o with hc|⟨r,-,-,hb⟩
   ·obtain⟨a0,L,k1,k2,k3⟩:=hc.jc;have I:=(k1.nd i hi).dM;rw[k2 i,<-H.o]at I;exact⟨(aR I 4).t (by show de (Value.int .i64 ((M.drop i).nd i).p.1)=_;rw[hc.nd.2.1,d4.o]),(aR I 5).t (by show de (Value.int .i64 ((M.drop i).nd i).p.2)=_;rw[hc.nd.2.1,d4.o])⟩
   ·exact⟨(hb.cell (p:=(c,4)) a5.o).t E4.o,(hb.cell (p:=(c,5)) a5.o).t E5.o⟩
  obtain⟨e4,e5⟩:=s1;go_upto_block 0 with fail
  generalize u:World.alloc _ _=w2;have R:=ae (gv u);obtain⟨x5,g0⟩:=aK w1.heap.size;have X5:=ae (eZ u g0);have r5:=ae (show w1.heap.size<=x5 by rw[g0];exact ag _);rw[<-g0];clear u g0 e4 e5;go_cut []from 9 to 139 (λwc=>∃o,Hid (KE hH W f i G M o wc))
  case first=>
   rcases HC.o with hc|⟨r,hrg,n4,hb⟩
   ·clear HC;obtain⟨x,i0⟩:=aK (M.drop i);obtain⟨h1,h2⟩:=hc;rw[<-i0]at h1 h2;have k7:=ae i0;rw[d4.o]at h2;have C:=ae h2;obtain⟨a0,L,k1,k2,k3⟩:=h1;have I:=(k1.nd i hi).dM;rw[k2 i,<-H.o]at I;have U:=(R.o.block c (hF I)).t I;have T:w2.cell? (c,9)=de (.pointer dl):=(aR U 9).t (by show de (Value.pointer ((L.n i).rg.map λr=>(r.b,0)))=_;rw[k1.Ga hi C.o.1];rfl);have O5:=ae (show(a0 x5).1=6 from k1.hi x5 r5.o);have m0:=od (hF U) ((aR U 0).t rfl);have y0:=od (hF X5.o) (ej X5.o 0 rfl);have y1:=od (hF X5.o) (ej X5.o 1 rfl);have r6:=ae (hF I);have R1:=ae k1;have K2:=ae k2;have K3:=ae k3;have p5:=ae I;clear k1 k2 k3 I U h2 i0;go_upto_region 7 with fail
    clear T;by_cases i8:0<a1/\a2≠(i:Int)
    ·obtain⟨n2,i3⟩:=i8;have m2:(a2 !=(i:Int))=dE:=by rw[eP];exact i3
     have d2:=ae (show 0<a1/\a2≠(i:Int)from⟨n2,i3⟩);refine ct (by kernel_rfl) (by kernel_rfl) ?_;repeat (go_big_quiet_step (fail))
     refine IR λw3 j3=>?_;have B3:=ae (R.o.t (j3.o.m R.o.size));clear m0 y0 y1 n2 i3 m2;have R3:=ae (R1.o.below B3.o);have c1:=(R3.o.nd i hi).pt.ja;have A:=(R3.o.nd i hi).pt.kl;have V:=(B3.o.block c r6.o).t p5.o;rw[C.o.2.2.1]at c1;obtain⟨qa,qc,f6,o1,o2,-⟩:=id (show oQ w3 (L.n i).ja (M.nd i).queue from c1.rd);obtain⟨K,i9⟩:=aK ((M.nd i).queue.length);rw[<-i9]at f6 o1;have t7:w3.cell? (c,52)=de (.slice qa K qc):=(aR V 52).t ((dj A 0).t (by rw[<-f6];rfl));rw[f6]at c1;have HQ:=ae c1;have d5:=ae i9;have q4:=ae (show K<=9223372036854775807 by have:qc<=9223372036854775807:=o2;omega);have s9:(K:Int)<=(qc:Int):=by omega
     have r9:=ae ((j3.o.block x5 (hF X5.o)).t X5.o);have l0:=ae (show vP a0 w3 f i L (mJ x i a2 (M.nd i).queue 0) w3 from⟨a0,L.cz,R3.o,cG.refl _ _ _⟩);clear c1 A V f6 o1 o2 i9;go_wp2_with fail
     go_loopg [71] K (λk t9 wr=>∃m:Nat,m+k=K/\t9= .int .i64 m/\Hid (vP a0 w3 f i L (mJ x i a2 (M.nd i).queue m) wr))
     case atStart=>exact⟨0,by omega,rfl,l0⟩
     case round=>
      clear l0 t7 s9;obtain⟨m,hmk,rfl,HS⟩:=hrel;obtain⟨w4,rfl⟩:=aK wr;by_cases hlt:¬(m:Int)<(K:Int)
      ·have f2:m=K:=by omega
       subst f2;clear hlt hmk;obtain⟨y,N⟩:=aK (mJ x i a2 (M.nd i).queue m);obtain⟨o9,JT,j1,Z⟩:=HS.o.sJ;have f3:=zV x i a2 (M.nd i).queue m;rw[<-N]at j1 f3;have a6:=ae (show KE hH W f i G M y w4 from⟨⟨o9,{L with cz:=JT},j1,K2.o,(K3.o.t (cG.below B3.o)).t (Z.m (λt ht=>by rcases ht with rfl|rfl<;>decide))⟩,by
        unfold aT.mB;dsimp only;rw[<-k7.o,C.o.1];dsimp only;rw[C.o.2.1,ar d2.o,C.o.2.2.1,N];unfold mJ;rw[d5.o,dV],by rw[f3.1,C.o.2.2.2.1];exact g9.o,by have h1:=f3.2;rw[C.o.2.2.2.2.2]at h1;have h2:=d0.o;have h3:=d5.o;omega⟩)
       clear j1 Z f3 N HS;go_wp2_with fail
       go_meet
       case rel=>exact⟨y,a6.o⟩
      ·replace hlt:=cN hlt;have f2:m<K:=by omega
       obtain⟨o9,JT,j1,Z⟩:=HS.o.sJ;have o6:=(HQ.o.cB Z (λe=>by rcases e with e|e<;>(injection e with e _;omega))).rd;obtain⟨eb,s2,rfl,s5,i2⟩:=(show oQ w4 (.slice qa K qc) (M.nd i).queue from o6).cells.2.2 m f2;obtain⟨z,hz⟩:=aK ((M.nd i).queue.getD m bk.zero);rw[<-hz]at i2;have m9:∀q,q<5->w4.cell? (eb,s2+m*5+q)=(aQ z)[q]?:=λq hq=>by
        have h9:=i2 q hq;rw[eJ 5 m,<-eI]at h9;exact h9
       have q7:=ae (show mJ x i a2 (M.nd i).queue (m+1)=(mJ x i a2 (M.nd i).queue m).send i a2 {dK.zero with kind:=4,cP:=⟨0,(0,0),z⟩} by
        rw[BM x i a2 (by rw[<-d5.o];exact f2),<-hz])
       have p1:=Z.at r9.o (λe=>by have h6:=O5.o;rcases e with e|e<;>rw[e]at h6<;>cases h6);have J1:=ae j1;have J2:=ae Z;have l6:=ae p1;obtain⟨z0,z1,z2,z3,z4⟩:=z;obtain⟨e0,e1,e2,e3,e4⟩:=qd m9;dsimp only at e0 e1 e2 e3 e4;obtain⟨g,hg⟩:∃g,gk=g+1:=⟨gk-1,by omega⟩
       have k0:=ae (show g<gk/\(m+1)+g=K from⟨by omega,by omega⟩);have u6:(0:Int)<=(m:Int):=by omega
       have r4:=ae (show Value.int .i64 (wrap64 ((m:Int)+1))= .int .i64 ((m+1:Nat):Int) by
        have h1:=q4.o;rw[show wrap64 ((m:Int)+1)=((m+1:Nat):Int) by unfold wrap64;omega])
       clear o6 i2 hz m9 j1 Z hg hmk p1 s5;go_upto_region 11 with fail
       generalize u:World.alloc _ _=wA;have BA:=ae (gv u);obtain⟨b7,i1⟩:=aK w4.heap.size;have X7:=ae (eZ u i1);rw[<-i1];clear u i1 e0 e1 e2 e3 e4;have hfl:(mJ x i a2 (M.nd i).queue m).cz.length<1000000000000:=by
        have h1:=(zV x i a2 (M.nd i).queue m).2;rw[C.o.2.2.2.2.2]at h1;have h2:=d0.o;have h3:=d5.o;omega
       have hsend:=jN (J1.o.below BA.o) hi a2 {dK.zero with kind:=4,cP:=⟨0,(0,0),⟨z0,z1,z2,z3,z4⟩⟩} (.slice dl 0 0) (jm _ _) hfl;dsimp only at hsend;rw[K2.o i,<-H.o]at hsend;have a3:=ae (show bl ed 84 #[.pointer (de ⟨f,0,dl⟩),.pointer (de ⟨c,0,dl⟩),.int .i64 a2,.agg #[.int .i64 4,.int .i64 0,.int .i64 0,.int .i64 0,.int .i64 0,.int .i64 0,.int .i64 0,.int .i64 0,.int .i64 z0,.int .i64 z1,.int .i64 z2,.int .i64 z3,.int .i64 z4,.slice dl 0 0]] wA _ from hsend);clear hsend hfl;have p0:=ej X7.o 0 rfl;have P:=ej X7.o 1 rfl;have Q:=ej X7.o 2 rfl;have p3:=ej X7.o 3 rfl;have p4:=ej X7.o 4 rfl;have xa:=(BA.o.block x5 (hF l6.o)).t l6.o;have l1:=ej xa 1 rfl;clear xa;go_wp2_with (go_at_call 84;refine a3.o.m ?_;rintro e wB ⟨t5,s3,rfl,o3,n9⟩;have d3:=ae (show vP a0 w3 f i L (mJ x i a2 (M.nd i).queue (m+1)) wB from⟨t5,s3,by rw[q7.o];exact o3,J2.o.t ((cG.below BA.o).t n9)⟩);clear o3 n9)
       go_roundg g
       ·exact⟨m+1,k0.o.2,r4.o,d3.o⟩
       ·exact k0.o.1
    ·have d2:=ae i8;clear i8;have a6:=ae (λB (hb:dd w2.heap.size w2 B)=>show KE hH W f i G M x B from⟨⟨a0,L,R1.o.below (R.o.t (hb.m R.o.size)),K2.o,K3.o.t (cG.below (R.o.t (hb.m R.o.size)))⟩,by
      unfold aT.mB;dsimp only;rw[<-k7.o,C.o.1];dsimp only;rw[C.o.2.1,ak d2.o],by rw[C.o.2.2.2.1];exact g9.o,by rw[C.o.2.2.2.2.2];have:=d0.o;omega⟩)
     by_cases h0:¬0<a1
     ·refine ct (by kernel_rfl) (by kernel_rfl) ?_;repeat (go_big_quiet_step (fail))
      refine bt ?_;rintro _ ⟨B,rfl⟩;go_wp2_with fail
      go_meet
      case rel=>exact⟨x,a6.o _ B.kj⟩
     ·replace h0:=cN h0;have m2:(a2 !=(i:Int))=dT:=by
       rw[kI];exact Classical.byContradiction (λh9=>d2.o ⟨h0,h9⟩)
      refine ct (by kernel_rfl) (by kernel_rfl) ?_;repeat (go_big_quiet_step (fail))
      refine bt ?_;rintro _ ⟨B,rfl⟩;go_wp2_with fail
      go_meet
      case rel=>exact⟨x,a6.o _ B.kj⟩
   ·clear HC;obtain⟨gr,b9,hR⟩:=HR.o.wo hi hrg;obtain⟨rb,b0⟩:=aK gr.b;have k4:=ae b9;have k9:=ae b0;have S:=ae hrg;have b4:=ae n4;have g1:=ae (hb.t (R.o.m hb.size));clear b9 b0 hrg n4 hb hR;have U:=(g1.o.block c a5.o).t c6.o;have T:w2.cell? (c,9)=(rb,0):=(aR U 9).t (by show de (Value.pointer ((G.n i).rg.map λr=>(r.b,0)))=_;rw[k4.o,k9.o];rfl);have R2:=ae (HR.o.below g1.o);have f8:=FX R2.o hi (q5.o r S.o b4.o) k4.o S.o;rw[<-H.o,<-k9.o]at f8;unfold ptr at f8;have q6:=ae f8;clear f8 U;go_upto_region 6 with(go_at_call 83;refine q6.o.m ?_;rintro e w3 ⟨rfl,ht⟩;have a4:=ae (ht.pre (j:=i) g1.o);clear ht)
    clear T;obtain⟨y,N⟩:=aK (M.ke i r);rw[<-N]at a4;have m3:M.drop i=M:=by
     unfold aT.drop;rw[S.o];dsimp only;rw[ak (by rw[b4.o];decide)]
    have m6:M.mB i=if(y.nd i).cI.isSome then y else y.asks i:=by
     unfold aT.mB;dsimp only;rw[m3,S.o];dsimp only;rw[<-N]
    have o7:(y.nd i).fN=(M.nd i).fN:=by rw[N];exact DS ..
    have n7:=(cJ.ke i M r).log;have i4:=(cJ.ke i M r).cz;rw[<-N]at n7 i4;have c9:=ae m6;have d6:=ae (show 0<=(y.nd i).fN/\(y.nd i).fN<5 by rw[o7];exact g9.o);have d1:=ae (show y.cz.length<1000000000000 by
     obtain⟨ls,e1,e2⟩:=i4;rw[e1,aD];have:=d0.o;omega)
    clear m3 m6 o7 n7 i4 N;obtain⟨u7,G3,k1,k2,k3⟩:=a4.o;have V:=(k1.nd i hi).dM;rw[k2 i,<-H.o]at V;have A:=(k1.nd i hi).pt.kl;have J:=(k1.nd i hi).pt.lO;have l9:w3.cell? (c,55)=de (G3.n i).lO:=(aR V 55).t ((dj A 3).t rfl);cases hpd:(y.nd i).cI with
    |some q=>
     have HT:=ae (show aW hH W f G i (M.mB i) w3 by rw[c9.o,hpd];exact a4.o);unfold eO at J;rw[hpd]at J;dsimp only at J;have e7:∃fn h8,(G3.n i).lO= .func (.func fn) #[] h8:=by
      obtain⟨ab,nb,av,-,-,-,h4⟩:=J;split at h4
      ·obtain⟨vb,rb,r,vv,h5,-⟩:=h4;exact⟨_,_,h5⟩
      ·obtain⟨yI,v0,lb,l,lv,-,-,-,h5⟩:=h4;split at h5
       ·obtain⟨vb,vv,-,-,-,-,h6⟩:=h5;exact⟨_,_,h6⟩
       ·exact⟨_,_,h5.2.2⟩
     obtain⟨fn,h8,e7⟩:=e7;rw[e7]at l9;have s7:=Nf fn h8 w3;clear J hpd e7 k1 k2 k3 V A a4 d6 d1 c9;go_wp2_with fail
     first|refine mh rfl rfl ⟨rfl,?_⟩|refine jH rfl rfl ⟨rfl,?_⟩
     exact HT.o
    |none=>
     have a6:=ae (show KE hH W f i G M y w3 from⟨a4.o,by rw[c9.o,hpd];rfl,d6.o,d1.o⟩);unfold eO at J;rw[hpd]at J;dsimp only at J;rw[J]at l9;have s7:=CZ w3;clear J hpd k1 k2 k3 V A a4 c9;go_wp2_with fail
     go_meet
     case rel=>exact⟨y,a6.o⟩
  case rest=>
   obtain⟨w3,rfl⟩:=aK wc;obtain⟨o,hc⟩:=hcut;have HT:=ae hc.o.jc;have j9:=ae hc.o.is;have d6:=ae hc.o.Oq;have d1:=ae hc.o.cz;clear hc;obtain⟨u8,GX,rX,gX,nX⟩:=HT.o;have e6:=(rX.nd i hi).dM;rw[gX i,<-H.o]at e6;have A:=(rX.nd i hi).pt.kl;obtain⟨tn,f9⟩:=aK ((o.nd i).fN);obtain⟨s,j0⟩:=aK ((tn+1)%5);have b2:=d6.o;rw[<-f9]at b2;have t8:w3.cell? (c,56)=tn:=(aR e6 56).t ((dj A 4).t (by rw[f9];rfl));have qf:=aO e6;have s6:Int.tmod (tn+1) 5=s:=by rw[j0,Int.tmod_eq_emod_of_nonneg (by omega)]
   have t0:wrap64 (tn+1)=tn+1:=by unfold wrap64;omega
   have t1:wrap64 s=s:=by unfold wrap64;omega
   have g3:=rX.Jd hi s;rw[gX i,<-H.o]at g3;have r0:=ae f9;have r3:=ae j0;have u3:=ae b2;have g6:=ae g3;have d3:=ae nX;have g2:=ae gX;clear g3 A f9 j0 b2 rX gX nX e6;go_upto_region 14 with fail
   clear t8 qf s6 t0 t1;generalize u:World.setCell _ _ _=v;rw[show w3.setCell (c,56) s=v from u]at g6;obtain⟨t4,c2,b3,d7,o8⟩:=g6.o;obtain⟨E,O⟩:∃n,n={o.nd i with fN:=s}:=⟨_,rfl⟩
   rw[<-O]at b3;have F:=(b3.nd i hi).dM;rw[d7 i,g2.o i,<-H.o]at F;rw[bf]at F;have A:=(b3.nd i hi).pt.kl;rw[bf]at A;have i5:=(b3.nd i hi).pt.log;rw[bf]at i5;obtain⟨la,lc,i7,n5,n6⟩:=i5.shape;obtain⟨ln,i6⟩:=aK ((o.nd i).log.length);rw[show E.log=(o.nd i).log by rw[O],<-i6]at i7 n5;have c0:v.cell? (c,0)=i:=(aR F 0).t rfl;have l8:v.cell? (c,56)=s:=(aR F 56).t ((dj A 4).t (by rw[O];rfl));have l7:v.cell? (c,11)=de (.slice la ln lc):=(aR F 11).t (by rw[<-i7];rfl);obtain⟨h1,h2,e9⟩:∃a b,(o.nd i).heard=(a,b):=⟨_,_,rfl⟩
   obtain⟨P,Q,f4⟩:∃a b,(o.nd i).p=(a,b):=⟨_,_,rfl⟩
   have c7:v.cell? (c,7)=h1:=(aR F 7).t (by show de (Value.int .i64 E.heard.1)=_;rw[show E.heard=(h1,h2) by rw[O];exact e9]);have c8:v.cell? (c,8)=h2:=(aR F 8).t (by show de (Value.int .i64 E.heard.2)=_;rw[show E.heard=(h1,h2) by rw[O];exact e9]);have c4:v.cell? (c,4)=P:=(aR F 4).t (by show de (Value.int .i64 E.p.1)=_;rw[show E.p=(P,Q) by rw[O];exact f4]);have c5:v.cell? (c,5)=Q:=(aR F 5).t (by show de (Value.int .i64 E.p.2)=_;rw[show E.p=(P,Q) by rw[O];exact f4]);have D:=ae (hF F);have C0:=ae c0;have j6:=ae l8;have j5:=ae l7;have C7:=ae c7;have C8:=ae c8;have C4:=ae c4;have C5:=ae c5;have k6:=ae i6;have k5:=ae (show(o.nd i).heard=(h1,h2)/\(o.nd i).p=(P,Q)from⟨e9,f4⟩);have k8:=ae O;have l5:=ae b3;have p8:=ae (show c=(c2.n i).b by rw[d7 i,g2.o i,H.o]);have j7:=ae (show∀j,(c2.n j).b=(G.n j).b from λj=>(d7 j).t (g2.o j));have l4:=ae (d3.o.t o8);have p7:=ae (show(o.aX i E).cz.length<1000000000000 from d1.o);have l2:=ae (show s=((o.nd i).fN+1)%5 by rw[<-r0.o];exact r3.o);have u4:(ln:Int)<=(lc:Int):=by omega
   have u5:(lc:Int)<=9223372036854775807:=by have:lc<=9223372036854775807:=n6;omega
   clear c0 l8 l7 c7 c8 c4 c5 F A i5 i7 n5 n6 i6 e9 f4 O b3 d7 o8 u g6 HT d3;have m0:=od D.o C0.o;have t3:=od D.o j6.o;have t2:=od D.o j5.o;have h7:=ae (λ(s8:¬(s≠(i:Int)/\ln<40)) (w:ax) (hb:dd v.heap.size v w)=>show aW hH W f G i (M.mB i) w from⟨t4,c2,by
    rw[j9.o];have e:o.asks i=o.aX i E:=by
     unfold aT.asks;dsimp only;rw[<-l2.o,<-k6.o,ak s8,k8.o]
    rw[e];exact l5.o.below hb,j7.o,l4.o.t (cG.below hb)⟩)
   by_cases b1:s=(i:Int)
   ·have q9:=ae b1;have a7:(s !=(i:Int))=dT:=by rw[kI];exact b1
    clear b1;refine ct (by kernel_rfl) (by kernel_rfl) ?_;repeat (go_big_quiet_step (fail))
    refine bt ?_;rintro _ ⟨B,rfl⟩;have T9:=ae (h7.o (λh=>h.1 q9.o) _ B.kj);go_wp2_with fail
    first|refine mh rfl rfl ⟨rfl,?_⟩|refine jH rfl rfl ⟨rfl,?_⟩
    exact T9.o
   ·have q3:=ae b1;have a7:(s !=(i:Int))=dE:=by rw[eP];exact b1
    clear b1;by_cases d8:¬(ln:Int)<40
    ·have q2:=ae d8;refine ct (by kernel_rfl) (by kernel_rfl) ?_;repeat (go_big_quiet_step (fail))
     refine bt ?_;rintro _ ⟨B,rfl⟩;have T9:=ae (h7.o (λh=>q2.o (by have:=h.2;omega)) _ B.kj);go_wp2_with fail
     first|refine mh rfl rfl ⟨rfl,?_⟩|refine jH rfl rfl ⟨rfl,?_⟩
     exact T9.o
    ·replace d8:=cN d8;have p9:=ae (show ln<40 by omega);clear h7;refine ct (by kernel_rfl) (by kernel_rfl) ?_;repeat (go_big_quiet_step (fail))
     refine IR λwE BE=>?_;clear m0 t3 t2 a7 d8;have g4:=cZ BE.o D.o C4.o;have g5:=cZ BE.o D.o C5.o;obtain⟨u1,u2,hu⟩:∃a b,(a,b)=(if later (h1,h2) (P,Q)=dE then(h1,h2)else(P,Q)):=⟨_,_,rfl⟩
     have HU:=ae hu;clear hu;go_upto_region 16 with fail
     generalize u:World.alloc _ _=wF;have BF:=ae (BE.o.t (show dd v.heap.size wE wF by rw[<-u];exact(aj _ _).alloc BE.o.size _));obtain⟨b8,d9⟩:=aK wE.heap.size;have X8:=ae (eZ u d9);have j8:=ae (show v.heap.size<=b8 by rw[d9];exact BE.o.size);rw[<-d9];clear u d9 g4 g5;obtain⟨d,hd⟩:=aK (later (h1,h2) (P,Q));have Y:=λw=>lQ (h1,h2) (P,Q) w;rw[<-hd]at Y;have q0:=ae Y;have HD:=ae hd;clear Y hd;have m7:=EW BF.o D.o C7.o;have m8:=EW BF.o D.o C8.o;have y0:=od (hF X8.o) (ej X8.o 0 rfl);have y1:=od (hF X8.o) (ej X8.o 1 rfl);refine ct (by kernel_rfl) (by kernel_rfl) ?_;repeat (go_big_quiet_step ((go_at_call 82;exact fD (q0.o _))))
     refine IR λwR j4=>?_;clear m7 m8 y0 y1;have BR:=ae (BF.o.t (j4.o.m BF.o.size));have b5:=ae ((j4.o.block b8 (hF X8.o)).t X8.o);go_upto_if 120 with fail
     go_cut []from 9 to 139 (λwc=>Hid (dd v.heap.size v wc/\wc.heap[b8]?=de (.cells #[u1,u2] 73 (0,0))))
     case first=>
      have hu:=HU.o;cases d with
      |false=>
       rw[ak (by rw[<-HD.o];decide)]at hu;injection hu with e1 e2;subst e1 e2;go_wp2_with fail
       go_meet
       case rel=>exact⟨BR.o,b5.o⟩
      |true=>
       rw[ar HD.o.symm]at hu;injection hu with e1 e2;subst e1 e2;have g7:=cZ BR.o D.o C7.o;have g8:=cZ BR.o D.o C8.o;have y0:=ej b5.o 0 rfl;have y1:=ej b5.o 1 rfl;have yf:=aO b5.o;go_wp2_with fail
       go_meet
       case rel=>exact⟨(BR.o.setCell j8.o _).setCell j8.o _,aB (aB b5.o _) _⟩
     case rest=>
      obtain⟨wS,rfl⟩:=aK wc;have BS:=ae hcut.o.1;have s0:=ae hcut.o.2;clear hcut;have r8:=ae (show wS.cell? (c,56)=s from(BS.o.cell (p:=(c,56)) D.o).t j6.o);have r7:=ae (show wS.cell? (c,11)=de (.slice la ln lc)from(BS.o.cell (p:=(c,11)) D.o).t j5.o);have l3:=ae (ai D.o BS.o.size);have j2:=BS;have p2:=ae (show M.mB i=(o.aX i E).send i s {dK.zero with kind:=5,bG:=(u1,u2),cP:=⟨(ln:Int),(0,0),bk.zero⟩} by
       rw[j9.o,Fb o i (b:=(u1,u2)) l2.o q3.o k6.o p9.o (by rw[k5.o.1,k5.o.2];exact HU.o.symm),k8.o])
      have a3:=ae (λw9 (hb:dd wS.heap.size wS w9)=>jN ((l5.o.below BS.o).below hb) hi s {dK.zero with kind:=5,bG:=(u1,u2),cP:=⟨(ln:Int),(0,0),bk.zero⟩} (.slice dl 0 0) (jm _ _) p7.o);dsimp only at a3;rw[<-p8.o]at a3;unfold ptr at a3;go_upto_region 18 with fail
      refine bh (by kernel_rfl) (λu9 m1=>?_);have c3:=ae m1;clear m1;refine dN [RK.val (f,0),.val (c,0),.val (c,0),.val (c,0),.val (c,56),.val s,.val (.agg #[u1,u2]),.val (c,0),.val (c,0),.val (c,11),.val (.slice la ln lc),.val (ln:Int),.val (.agg #[(ln:Int),(0:Int),(0:Int),(0:Int),(0:Int),(0:Int),(0:Int),(0:Int)]),.val (.agg #[(5:Int),(0:Int),(0:Int),u1,u2,(ln:Int),(0:Int),(0:Int),(0:Int),(0:Int),(0:Int),(0:Int),(0:Int),.slice dl 0 0])] [125,126,127,128,129,130,131,132,133,134,135,136,137,138] (by kernel_rfl) (λw9 hb=>?_) (λw9 hb=>?_)
      ·have X:=c3.o.t (hb.m c3.o.size);iterate 5 refine .run (by kernel_rfl) ?_
       refine jh (cZ X l3.o r8.o) (by kernel_rfl) ?_;refine mf (nR X s0 0 rfl) (by kernel_rfl) ?_;iterate 3 refine .run (by kernel_rfl) ?_
       refine jh (cZ X l3.o r7.o) (by kernel_rfl) ?_;iterate 3 refine .run (by kernel_rfl) ?_
       exact .nil
      have X:=c3.o.t (hb.m c3.o.size);refine mK rfl rfl (by kernel_rfl) ((a3.o w9 X).m λe w8 hh=>?_);obtain⟨t6,s4,rfl,o4,o0⟩:=hh;refine⟨_,rfl,?_⟩;have q8:=ae (show aW hH W f G i (M.mB i) w8 from⟨t6,{c2 with cz:=s4},by rw[p2.o];exact o4,j7.o,l4.o.t ((cG.below (j2.o.t (X.m j2.o.size))).t (o0.m (λt ht=>by rcases ht with rfl|rfl<;>decide)))⟩);clear o4 o0 X hb;simp only[eS,Act.put,aq,aF,aG];go_wp2_with fail
      first|refine mh rfl rfl ⟨rfl,?_⟩|refine jH rfl rfl ⟨rfl,?_⟩
      exact q8.o
set_option maxHeartbeats 400000
section
variable{L:List bk}{S:eN}{i:Nat}{M:aT}
theorem Nt{ks:List Int}(a:ks.Nodup)(h:∀k∈ks,0<=k/\k<5):ks.length<=5:=
 nB (L:=[0,1,2,3,4]) a (λk hk=>by
  have h1:=h k hk;have:k=0\/k=1\/k=2\/k=3\/k=4:=by omega
  rcases this with rfl|rfl|rfl|rfl|rfl<;>simp)
theorem fE.rO{n:dZ}(h:fE (·∈L) S i n):0<=n.iZ/\n.iZ<=n.D.length:=by
 have a:=h.tape;unfold yv at a;split at a
 ·obtain⟨c,-,h2,h3⟩:=a;rw[h2];split at h3
  ·rw[h3];omega
  ·obtain⟨b,h4,-⟩:=h3;rw[h4,aD];omega
 ·rw[a];omega
theorem fE.Nk(a:Fits (·∈L)){n:dZ}(h:fE (·∈L) S i n):sG n:=
 ⟨λs c hs=>⟨(h.known s c hs).1,(h.known s c hs).2.1,a.fit c (h.known s c hs).2.2.1⟩,h.ru⟩
theorem mq.Jy{r:eW}(h:mq (·∈L) S i r):r.prom.length<=5:=by
 have h1:=Nt h.keys (λk hk=>by
  obtain⟨p,hp,rfl⟩:=cH.1 hk;exact⟨(h.prom p hp).1,(h.prom p hp).2.1⟩)
 rwa[aY]at h1
theorem mq.Ns{r:eW}(h:mq (·∈L) S i r):IL r:=
 ⟨h.keys,h.tJ,λp hp=>⟨(h.aV p hp).1,(h.aV p hp).2.2.1,Nt (h.aV p hp).2.2.1 (λk hk=>⟨((h.aV p hp).2.2.2 k hk).1,((h.aV p hp).2.2.2 k hk).2.1⟩)⟩⟩
theorem At.Nr(b:Fits (·∈L))(h:At (·∈L) S i M)(hp:(M.nd i).cI=dl)(c:L.length<1000000000000)(d:M.cz.length<1000000000000)(f:M.told.length+(M.nd i).wait.length<1000000000000){l:dK}(hl:hU (·∈L) S l):Lj M i l:=by
 have a:=h.node;have hs:=a.rO;exact
  {cI:=hp
   kf:=a.kf h.up
   s0:=hs.1
   s1:=hs.2
   len:=a.len
   NG:=a.Nk b
   Ob:=λr hr=>(a.rg r hr).core.Ns
   told:=f
   cz:=d
   ja:=jk (nB a.ja.1 a.ja.2) c
   kind:=hl.kind
   k0:=hl.k0
   k2:=λe=>(hl.k2 e).1
   k3:=λe=>by
    rcases e with e|e
    ·have h1:=(hl.k3 e).1;exact⟨(uk h1).1,(uk h1).2,b.fit _ hl.q⟩
    ·exact⟨(hl.k6 e).1,(hl.k6 e).2.1,b.fit _ hl.q⟩}
theorem At.MQ(b:Fits (·∈L))(h:At (·∈L) S i M)(hp:(M.nd i).cI=dl)(d:M.cz.length+200<1000000000000){r:eW}(hr:(M.nd i).rg=de r):IA M i r:=by
 have a:=h.node;have hs:=a.rO;have hc:=(a.rg r hr).core;exact
  {cI:=hp
   kf:=a.kf h.up
   s0:=hs.1
   s1:=hs.2
   len:=a.len
   log:=a.ru
   known:=λs x hx=>b.fit _ (a.known s x hx).2.2.1
   ja:=λc hc=>b.fit _ (a.ja.2 c hc)
   bG:=hc.bG
   aV:=λl hl v hv=>by
    obtain⟨q,hq,e⟩:=hc.lP.1 (np.2 ⟨l,hl,hv⟩);exact((hc.prom q hq).2.2.2.1 v e).1
   dD:=λs x hx=>b.fit _ (hc.fit s x hx).2.2
   prom:=by have:=hc.Jy;omega
   cz:=d}
theorem fE.Nj{n:dZ}(hu:n.up=dE)(h:fE (·∈L) S i n):IJ n:=by
 have h1:=(h.ym hu).num;have h2:=h.heard.num;exact⟨⟨h1.1,h1.2.1⟩,⟨h2.1,h2.2.1⟩,λr hr=>by
  have h3:=tB.1 (h.rg r hr).core.bG;omega,λq hq a=>by
  obtain⟨r,k1,k2,k3⟩:=(h.cI q hq).hH a;exact⟨r,k1,k2⟩⟩
theorem fE.LO{n:dZ}(h:fE (·∈L) S i n):IJ n:=by
 cases hu:n.up with
 |true=>exact h.Nj hu
 |false=>
  rw[h.down hu];exact⟨⟨jZ 0,by show(0:Int)<=65536;decide⟩,⟨jZ 0,by show(0:Int)<=65536;decide⟩,λr hr=>(by cases hr),λq hq=>(by cases hq)⟩
end
theorem xF{P:Program}{w:ax}{b o:Nat}{u:bd}(hc:w.cell? (b,o)=de u)(a:w.frozen? (b,o)=dT):
  (store (b,o) .nilFunc).run P w= .ok () (w.setCell (b,o) .nilFunc):=by
 simp[store,go_sem,Sem.run,hc,a]
section
variable{hH:bI}{W:ax}{wb i:Nat}{G:Gh}{M:aT}
theorem zD{b:Nat}(h:hH b=(i,0))(o:Nat)(vs:List bd):cG hH W hH (W.setCells b o vs) (·=(i,0)):=by
 have a:=cY b vs o W;exact⟨a.2.2.1,a.2.1,a.2.2.2,by rw[a.1];exact ag _,λq hq c=>ep _ q (λe=>c (by rw[e];exact h)) vs o W,λ_ _=>rfl⟩
theorem dB.Jn(h:dB hH W wb G M)(hi:i<5)(D:List UInt8)(b:Int)(dv:bd)(hv:AL hH W dv D):
  ∃d,dB hH ((W.setCells (G.n i).b 2 [dv,b]).setCell ((G.n i).b,55) .nilFunc) wb d (M.aX i {M.nd i with D:=D,iZ:=b,cI:=dl})/\(∀j,(d.n j).b=(G.n j).b)/\(d.n i).rg=(G.n i).rg/\cG hH W hH ((W.setCells (G.n i).b 2 [dv,b]).setCell ((G.n i).b,55) .nilFunc) (·=(i,0)):=by
 have hq:=(h.nd i hi).pt;have l:=(h.nd i hi).tb;obtain⟨h1,-⟩:=h.fN hi (cG.refl hH W (λ_=>False)) (λt f=>f.elim) (λq hq=>h.hi q hq) {G.n i with mg:=dv} {M.nd i with D:=D,iZ:=b} rfl
  ⟨hq.kl,hq.kn,hq.tk,hv,hq.gO,hq.log,hq.ja,hq.mO,hq.jq,hq.rg,hq.lO⟩ 2 [dv,b] rfl
 have k1:cG hH W hH (W.setCells (G.n i).b 2 [dv,b]) (·=(i,0)):=zD l _ _;obtain⟨m,o⟩:=aK (W.setCells (G.n i).b 2 [dv,b]);rw[<-o]at h1 k1|-;have c:(({G with n:=λj=>if j=i then{G.n i with mg:=dv}else G.n j}:Gh).n i)={G.n i with mg:=dv}:=ar rfl;have a:=(h1.nd i hi).pt;have k:=(h1.nd i hi).pt.kl;rw[c,bf]at a;rw[bf]at k;obtain⟨h2,-⟩:=h1.fN hi (cG.refl hH m (λ_=>False)) (λt f=>f.elim) (λq hq=>h1.hi q hq) {G.n i with mg:=dv,lO:= .nilFunc} {M.nd i with D:=D,iZ:=b,cI:=dl} (by rw[c])
  ⟨a.kl,a.kn,a.tk,a.mg,a.gO,a.log,a.ja,a.mO,a.jq,a.rg,eO.nil rfl rfl⟩ 55 [.nilFunc] (by
   rw[c,bf];exact eY (i:=i) (g:={G.n i with mg:=dv}) (n:={M.nd i with D:=D,iZ:=b}) k {G.n i with mg:=dv,lO:= .nilFunc} {M.nd i with D:=D,iZ:=b,cI:=dl} rfl rfl 3 [.nilFunc] rfl)
 rw[c,eU]at h2;refine⟨_,h2,λj=>?_,?_,k1.t (zD l 55 [.nilFunc])⟩
 ·by_cases e:j=i
  ·subst e;show(if j=j then _ else _:GN).b=_;rw[ar rfl]
  ·show(if j=i then _ else(if j=i then _ else G.n j):GN).b=_;rw[ak e,ak e]
 ·show(if i=i then _ else _:GN).rg=_;rw[ar rfl]
def Dq(hH:bI)(W:ax)(wb i:Nat)(G:Gh)(M:aT)(q:Ds)(F:FuncId)(n:Nat)(dv:bd):Prop:=
 ∃a:List Nat,a.length=n/\(G.n i).lO= .func (.func F) #[] (a.map ptr).toArray/\
  bl ed F (a.map ptr).toArray ((W.setCells (G.n i).b 2 [dv,((M.nd i).D.length:Int)]).setCell ((G.n i).b,55) .nilFunc) λe b=>e= .returned (.tuple #[])/\aW hH W wb G i (M.iz i q) b
theorem dB.yX(h:dB hH W wb G M)(hi:i<5){q:Ds}(hq:(M.nd i).cI=de q)(v:q.tag=1\/q.tag=2\/q.tag=3)(H:M.cz.length<1000000000000)(hk:∀J,(M.nd i).rg=de J->(J.prom.map (·.1)).Nodup)(dv:bd)(hv:AL hH W dv (M.nd i).D):
  Dq hH W wb i G M q 101 3 dv\/Dq hH W wb i G M q 107 3 dv\/Dq hH W wb i G M q 108 4 dv:=by
 unfold Dq;obtain⟨L,o,g2,e2,k2⟩:=h.Jn hi (M.nd i).D ((M.nd i).D.length:Int) dv hv;obtain⟨O,F⟩:∃w,w=(W.setCells (G.n i).b 2 [dv,((M.nd i).D.length:Int)]).setCell ((G.n i).b,55) .nilFunc:=⟨_,rfl⟩
 rw[<-F]at o k2|-;clear F;obtain⟨c,f⟩:∃n,n={M.nd i with D:=(M.nd i).D,iZ:=((M.nd i).D.length:Int),cI:=dl}:=⟨_,rfl⟩
 rw[<-f]at o;have A:((M.aX i c).nd i).cI=dl:=by rw[bf,f]
 have b:Fair (·=(i,0)):=λt v e=>by rw[v]at e;dsimp only at e;omega
 have u:=(h.nd i hi).pt.lO;unfold eO at u;rw[hq]at u;dsimp only at u;obtain⟨x,nb,y,b1,v1,b2,h4⟩:=u;have c1:=b1.cB k2 b;have u1:=v1.cB k2 b;have s:=b2.cB k2 b;rw[<-g2 i]at s;have back:∀{e:Ending} {d:ax} {M':aT},(e= .returned (.tuple #[])/\aW hH O wb L i M' d)->e= .returned (.tuple #[])/\aW hH W wb G i M' d:=by
  rintro e d M' ⟨a,R,N,a1,a2,a3⟩;exact⟨a,R,N,a1,λj=>(a2 j).t (g2 j),(k2.m (λt v=>by rw[v];exact Nat.lt_succ_of_lt hi)).t a3⟩
 by_cases h3:q.tag=3
 ·rw[ar h3]at h4;obtain⟨K,S,r,B,f1,d1,C,d2,hc⟩:=h4;refine .inr (.inr ⟨[x,nb,K,S],rfl,f1,?_⟩);have hrg:((M.aX i c).nd i).rg=(M.nd i).rg:=by rw[bf,f]
  have h9:=DV o hi A B y q.l q.p q.bG c1 u1 s (d1.cB k2 b) (C.cB k2 b) (d2.cB k2 b) (by
   rw[hrg,e2];rcases hc with hc|⟨P,Q⟩
   ·exact .inl hc
   ·exact .inr ⟨P,Q.cB k2 (λm hm e=>by injection e with _ e;omega)⟩) (by rw[hrg];exact hk)
  refine kB h9 λe d k=>?_;have g:=back k;have e:M.iz i q=(M.aX i c).aX i {(M.aX i c).nd i with p:=q.p,l:=q.l,rg:=((M.aX i c).nd i).rg.map λr=>if r.bG=q.bG then{r with prom:=di r.prom (i:Int) q.l}else r}:=by
   unfold aT.iz;dsimp only;rw[ar h3,eU,bf,f]
  rw[e];exact g
 ·rw[ak h3]at h4;obtain⟨yI,U,T,l,I,d1,d2,E,h5⟩:=h4;by_cases h1:q.tag=1
  ·rw[ar h1]at h5;obtain⟨K,B,z,d3,C,d4,f1⟩:=h5;refine .inl ⟨[x,nb,yI],rfl,f1,?_⟩;have h9:=Ec o hi A H l I B y q.l q.l q.p c1 u1 (d1.cB k2 b) s (d2.cB k2 b) (d3.cB k2 b) (C.cB k2 b) (d4.cB k2 b);refine kB h9 λe d k=>?_;have g:=back k;have e:M.iz i q=((M.aX i c).aX i {(M.aX i c).nd i with p:=q.p,l:=q.l}).send i l.nK {dK.zero with kind:=1,bG:=l.bG,aV:=q.l}:=by
    unfold aT.iz;dsimp only;rw[ak h3,ar h1,eU,bf,f,E,z]
   rw[e];exact g
  ·rw[ak h1]at h5;obtain⟨z,d3,f1⟩:=h5;refine .inr (.inl ⟨[x,nb,yI],rfl,f1,?_⟩);have h9:=It o hi A H l I y q.l q.p c1 u1 (d1.cB k2 b) s (d2.cB k2 b) (d3.cB k2 b);refine kB h9 λe d k=>?_;have g:=back k;have e:M.iz i q=((M.aX i c).aX i {(M.aX i c).nd i with p:=q.p,l:=q.l}).send i l.nK {dK.zero with kind:=3,cP:=l.cP}:=by
    unfold aT.iz;dsimp only;rw[ak h3,ak h1,eU,bf,f,E,z]
   rw[e];exact g
end
set_option maxHeartbeats 1000000
theorem Hh{L:List bk}{S:eN}{hH:bI}{W:ax}{b i:Nat}{G:Gh}{M:aT}(f:Fits (·∈L))(c:At (·∈L) S i M)(hp:(M.nd i).cI=dl)(h:dB hH W b G M)(hi:i<5)(j:M.cz.length+300+L.length<1000000000000):
  bl ed 56 #[ptr b,ptr (G.n i).b] W λe d=>e= .returned (.tuple #[])/\aW hH W b G i (M.mB i) d:=by
 have a:=c.node;have hq:=nB a.ja.1 a.ja.2;have g:M.cz.length+200+(M.nd i).queue.length<1000000000000:=by omega
 exact Hi h hi hp a.fN a.ru g λr hrg _=>c.MQ f hp (by omega) hrg
theorem DM{hH:bI}{W:ax}{a i:Nat}{G:Gh}{M:aT}(h:dB hH W a G M)(hi:i<5)(hu:(M.nd i).up=dT):
  bl ed 32 #[ptr a,ptr (G.n i).b] W λe j=>e= .returned (.tuple #[])/\aW hH W a G i (M.step i) j:=by
 obtain⟨c,d⟩:=aK ((G.n i).b);have b:=(h.nd i hi).dM;rw[<-d]at b|-;have e1:W.cell? (c,1)=de (.bool dT):=(aR b 1).t (by show de (Value.bool (M.nd i).up)=_;rw[hu]);have f:M.step i=M:=by unfold aT.step;rw[if_neg (by rw[hu];decide)]
 have g:=ae (show aW hH W a G i (M.step i) W by rw[f];exact⟨hH,G,h,λ_=>rfl,cG.refl _ _ _⟩);show bl ed 32 #[.pointer (de ⟨a,0,dl⟩),.pointer (de ⟨c,0,dl⟩)] W _;clear h d b hu f;go_enter func32,ntmps32
 go_wp2_with fail
 first|refine mh rfl rfl ⟨rfl,?_⟩|refine jH rfl rfl ⟨rfl,?_⟩
 exact g.o
theorem pN{hH:bI}{W:ax}{r i:Nat}{G:Gh}{M:aT}(h:dB hH W r G M)(hi:i<5)(hu:(M.nd i).up=dE){q:Ds}(hq:(M.nd i).cI=de q){f:Nat}{k:Array bd}(O:f=101\/f=107\/f=108)(R:(G.n i).lO= .func (.func f) #[] k)(v:0<=(M.nd i).iZ)(x:(M.nd i).iZ<=(M.nd i).D.length)(K:(M.nd i).D.length<=100000)
  (hc:∀w dv,dd W.heap.size W w->AL hH w dv (M.nd i).D->bl ed f k ((w.setCells (G.n i).b 2 [dv,((M.nd i).D.length:Int)]).setCell ((G.n i).b,55) .nilFunc) λe s=>e= .returned (.tuple #[])/\aW hH w r G i (M.iz i q) s):
  bl ed 32 #[ptr r,ptr (G.n i).b] W λe s=>e= .returned (.tuple #[])/\aW hH W r G i (M.step i) s:=by
 have HF:=ae O;clear O;obtain⟨a,Q⟩:=aK ((G.n i).b);have d:=(h.nd i hi).dM;have S:=(h.nd i hi).pt.kl;have o:=(h.nd i hi).pt.mg;rw[<-Q]at d hc|-;obtain⟨H,I,n,-,-⟩:=id o.1.slice;obtain⟨c,m⟩:=aK ((M.nd i).D.length);rw[<-m]at n hc;rw[n]at o;obtain⟨V,y⟩:=aK ((M.nd i).iZ);rw[<-y]at v x;unfold ptr;have e1:W.cell? (a,1)=de (.bool dE):=(aR d 1).t (by show de (Value.bool (M.nd i).up)=_;rw[hu]);have e2:W.cell? (a,2)=de (.slice H c I):=(aR d 2).t (by show de (G.n i).mg=_;rw[n]);have e3:W.cell? (a,3)=V:=(aR d 3).t (by rw[y];rfl);have J:W.cell? (a,55)=de (.func (.func f) #[] k):=(aR d 55).t ((dj S 3).t (by show de (G.n i).lO=_;rw[R]));have T:M.step i=M.iz i q:=by unfold aT.step;rw[if_pos hu,hq]
 have a5:=Nf f k W;have z:=FR (.slice H c I) (M.nd i).D V W o.1 v x K;rw[<-m]at z;have HC:=ae hc;have a4:=ae z;have a3:=ae m;have g:=ae d;have HI:=ae h.hi;have Y:=ae e2;have Z:=ae e3;have a0:=ae J;rw[T];clear h Q d hu hq v x K S o n m y hc z R T;go_enter func32,ntmps32
 go_upto_region 3 with(go_at_call 54;refine a4.o.m ?_;rintro e D ⟨dv,rfl,u,l⟩;obtain⟨B,C,N,-,-⟩:=id u.rd.slice;rw[<-a3.o]at N;subst N;have b:=(l.block a (hF g.o)).t g.o;have x2:=(l.cell (p:=(a,2)) (hF g.o)).t Y.o;have x3:=(l.cell (p:=(a,3)) (hF g.o)).t Z.o;have xf:=aO b;have E:=ae l;have F:=ae u;have a1:=ae b;clear l u b)
 clear e1 e2 e3 J a5 x2 x3 xf;generalize L:World.setCell _ _ _=X;have A:X=D.setCells a 2 [.slice B c C,(c:Int)]:=L.symm;have b:=mR [.slice B c C,(c:Int)] _ 2 D a1.o;rw[<-A]at b;have f55:X.cell? (a,55)=de (.func (.func f) #[] k):=by
  refine(aR b 55).t ?_;show(((aN i (G.n i) (M.nd i)).set 2 _).set 3 _)[55]?=_;rw[List.getElem?_set_ne (by decide),List.getElem?_set_ne (by decide)];exact(aR g.o 55).symm.t a0.o
 have a6:=xF (P:=ed) f55 (aO b 55);have t:=HC.o D (.slice B c C) E.o ⟨F.o.rd,λ_ q hq=>HI.o q (F.o.lt q hq).1⟩;rw[<-A]at t;have a2:=ae t;clear t A b L;rcases HF.o with rfl|rfl|rfl;all_goals
  go_wp2_with ((first|go_at_call 101|go_at_call 107|go_at_call 108);refine a2.o.m ?_;rintro e w9 ⟨rfl,U⟩;have HT:=ae (U.pre (j:=i) E.o);clear U)
  first|refine mh rfl rfl ⟨rfl,?_⟩|refine jH rfl rfl ⟨rfl,?_⟩
  exact HT.o
theorem DL{hH:bI}{W:ax}{o i:Nat}{G:Gh}{M:aT}(h:dB hH W o G M)(hi:i<5)(hu:(M.nd i).up=dE){q:Ds}(hq:(M.nd i).cI=de q)(r:q.tag=1\/q.tag=2\/q.tag=3)(p:M.cz.length<1000000000000)(hk:∀s,(M.nd i).rg=de s->(s.prom.map (·.1)).Nodup)(m:0<=(M.nd i).iZ)(n:(M.nd i).iZ<=(M.nd i).D.length)(l:(M.nd i).D.length<=100000):
  bl ed 32 #[ptr o,ptr (G.n i).b] W λe t=>e= .returned (.tuple #[])/\aW hH W o G i (M.step i) t:=by
 have key:=λw dv (hb:dd W.heap.size W w) (hv:AL hH w dv (M.nd i).D)=>(h.below hb).yX hi hq r p hk dv hv;rcases h.yX hi hq r p hk (G.n i).mg (h.nd i hi).pt.mg with⟨f,hl,c,-⟩|⟨f,hl,c,-⟩|⟨f,hl,c,-⟩
 ·obtain⟨c0,c1,d,rfl⟩:∃c0 c1 d,f=[c0,c1,d]:=by
   match f,hl with
   |[c0,c1,d],_=>exact⟨_,_,_,rfl⟩
  refine pN h hi hu hq (.inl rfl) c m n l (λw dv hb hv=>?_);rcases key w dv hb hv with⟨g,j,a,b⟩|⟨g,j,a,b⟩|⟨g,j,a,b⟩
  ·have e:=c.symm.t a;injection e with e1 e2 e3;rw[<-e3]at b;exact b
  ·have e:=c.symm.t a;injection e with e1 e2 e3;injection e1 with e1;exact absurd e1 (by decide)
  ·have e:=c.symm.t a;injection e with e1 e2 e3;injection e1 with e1;exact absurd e1 (by decide)
 ·obtain⟨c0,c1,d,rfl⟩:∃c0 c1 d,f=[c0,c1,d]:=by
   match f,hl with
   |[c0,c1,d],_=>exact⟨_,_,_,rfl⟩
  refine pN h hi hu hq (.inr (.inl rfl)) c m n l (λw dv hb hv=>?_);rcases key w dv hb hv with⟨g,j,a,b⟩|⟨g,j,a,b⟩|⟨g,j,a,b⟩
  ·have e:=c.symm.t a;injection e with e1 e2 e3;injection e1 with e1;exact absurd e1 (by decide)
  ·have e:=c.symm.t a;injection e with e1 e2 e3;rw[<-e3]at b;exact b
  ·have e:=c.symm.t a;injection e with e1 e2 e3;injection e1 with e1;exact absurd e1 (by decide)
 ·obtain⟨c0,c1,d,k,rfl⟩:∃c0 c1 d k,f=[c0,c1,d,k]:=by
   match f,hl with
   |[c0,c1,d,k],_=>exact⟨_,_,_,_,rfl⟩
  refine pN h hi hu hq (.inr (.inr rfl)) c m n l (λw dv hb hv=>?_);rcases key w dv hb hv with⟨g,j,a,b⟩|⟨g,j,a,b⟩|⟨g,j,a,b⟩
  ·have e:=c.symm.t a;injection e with e1 e2 e3;injection e1 with e1;exact absurd e1 (by decide)
  ·have e:=c.symm.t a;injection e with e1 e2 e3;injection e1 with e1;exact absurd e1 (by decide)
  ·have e:=c.symm.t a;injection e with e1 e2 e3;rw[<-e3]at b;exact b
theorem ev.cell0{hH:bI}{tg:Nat×Nat}{t:TypeId}{sz:Nat}{W:ax}{v:bd}{n:Nat}{cs:List bd}(h:ev hH tg t sz W v n cs){a:Option Addr}{m c:Nat}(hv:v= .slice a m c)(e:0<n):∃b off,a=de ⟨b,off,dl⟩/\b<W.heap.size/\hH b=tg/\True:=by
 rcases h.2 with⟨-,h0⟩|⟨b,off,cap,d,h1,-,-,h2,h3,-⟩
 ·omega
 ·rw[hv]at h1;injection h1 with e1 e2 e3;exact⟨b,off,e1,hF h3,h2,trivial⟩
theorem jA.tail{hH:bI}{tg:Nat×Nat}{W:ax}{b off n cap:Nat}{l:dK}{ls:List dK}(h:jA hH tg W (.slice (b,off) n cap) (l::ls)):jA hH tg W (.slice (b,off+14) ls.length (cap-1)) ls:=by
 obtain⟨vs,h1,h2,h3⟩:=h
 match vs,h1 with
 |v::vs,h1=>
  have e:vs.length=ls.length:=by simpa using h1
  refine⟨vs,e,?_,λj hj=>by
   have h4:=h3 (j+1) (by simp;omega);simpa using h4⟩
  obtain⟨k1,k2⟩:=h2;have a:(bP l v).length=14:=rfl;refine⟨?_,.inr ?_⟩
  ·have:(List.zipWith bP (l::ls) (v::vs)).flatten.length=(bP l v).length+(List.zipWith bP ls vs).flatten.length:=by simp
   rw[this,a,aZ]at k1;omega
  ·rcases k2 with⟨k2,k3⟩|⟨b2,m,i,c,k2,k3,k4,f,k6,k,g⟩
   ·simp at k3
   ·injection k2 with e1 e2 e3;injection e1 with e1;injection e1 with e1 d;subst e1 e3 d;rw[aZ]at k3;refine⟨b,off+14,cap-1,c,rfl,by omega,by unfold maxLen at k4|-;omega,f,k6,?_,λj hj=>?_⟩
    ·have:(cap-1)*14=cap*14-14:=by omega
     omega
    ·have h9:=g (14+j) (by
      have:(List.zipWith bP (l::ls) (v::vs)).flatten.length=(bP l v).length+(List.zipWith bP ls vs).flatten.length:=by simp
      rw[this,a];omega)
     rw[eI,h9];show(bP l v++(List.zipWith bP ls vs).flatten)[14+j]?=_;rw[bF (by rw[a];omega),a,gA]
theorem jA.ML{hH:bI}{tg:Nat×Nat}{W:ax}{b off n cap:Nat}{l:dK}{ls:List dK}(h:jA hH tg W (.slice (b,off) n cap) (l::ls)):jA hH tg W (.slice (if cap=1 then de (b,off)else de (b,off+14)) ls.length (cap-1)) ls:=by
 by_cases hc:cap=1
 ·rw[ar hc];subst hc;obtain⟨vs,h1,⟨k1,k2⟩,h3⟩:=h;rcases k2 with⟨k2,k3⟩|⟨b2,i,e,c,k2,k3,k4,d,k6,f,g⟩
  ·simp at k3
  ·injection k2 with e1 e2 e3;injection e1 with e1;injection e1 with e1 a;subst e1 e3 a;rw[aZ]at k3;obtain rfl:ls=[]:=bq (by omega);exact⟨[],rfl,⟨rfl,.inr ⟨b,off,0,c,rfl,ag _,bX _,d,k6,by omega,λj hj=>absurd hj (by simp)⟩⟩,λj hj=>absurd hj (by simp)⟩
 ·rw[ak hc];exact h.tail
theorem dB.LY{hH:bI}{W:ax}{a i:Nat}{G:Gh}{M:aT}(h:dB hH W a G M)(hi:i<5){v:bd}{L:List dK}(b:jA hH (i,5) W v L):aW hH W a G i (M.aX i {M.nd i with inbox:=L}) (W.setCell ((G.n i).b,54) v):=by
 have hq:=(h.nd i hi).pt;exact h.jc hi (cG.refl hH W (λ_=>False)) (λt c=>c.elim) (λ_ _=>rfl) {G.n i with jq:=v} {M.nd i with inbox:=L} rfl
  ⟨hq.kl,hq.kn,hq.tk,hq.mg,hq.gO,hq.log,hq.ja,hq.mO,b,hq.rg,hq.lO⟩ 54 [v] (eY (i:=i) (g:=G.n i) (n:=M.nd i) (h.nd i hi).pt.kl {G.n i with jq:=v} {M.nd i with inbox:=L} rfl rfl 2 [v] rfl)
structure Mu(L:List bk)(S:eN)(hH:bI)(W:ax)(wb i:Nat)(G:Gh)(MF:aT)(k:Nat)(wr:ax):Prop where
 sJ:∃hO G' M',dB hO wr wb G' M'/\(∀j,(G'.n j).b=(G.n j).b)/\cG hH W hO wr (λt=>t.1<6)/\At (·∈L) S i M'/\M'.cz.length+(M'.nd i).inbox.length+300+L.length<1000000000000/\M'.told.length+(M'.nd i).wait.length<1000000000000/\(M'.nd i).inbox.length=k/\M'.serve k i=MF
theorem AU{L:List bk}{S:eN}{hH:bI}{W:ax}{B i:Nat}{G:Gh}{M:aT}(hQ:Fits (·∈L))(hA:At (·∈L) S i M)(h:dB hH W B G M)(hi:i<5)(hp:(M.nd i).cI=dl)(hf:M.cz.length+(M.nd i).inbox.length+300+L.length<1000000000000)(z:M.told.length+(M.nd i).wait.length<1000000000000):
  bl ed 32 #[ptr B,ptr (G.n i).b] W λe W'=>e= .returned (.tuple #[])/\aW hH W B G i (M.step i) W':=by
 obtain⟨K,b8⟩:=aK ((G.n i).b);have a6:=(h.nd i hi).dM;have J:=(h.nd i hi).pt.kl;rw[<-b8]at a6|-;have V:=h.lf hi hp;have e1:W.cell? (K,1)=de (.bool dE):=(aR a6 1).t (by show de (Value.bool (M.nd i).up)=_;rw[hA.up]);have a0:W.cell? (K,55)=de .nilFunc:=(aR a6 55).t ((dj J 3).t (by show de (G.n i).lO=_;rw[V]));have i0:=CZ W;obtain⟨D,b4⟩:=aK (M.serve (M.nd i).inbox.length i);have f3:M.step i=if(D.nd i).cI.isSome then D else D.mB i:=by
  unfold aT.step;rw[ar hA.up,hp];dsimp only;rw[<-b4]
 have e2:=ae f3;obtain⟨k0,c0⟩:=aK ((M.nd i).inbox.length);have e0:=ae (show Mu L S hH W B i G D k0 W from⟨hH,G,M,h,λ_=>rfl,cG.refl _ _ _,hA,hf,z,c0.symm,by rw[c0];exact b4.symm⟩);have a5:=ae b8;have HQ:=ae hQ;show bl ed 32 #[.pointer (de ⟨B,0,dl⟩),.pointer (de ⟨K,0,dl⟩)] W _;clear h b8 a6 J V b4 f3 c0 hA hf z hQ hp;go_enter func32,ntmps32
 go_wp2_with fail
 go_loopg [] k0 (λk wr=>Hid (Mu L S hH W B i G D k wr))
 case atStart=>exact e0
 case round=>
  clear e0 e1 a0 i0;obtain⟨w3,rfl⟩:=aK wr;obtain⟨f5,X,b,r1,g1,n1,a1,f1,t1,i1,s1⟩:=hrel.o.sJ;have N:=(r1.nd i hi).dM;have J:=(r1.nd i hi).pt.kl;have F:=(r1.nd i hi).pt.jq;rw[g1 i,<-a5.o]at N;obtain⟨vs,q1,q2,q3⟩:=id F;obtain⟨ia,ic,I,h3,j0⟩:=q2.shape;rw[i1]at I h3;have b3:w3.cell? (K,54)=de (.slice ia gk ic):=(aR N 54).t ((dj J 2).t (by show de (X.n i).jq=_;rw[I]));have a0:w3.cell? (K,55)=de (X.n i).lO:=(aR N 55).t ((dj J 3).t rfl);have a9:=ae N;have R1:=ae r1;have K1:=ae g1;have N1:=ae n1;have A1:=ae a1;have F1:=ae f1;have T1:=ae t1;have I1:=ae i1;have S1:=ae s1;have i7:=ae F;have i8:=ae I;have O:=(r1.nd i hi).pt.lO;cases hpd:(b.nd i).cI with
  |some q=>
   have a7:∃fn b0,(X.n i).lO= .func (.func fn) #[] b0:=by
    unfold eO at O;rw[hpd]at O;dsimp only at O;obtain⟨ab,nb,av,-,-,-,h4⟩:=O;split at h4
    ·obtain⟨vb,rb,r,vv,h5,-⟩:=h4;exact⟨_,_,h5⟩
    ·obtain⟨yI,j5,lb,l,lv,-,-,-,h5⟩:=h4;split at h5
     ·obtain⟨vb,vv,-,-,-,-,h6⟩:=h5;exact⟨_,_,h6⟩
     ·exact⟨_,_,h5.2.2⟩
   obtain⟨fn,b0,a7⟩:=a7;rw[a7]at a0;have e6:=Oe fn b0 w3;have a4:D=b:=by
    rw[<-s1];cases gk with
    |zero=>rfl
    |succ g=>unfold aT.serve;rw[hpd];rfl
   have HT:=ae (show aW hH W B G i (M.step i) w3 by
    rw[e2.o,a4,hpd];exact⟨f5,X,r1,g1,n1⟩)
   clear O hpd a7 a4 r1 g1 n1 a1 f1 t1 i1 s1 F I N J q1 q2 q3;by_cases hk:gk=0
   ·subst hk;go_wp2_with fail
    first|refine mh rfl rfl ⟨rfl,?_⟩|refine jH rfl rfl ⟨rfl,?_⟩
    exact HT.o
   ·have e8:(0:Int)<(gk:Int):=by omega
    clear hk;go_wp2_with fail
    first|refine mh rfl rfl ⟨rfl,?_⟩|refine jH rfl rfl ⟨rfl,?_⟩
    exact HT.o
  |none=>
   have V:(X.n i).lO= .nilFunc:=r1.lf hi hpd;rw[V]at a0;have e6:=JU w3;have c9:=ae hpd;by_cases hk:gk=0
   ·have a4:D=b:=by rw[<-s1,hk];rfl
    have b7:=λw (hb:dd w3.heap.size w3 w)=>Hh HQ.o a1 hpd (r1.below hb) hi (by omega);rw[g1 i,<-a5.o]at b7;have f7:=ae b7;have g6:=ae (show M.step i=b.mB i by rw[e2.o,a4,hpd];rfl);subst hk;clear O hpd V a4 r1 g1 n1 a1 f1 t1 i1 s1 F I N J q1 q2 q3 b7;go_wp2_with (go_at_call 56;refine(f7.o _ (aj _ _)).m ?_;rintro e w9 ⟨rfl,i5,G9,r9,g9,n9⟩;have HT:=ae (show aW hH W B G i (M.step i) w9 from⟨i5,G9,by rw[g6.o];exact r9,λj=>(g9 j).t (K1.o j),N1.o.t n9⟩);clear r9 g9 n9)
    first|refine mh rfl rfl ⟨rfl,?_⟩|refine jH rfl rfl ⟨rfl,?_⟩
    exact HT.o
   ·have e8:(0:Int)<(gk:Int):=by omega
    obtain⟨g,hg⟩:∃g,gk=g+1:=⟨gk-1,by omega⟩
    obtain⟨l,ls,a3⟩:∃l ls,(b.nd i).inbox=l::ls:=by
     cases e:(b.nd i).inbox with
     |nil=>rw[e]at i1;simp at i1;omega
     |cons l ls=>exact⟨l,ls,rfl⟩
    have c2:ls.length=g:=by rw[a3,aZ]at i1;omega
    rw[a3,I]at F;obtain⟨y,io,rfl,-,-,-⟩:=q2.cell0 I (by omega);obtain⟨lv,f2,e7,-,e5⟩:=F.at 0 (by simp);have c6:=F.ML;rw[c2]at c6;have n:∀q,q<14->w3.cell? (y,io+q)=(bP l lv)[q]?:=λq hq=>by
     have h9:=e5 q hq;rw[Nat.zero_mul,fI]at h9;exact h9
    have U:dG f5 w3 lv l.aV:=f2;obtain⟨la,ln,lc,rfl⟩:=U.1.shape;have f0:=(a1.node.jq l (by rw[a3];exact bO ..)).1;have i2:(b.aX i {b.nd i with inbox:=ls}).handle i l=(b.aX i {b.nd i with inbox:=ls}).handle i l:=rfl;have g4:=ae U;have g8:=ae (λw (hb:dd w3.heap.size w3 w)=>c6.cB (cG.below (T:=λ_=>False) hb) (λ_ h=>h.elim) id);have c8:=ae f0;have c7:=ae a3;have HG:=ae hg;have g0:=ae c2;have i6:=ae e7;have h2:(gk:Int)<=(ic:Int):=by omega
    obtain⟨l9,e9⟩:=aK l;obtain⟨lk,fr,ds,⟨b1,b2⟩,⟨s,⟨x1,x2⟩,⟨c1,Y,Z,c4,c5⟩⟩,vo⟩:=l;have i9:=ae e9;have d0:w3.cell? (y,io)=lk:=n 0 (by decide);have d1:w3.cell? (y,io+1)=fr:=n 1 (by decide);have d2:w3.cell? (y,io+2)=ds:=n 2 (by decide);have d3:w3.cell? (y,io+3)=b1:=n 3 (by decide);have d4:w3.cell? (y,io+4)=b2:=n 4 (by decide);have d5:w3.cell? (y,io+5)=s:=n 5 (by decide);have d6:w3.cell? (y,io+6)=x1:=n 6 (by decide);have d7:w3.cell? (y,io+7)=x2:=n 7 (by decide);have d8:w3.cell? (y,io+8)=c1:=n 8 (by decide);have d9:w3.cell? (y,io+9)=Y:=n 9 (by decide);have d10:w3.cell? (y,io+10)=Z:=n 10 (by decide);have d11:w3.cell? (y,io+11)=c4:=n 11 (by decide);have d12:w3.cell? (y,io+12)=c5:=n 12 (by decide);have d13:w3.cell? (y,io+13)=de (.slice la ln lc):=n 13 (by decide);clear O hpd V r1 g1 n1 a1 f1 t1 i1 s1 F I N J q1 q2 q3 e5 n f2 U c6 f0 a3 c2 i2 e9 e7 hk;go_upto_region 8 with fail
    generalize Q:World.alloc _ _=wA;have P:=ae (gv Q);obtain⟨b5,hb5⟩:=aK w3.heap.size;have X5:=ae (eZ Q hb5);have f6:=ae hb5;rw[<-hb5];clear Q hb5 a0 e6 d0 d1 d2 d3 d4 d5 d6 d7 d8 d9 d10 d11 d12 d13;have e4:=(P.o.block K (hF a9.o)).t a9.o;have b3:=cZ P.o (hF a9.o) b3;have ef:=aO e4;clear e4;go_upto_region 9 with fail
    generalize Q:World.setCell _ _ _=wB;have e3:=(R1.o.below P.o).LY hi (g8.o wA P.o);rw[K1.o i,<-a5.o,Q]at e3;obtain⟨i3,G2,r2,g2,n2⟩:=e3;have u:=n2.at X5.o (by rw[R1.o.hi b5 (by rw[f6.o];exact ag _)];decide);obtain⟨C,E⟩:∃m,m=b.aX i {b.nd i with inbox:=ls}:=⟨_,rfl⟩
    rw[<-E]at r2;have c3:(C.nd i).cI=dl:=by rw[E,bf];exact c9.o
    have b6:At (·∈L) S i C:=by
     have hN:=A1.o.node;rw[E];exact A1.o.set {hN with
      down:=λe=>by rw[show({b.nd i with inbox:=ls}:dZ).up=(b.nd i).up from rfl,A1.o.up]at e;cases e
      jq:=λx hx=>hN.jq x (by rw[c7.o];exact bw _ hx)} A1.o.up
    have h0:C.cz.length+g+1+300+L.length<1000000000000:=by
     have h1:=F1.o;rw[I1.o,HG.o]at h1;rw[E];show b.cz.length+_+_+_+_<_;omega
    have f4:C.told.length+(C.nd i).wait.length<1000000000000:=by
     rw[E,bf];exact T1.o
    have b9:(C.nd i).inbox.length=g:=by rw[E,bf];exact g0.o
    have U:=(g4.o.cB (cG.below (T:=λt=>t.1<6) P.o) (λt z e=>by have z:t.1<6:=z;omega)).cB n2 (λt z e=>by have z:t.1<6:=z;omega);have a8:=BL r2 hi ⟨lk,fr,ds,(b1,b2),⟨s,(x1,x2),⟨c1,Y,Z,c4,c5⟩⟩,vo⟩ la ln lc U (b6.Nr HQ.o c3 (by omega) (by omega) f4 c8.o);rw[g2 i,K1.o i,<-a5.o]at a8;obtain⟨M3,a2⟩:=aK (C.handle i ⟨lk,fr,ds,(b1,b2),⟨s,(x1,x2),⟨c1,Y,Z,c4,c5⟩⟩,vo⟩);rw[<-a2]at a8;have f9:=ae (show bl ed 55 #[.pointer (de ⟨B,0,dl⟩),.pointer (de ⟨K,0,dl⟩),.agg #[.int .i64 lk,.int .i64 fr,.int .i64 ds,.int .i64 b1,.int .i64 b2,.int .i64 s,.int .i64 x1,.int .i64 x2,.int .i64 c1,.int .i64 Y,.int .i64 Z,.int .i64 c4,.int .i64 c5,.slice la ln lc]] wB _ from a8);have R:=cJ.handle i C ⟨lk,fr,ds,(b1,b2),⟨s,(x1,x2),⟨c1,Y,Z,c4,c5⟩⟩,vo⟩;rw[<-a2]at R;have g7:=ae (λw9 (z:aW i3 wB B G2 i M3 w9)=>show Mu L S hH W B i G D g w9 from by
     obtain⟨i4,G3,r3,g3,n3⟩:=z;obtain⟨fl,fe,fn⟩:=R.cz;obtain⟨ts,ws,te,tk,tp⟩:=R.told;have h7:=dz List.length tk;have h8:=tp.length_eq;rw[aY,aY]at h7;rw[aD]at h8;refine⟨i4,G3,M3,r3,λj=>(g3 j).t ((g2 j).t (K1.o j)),(N1.o.t (cG.below P.o)).t (n2.t n3),by rw[a2];exact b6.handle HQ.o c3 c8.o,?_,?_,by rw[R.jq];exact b9,?_⟩
     ·rw[fe,aD,R.jq,b9];omega
     ·rw[te,aD];omega
     ·rw[<-S1.o,HG.o]
      conv=>rhs;unfold aT.serve
      rw[c9.o,c7.o,a2,E];rfl)
    have p0:=ej u 0 rfl;have p1:=ej u 1 rfl;have p2:=ej u 2 rfl;have p3:=ej u 3 rfl;have p4:=ej u 4 rfl;have p5:=ej u 5 rfl;have p6:=ej u 6 rfl;have p7:=ej u 7 rfl;have p8:=ej u 8 rfl;have p9:=ej u 9 rfl;have j1:=ej u 10 rfl;have j2:=ej u 11 rfl;have j3:=ej u 12 rfl;have j4:=ej u 13 rfl;have f8:=ae (show g<gk by have:=HG.o;omega);clear E a2 c3 b6 h0 f4 b9 U a8 R r2 g2 n2 u b3 ef Q hg e8 h2;go_wp2_with (go_at_call 55;refine f9.o.m ?_;rintro e w9 ⟨rfl,z⟩;have g5:=ae (g7.o _ z);clear z)
    all_goals (
     go_roundg g
     case measure=>exact f8.o
     case rel=>exact g5)
theorem FM{L:List bk}{S:eN}{hH:bI}{W:ax}{b i:Nat}{G:Gh}{M:aT}(g:Fits (·∈L))(c:eh (·∈L) S M)(h:dB hH W b G M)(hi:i<5)(hl:M.cU+300+L.length<1000000000000)(k:M.answers<1000000000000):
  bl ed 32 #[ptr b,ptr (G.n i).b] W λe d=>e= .returned (.tuple #[])/\aW hH W b G i (M.step i) d:=by
 have a:=c.nd i hi;have h1:=sY (λj=>(M.nd j).inbox.length) hi;have h2:=sY (λj=>(M.nd j).wait.length) hi;unfold aT.cU at hl;unfold aT.answers at k;cases hu:(M.nd i).up with
 |false=>exact DM h hi hu
 |true=>
  have f:At (·∈L) S i M:=⟨c,hi,hu⟩
  cases hp:(M.nd i).cI with
  |some q=>exact DL h hi hu hp (a.cI q hp).tag (by omega) (λl hr=>(a.rg l hr).core.keys) a.rO.1 a.rO.2 a.len
  |none=>exact AU g f h hi hp (by omega) (by omega)
def ir(hH:bI)(W:ax)(d:Nat)(M':aT)(a:ax):Prop:=∃b c,dB b a d c M'/\cG hH W b a (λt=>t.1<6)
theorem aW.oO{hH:bI}{W b:ax}{d i:Nat}{G:Gh}{M':aT}(h:aW hH W d G i M' b):ir hH W d M' b:=by
 obtain⟨f,e,a,-,c⟩:=h;exact⟨f,e,a,c⟩
theorem ir.pre{hH:bI}{W w b:ax}{d:Nat}{M':aT}(h:ir hH w d M' b)(hb:dd W.heap.size W w):ir hH W d M' b:=by
 obtain⟨f,e,a,c⟩:=h;exact⟨f,e,a,(cG.below (T:=λt=>t.1<6) hb).t c⟩
theorem EG{hH:bI}{W:ax}{a i:Nat}{G:Gh}{M M':aT}(h:dB hH W a G M)(hi:i<5)(C K:Int)(j:Option Addr)(l k:Nat)(F:∀w,dd W.heap.size W w->bl ed 30 #[ptr a,ptr (G.n i).b,.slice j l k] w λe s=>e= .returned (.tuple #[])/\aW hH w a G i M' s):
  bl ed 21 #[ptr a,.agg #[(1:Int),(i:Int),C,K,.slice j l k]] W λe s=>e= .returned (.tuple #[])/\ir hH W a M' s:=by
 obtain⟨D,v⟩:=aK ((G.n i).b);obtain⟨d,ro,o,y,H,I,x⟩:=h.nodeAt;have m:=x i hi;rw[<-v]at m;unfold ptr at m;have z:=h.dM;have i0:(0:Int)<=(i:Int):=by omega
 have i5:(i:Int)<5:=by omega
 have L:W.cell? (a,0)=de (.slice (d,ro) 5 o):=by rw[<-y];exact(aR z 0).t rfl
 have V:=ae h;have Q:=ae v;have R:=ae m;have A:=ae H;have Y:=ae I;have Z:=ae y;have X:=ae x;have T:=ae L;have B:=ae (hF z);clear h v m H I y x z L;show bl ed 21 #[.pointer (de ⟨a,0,dl⟩),.agg #[.int .i64 1,.int .i64 (i:Int),.int .i64 C,.int .i64 K,.slice j l k]] W _;go_enter func21,ntmps21
 go_upto_region 1 with fail
 generalize u:World.alloc _ _=q;obtain⟨N,n⟩:=aK W.heap.size;have t:=ae (eZ u n);have b:=ae (gv u);have a0:=ae n;rw[<-n];clear u n;have d0:=ej t.o 0 rfl;have O:=ae (show q.cell? (a,0)=de (.slice (d,ro) 5 o)from(b.o.cell (p:=(a,0)) B.o).t T.o);have P:=ae (show q.cell? (d,ro+i)=(D,0)from(b.o.cell (p:=(d,ro+i)) A.o).t R.o);have r:=ae (λf (hb:dd q.heap.size q f)=>F f (b.o.t (hb.m b.o.size)));rw[<-Q.o]at r;unfold ptr at r;clear F;go_upto_region 8 with fail
 refine bh (by kernel_rfl) (λa1 E=>?_);have g:=ae E;clear E d0;refine dN [RK.val (a,0),.val (a,0),.val (a,0),.val (a,0),.val (.slice (d,ro) 5 o),.val (N,1),.val (i:Int),.val (d,ro+i),.val (D,0),.val (N,4),.val (.slice j l k)] [59,60,61,62,63,64,65,66,67,68,69] (by kernel_rfl) (λf hb=>?_) (λf hb=>?_)
 ·have c:=g.o.t (hb.m g.o.size);iterate 4 refine .run (by kernel_rfl) ?_
  refine jh (cZ c (ai B.o b.o.size) O.o) (by kernel_rfl) ?_;refine .run (by kernel_rfl) ?_;refine jh (cA c t 1 rfl) (by kernel_rfl) ?_;refine LS ro 5 o i 1 (by kernel_rfl) (by omega) (by omega) ?_;refine jh (cZ c (ai A.o b.o.size) P.o) (by kernel_rfl) ?_;refine .run (by kernel_rfl) ?_;refine jh (cA c t 4 rfl) (by kernel_rfl) ?_;exact .nil
 have c:=g.o.t (hb.m g.o.size);refine mK rfl rfl (by kernel_rfl) ((r.o f c).m λe w8 U=>?_);obtain⟨rfl,J⟩:=U;refine⟨_,rfl,?_⟩;have S:=ae ((J.oO).pre (b.o.t (c.m b.o.size)));clear J c hb;simp only[eS,Act.put,aq,aF,aG];go_wp2_with fail
 first|refine mh rfl rfl ⟨rfl,?_⟩|refine jH rfl rfl ⟨rfl,?_⟩
 exact S.o
theorem JX{hH:bI}{W:ax}{a i:Nat}{G:Gh}{M M':aT}(h:dB hH W a G M)(hi:i<5)(z K:Int)(A:Option Addr)(C B:Nat)(F:∀w,dd W.heap.size W w->bl ed 31 #[ptr a,ptr (G.n i).b] w λe o=>e= .returned (.tuple #[])/\aW hH w a G i M' o):
  bl ed 21 #[ptr a,.agg #[(2:Int),(i:Int),z,K,.slice A C B]] W λe o=>e= .returned (.tuple #[])/\ir hH W a M' o:=by
 obtain⟨D,r⟩:=aK ((G.n i).b);obtain⟨d,ro,l,t,H,I,s⟩:=h.nodeAt;have j:=s i hi;rw[<-r]at j;unfold ptr at j;have u:=h.dM;have i0:(0:Int)<=(i:Int):=by omega
 have i5:(i:Int)<5:=by omega
 have L:W.cell? (a,0)=de (.slice (d,ro) 5 l):=by rw[<-t];exact(aR u 0).t rfl
 have V:=ae h;have P:=ae r;have Q:=ae j;have v:=ae H;have Y:=ae I;have Z:=ae t;have X:=ae s;have S:=ae L;have x:=ae (hF u);clear h r j H I t s u L;show bl ed 21 #[.pointer (de ⟨a,0,dl⟩),.agg #[.int .i64 2,.int .i64 (i:Int),.int .i64 z,.int .i64 K,.slice A C B]] W _;go_enter func21,ntmps21
 go_upto_region 1 with fail
 generalize q:World.alloc _ _=m;obtain⟨U,k⟩:=aK W.heap.size;have y:=ae (eZ q k);have b:=ae (gv q);have a0:=ae k;rw[<-k];clear q k;have d0:=ej y.o 0 rfl;have N:=ae (show m.cell? (a,0)=de (.slice (d,ro) 5 l)from(b.o.cell (p:=(a,0)) x.o).t S.o);have O:=ae (show m.cell? (d,ro+i)=(D,0)from(b.o.cell (p:=(d,ro+i)) v.o).t Q.o);have n:=ae (λf (hb:dd m.heap.size m f)=>F f (b.o.t (hb.m b.o.size)));rw[<-P.o]at n;unfold ptr at n;clear F;go_upto_region 10 with fail
 refine bh (by kernel_rfl) (λa1 E=>?_);have g:=ae E;clear E d0;refine dN [RK.val (a,0),.val (a,0),.val (a,0),.val (a,0),.val (.slice (d,ro) 5 l),.val (U,1),.val (i:Int),.val (d,ro+i),.val (D,0)] [73,74,75,76,77,78,79,80,81] (by kernel_rfl) (λf hb=>?_) (λf hb=>?_)
 ·have c:=g.o.t (hb.m g.o.size);iterate 4 refine .run (by kernel_rfl) ?_
  refine jh (cZ c (ai x.o b.o.size) N.o) (by kernel_rfl) ?_;refine .run (by kernel_rfl) ?_;refine jh (cA c y 1 rfl) (by kernel_rfl) ?_;refine LS ro 5 l i 1 (by kernel_rfl) (by omega) (by omega) ?_;refine jh (cZ c (ai v.o b.o.size) O.o) (by kernel_rfl) ?_;exact .nil
 have c:=g.o.t (hb.m g.o.size);refine mK rfl rfl (by kernel_rfl) ((n.o f c).m λe w8 T=>?_);obtain⟨rfl,J⟩:=T;refine⟨_,rfl,?_⟩;have R:=ae ((J.oO).pre (b.o.t (c.m b.o.size)));clear J c hb;simp only[eS,Act.put,aq,aF,aG];go_wp2_with fail
 first|refine mh rfl rfl ⟨rfl,?_⟩|refine jH rfl rfl ⟨rfl,?_⟩
 exact R.o
theorem JV{hH:bI}{W:ax}{a i:Nat}{G:Gh}{M M':aT}(h:dB hH W a G M)(hi:i<5)(z K:Int)(A:Option Addr)(C B:Nat)(F:∀w,dd W.heap.size W w->bl ed 32 #[ptr a,ptr (G.n i).b] w λe o=>e= .returned (.tuple #[])/\aW hH w a G i M' o):
  bl ed 21 #[ptr a,.agg #[(3:Int),(i:Int),z,K,.slice A C B]] W λe o=>e= .returned (.tuple #[])/\ir hH W a M' o:=by
 obtain⟨D,r⟩:=aK ((G.n i).b);obtain⟨d,ro,l,t,H,I,s⟩:=h.nodeAt;have j:=s i hi;rw[<-r]at j;unfold ptr at j;have u:=h.dM;have i0:(0:Int)<=(i:Int):=by omega
 have i5:(i:Int)<5:=by omega
 have L:W.cell? (a,0)=de (.slice (d,ro) 5 l):=by rw[<-t];exact(aR u 0).t rfl
 have V:=ae h;have P:=ae r;have Q:=ae j;have v:=ae H;have Y:=ae I;have Z:=ae t;have X:=ae s;have S:=ae L;have x:=ae (hF u);clear h r j H I t s u L;show bl ed 21 #[.pointer (de ⟨a,0,dl⟩),.agg #[.int .i64 3,.int .i64 (i:Int),.int .i64 z,.int .i64 K,.slice A C B]] W _;go_enter func21,ntmps21
 go_upto_region 1 with fail
 generalize q:World.alloc _ _=m;obtain⟨U,k⟩:=aK W.heap.size;have y:=ae (eZ q k);have b:=ae (gv q);have a0:=ae k;rw[<-k];clear q k;have d0:=ej y.o 0 rfl;have N:=ae (show m.cell? (a,0)=de (.slice (d,ro) 5 l)from(b.o.cell (p:=(a,0)) x.o).t S.o);have O:=ae (show m.cell? (d,ro+i)=(D,0)from(b.o.cell (p:=(d,ro+i)) v.o).t Q.o);have n:=ae (λf (hb:dd m.heap.size m f)=>F f (b.o.t (hb.m b.o.size)));rw[<-P.o]at n;unfold ptr at n;clear F;go_upto_region 12 with fail
 refine bh (by kernel_rfl) (λa1 E=>?_);have g:=ae E;clear E d0;refine dN [RK.val (a,0),.val (a,0),.val (a,0),.val (a,0),.val (.slice (d,ro) 5 l),.val (U,1),.val (i:Int),.val (d,ro+i),.val (D,0)] [85,86,87,88,89,90,91,92,93] (by kernel_rfl) (λf hb=>?_) (λf hb=>?_)
 ·have c:=g.o.t (hb.m g.o.size);iterate 4 refine .run (by kernel_rfl) ?_
  refine jh (cZ c (ai x.o b.o.size) N.o) (by kernel_rfl) ?_;refine .run (by kernel_rfl) ?_;refine jh (cA c y 1 rfl) (by kernel_rfl) ?_;refine LS ro 5 l i 1 (by kernel_rfl) (by omega) (by omega) ?_;refine jh (cZ c (ai v.o b.o.size) O.o) (by kernel_rfl) ?_;exact .nil
 have c:=g.o.t (hb.m g.o.size);refine mK rfl rfl (by kernel_rfl) ((n.o f c).m λe w8 T=>?_);obtain⟨rfl,J⟩:=T;refine⟨_,rfl,?_⟩;have R:=ae ((J.oO).pre (b.o.t (c.m b.o.size)));clear J c hb;simp only[eS,Act.put,aq,aF,aG];go_wp2_with fail
 first|refine mh rfl rfl ⟨rfl,?_⟩|refine jH rfl rfl ⟨rfl,?_⟩
 exact R.o
theorem Hl{hH:bI}{W:ax}{a:Nat}{G:Gh}{M M':aT}(p:Int)(c o:Int)(j:Option Addr)(l k:Nat)(m:∀w,dd W.heap.size W w->bl ed 33 #[ptr a,c,.bool dE,.bool dT] w λe b=>e= .returned (.tuple #[])/\ir hH w a M' b):
  bl ed 21 #[ptr a,.agg #[(4:Int),p,c,o,.slice j l k]] W λe b=>e= .returned (.tuple #[])/\ir hH W a M' b:=by
 have h:=ae m;unfold ptr at h;clear m;show bl ed 21 #[.pointer (de ⟨a,0,dl⟩),.agg #[.int .i64 4,.int .i64 p,.int .i64 c,.int .i64 o,.slice j l k]] W _;go_enter func21,ntmps21
 go_upto_region 1 with fail
 generalize d:World.alloc _ _=r;obtain⟨t,f⟩:=aK W.heap.size;have i:=ae (eZ d f);have g:=ae (gv d);rw[<-f];clear d f;have d0:=ej i.o 0 rfl;have d2:=ej i.o 2 rfl;go_wp2_with (go_at_call 33;refine(h.o _ g.o).m ?_;rintro e s ⟨rfl,n⟩;have q:=ae (n.pre g.o);clear n)
 first|refine mh rfl rfl ⟨rfl,?_⟩|refine jH rfl rfl ⟨rfl,?_⟩
 exact q.o
theorem JW{hH:bI}{W:ax}{a:Nat}{G:Gh}{M M':aT}(p:Int)(c o:Int)(j:Option Addr)(l k:Nat)(m:∀w,dd W.heap.size W w->bl ed 33 #[ptr a,c,.bool dT,.bool dT] w λe b=>e= .returned (.tuple #[])/\ir hH w a M' b):
  bl ed 21 #[ptr a,.agg #[(5:Int),p,c,o,.slice j l k]] W λe b=>e= .returned (.tuple #[])/\ir hH W a M' b:=by
 have h:=ae m;unfold ptr at h;clear m;show bl ed 21 #[.pointer (de ⟨a,0,dl⟩),.agg #[.int .i64 5,.int .i64 p,.int .i64 c,.int .i64 o,.slice j l k]] W _;go_enter func21,ntmps21
 go_upto_region 1 with fail
 generalize d:World.alloc _ _=r;obtain⟨t,f⟩:=aK W.heap.size;have i:=ae (eZ d f);have g:=ae (gv d);rw[<-f];clear d f;have d0:=ej i.o 0 rfl;have d2:=ej i.o 2 rfl;go_wp2_with (go_at_call 33;refine(h.o _ g.o).m ?_;rintro e s ⟨rfl,n⟩;have q:=ae (n.pre g.o);clear n)
 first|refine mh rfl rfl ⟨rfl,?_⟩|refine jH rfl rfl ⟨rfl,?_⟩
 exact q.o
theorem EJ{hH:bI}{W:ax}{a:Nat}{G:Gh}{M M':aT}(p:Int)(c o:Int)(j:Option Addr)(l k:Nat)(m:∀w,dd W.heap.size W w->bl ed 33 #[ptr a,c,.bool dE,.bool dE] w λe b=>e= .returned (.tuple #[])/\ir hH w a M' b):
  bl ed 21 #[ptr a,.agg #[(6:Int),p,c,o,.slice j l k]] W λe b=>e= .returned (.tuple #[])/\ir hH W a M' b:=by
 have h:=ae m;unfold ptr at h;clear m;show bl ed 21 #[.pointer (de ⟨a,0,dl⟩),.agg #[.int .i64 6,.int .i64 p,.int .i64 c,.int .i64 o,.slice j l k]] W _;go_enter func21,ntmps21
 go_upto_region 1 with fail
 generalize d:World.alloc _ _=r;obtain⟨t,f⟩:=aK W.heap.size;have i:=ae (eZ d f);have g:=ae (gv d);rw[<-f];clear d f;have d0:=ej i.o 0 rfl;have d2:=ej i.o 2 rfl;go_wp2_with (go_at_call 33;refine(h.o _ g.o).m ?_;rintro e s ⟨rfl,n⟩;have q:=ae (n.pre g.o);clear n)
 first|refine mh rfl rfl ⟨rfl,?_⟩|refine jH rfl rfl ⟨rfl,?_⟩
 exact q.o
structure Mz(hH:bI)(W:ax)(wb:Nat)(M':aT)(wr:ax):Prop where
 sJ:∃hO G',dB hO wr wb G' M'/\cG hH W hO wr (λt=>t.1<5)
def kw(M:aT)(m:Nat):aT:=(M.cz.take m).foldl (λM l=>M.jG l) {M with cz:=[]}
theorem Aj(M:aT){m:Nat}(hm:m<M.cz.length):kw M (m+1)=(kw M m).jG (M.cz.getD m dK.zero):=by
 unfold kw;rw[eA,iw,au,aC hm];rfl
theorem Ia(M:aT)(l:dK)(j:Nat):((M.jG l).nd j).inbox.length<=(M.nd j).inbox.length+1:=by
 unfold aT.jG;split
 ·by_cases e:j=l.dst.toNat
  ·rw[e,bf];simp
  ·rw[iB M _ e];omega
 ·omega
theorem Cf(M:aT)(m:Nat)(j:Nat):((kw M m).nd j).inbox.length<=(M.nd j).inbox.length+m:=by
 unfold kw;have h:∀(l:List dK) (M:aT),((l.foldl (λM l=>M.jG l) M).nd j).inbox.length<=(M.nd j).inbox.length+l.length:=by
  intro l;induction l with
  |nil=>intro M;exact ag _
  |cons x l a=>
   intro M;rw[dH,aZ];have h1:=a (M.jG x);have h2:=Ia M x j;omega
 have h1:=h (M.cz.take m) {M with cz:=[]};rw[aM]at h1;have h2:(({M with cz:=[]}:aT).nd j).inbox.length=(M.nd j).inbox.length:=rfl;omega
theorem dB.Ma{hH:bI}{W:ax}{a:Nat}{G:Gh}{M:aT}(h:dB hH W a G M):dB hH (W.setCell (a,1) (.slice dl 0 0)) a {G with cz:= .slice dl 0 0} {M with cz:=[]}/\cG hH W hH (W.setCell (a,1) (.slice dl 0 0)) (·=(5,0)):=by
 have k:cG hH W hH (W.setCell (a,1) (.slice dl 0 0)) (·=(5,0)):=
  ⟨rfl,rfl,rfl,by simp[World.setCell],λq hq c=>aA _ _ (λe=>c (by rw[e];exact h.tw)),λ_ _=>rfl⟩
 have b:Fair (·=(5,0)):=λt d e=>by rw[d]at e;cases e
 refine⟨⟨?_,h.tw,h.nodes.cB k (by intro e;cases e),⟨[],rfl,ev.nil _ _ _ _ _,λj hj=>absurd hj (by simp)⟩,h.told.cB k (by intro e;cases e),λj hj=>(h.nd j hj).cB k b (λm e=>by injection e with e _;omega),λq hq=>h.hi q (by simpa[World.setCell]using hq),Kn.cB h.kn k b,Nd.cB h.ne k b⟩,k⟩;rw[aB h.dM];show de (Obj.cells ((jw G M).toArray.setIfInBounds 1 _) _ _)=_;rw[aq];rfl
theorem Mc{hH:bI}{W:ax}{f:Nat}{G:Gh}{M:aT}(h:dB hH W f G M)(nn V kp:Int)(da:Option Addr)(dn dc:Nat)(hd:∀l∈M.cz,0<=l.dst/\l.dst<5)(a2:∀j,j<5->(M.nd j).inbox.length+M.cz.length<1000000000000):
  bl ed 21 #[ptr f,.agg #[(7:Int),nn,V,kp,.slice da dn dc]] W λe W'=>e= .returned (.tuple #[])/\ir hH W f M.sO W':=by
 obtain⟨fa,fn,q,C⟩:=h.cz.shape;have J:=h.dM;have a5:W.cell? (f,1)=de (.slice fa fn q):=(aR J 1).t (by show de G.cz=_;rw[C]);have hfl:=h.cz;rw[C]at hfl;have a1:fn=M.cz.length/\fn<=q/\q<=9223372036854775807:=by
  obtain⟨vs,h1,h2,h3⟩:=hfl;obtain⟨a',c',e,h5,h6⟩:=h2.shape;injection e with _ e e3;have:c'<=9223372036854775807:=h6;exact⟨e,by omega,by omega⟩
 have HR:=ae h;have a7:=ae hfl;have z:=ae a1;have HD:=ae hd;have a9:=ae a2;have b8:=ae a5;have b5:=ae (hF J);have c6:(fn:Int)<=(q:Int):=by omega
 clear h J hfl C a1 hd a2 a5;show bl ed 21 #[.pointer (de ⟨f,0,dl⟩),.agg #[.int .i64 7,.int .i64 nn,.int .i64 V,.int .i64 kp,.slice da dn dc]] W _;go_enter func21,ntmps21
 go_upto_region 1 with fail
 generalize i:World.alloc _ _=w1;obtain⟨x3,K⟩:=aK W.heap.size;have X3:=ae (eZ i K);have p:=ae (gv i);rw[<-K];clear i K;have d0:=ej X3.o 0 rfl;have U:=ae (HR.o.below p.o);have c1:=cZ p.o b5.o b8.o;have cf:=aO U.o.dM;go_upto_region 20 with fail
 generalize i:World.setCell _ _ _=x;obtain⟨O,u⟩:=U.o.Ma;rw[i]at O u;have R2:=ae O;have a8:=ae ((a7.o.cB (cG.below (T:=λ_=>False) p.o) (λ_ h=>h.elim) id).cB u (λt a e=>by rw[a]at e;cases e) (by intro e;cases e));have N2:=ae ((cG.below (T:=λt=>t.1<6) p.o).t (u.m (λt a=>by rw[a];decide)));clear O u i c1 cf d0;have S:=ae (show Mz hH x f (kw M 0) x from⟨hH,_,R2.o,cG.refl _ _ _⟩);go_wp2_with fail
 go_loopg [120] fn (λk c4 wr=>∃m:Nat,m+k=fn/\c4= .int .i64 m/\Hid (Mz hH x f (kw M m) wr))
 case atStart=>exact⟨0,by omega,rfl,S⟩
 case round=>
  clear S;obtain⟨m,hmk,rfl,A⟩:=hrel;obtain⟨w3,rfl⟩:=aK wr;by_cases hlt:¬(m:Int)<(fn:Int)
  ·have hm:m=fn:=by omega
   subst hm;have HT:=ae (show ir hH W f M.sO w3 by
    obtain⟨v,y,r,n⟩:=A.o.sJ;refine⟨v,y,?_,N2.o.t (n.m (λt a=>by have a:t.1<5:=a;show t.1<6;omega))⟩;have e:kw M m=M.sO:=by
     unfold kw aT.sO;rw[z.o.1,dV]
    rw[<-e];exact r)
   clear hlt hmk;go_wp2_with fail
   first|refine mh rfl rfl ⟨rfl,?_⟩|refine jH rfl rfl ⟨rfl,?_⟩
   exact HT.o
  ·replace hlt:=cN hlt;have c8:m<fn:=by omega
   have H:m<M.cz.length:=by have:=z.o.1;omega
   obtain⟨v,y,r,n⟩:=A.o.sJ;have I:=a8.o.cB n (λt a e=>by have a:t.1<5:=a;omega) (by show¬(5<5);omega);obtain⟨vs,q1,q2,q3⟩:=id I;obtain⟨d,io,rfl,-,-,-⟩:=q2.cell0 rfl (by omega);obtain⟨lv,E,c0,-,b⟩:=I.at m H;obtain⟨l,hl⟩:=aK (M.cz.getD m dK.zero);rw[<-hl]at E b;have F:dG v w3 lv l.aV:=E;obtain⟨L,ln,N,rfl⟩:=F.1.shape;have a4:l∈M.cz:=by rw[hl];exact oX H
   have b9:=HD.o l a4;obtain⟨o,a3⟩:∃j:Nat,l.dst=(j:Int):=⟨l.dst.toNat,by omega⟩
   have D:o<5:=by omega
   have a0:=λw (hb:dd w3.heap.size w3 w)=>wX (r.below hb) D l a3 (.slice L ln N) (F.cB (cG.below (T:=λ_=>False) hb) (λ_ h=>h.elim)) (by
    have h1:=Cf M m o;have h2:=a9.o o D;omega)
   have b3:=ae (show kw M (m+1)=(kw M m).jG l by rw[Aj M H,<-hl]);obtain⟨g,hg⟩:∃g,gk=g+1:=⟨gk-1,by omega⟩
   have R:=ae (show g<gk/\(m+1)+g=fn from⟨by omega,by omega⟩);have c7:(0:Int)<=(m:Int):=by omega
   have b4:=ae (show Value.int .i64 (wrap64 ((m:Int)+1))= .int .i64 ((m+1:Nat):Int) by
    have h1:=z.o;rw[show wrap64 ((m:Int)+1)=((m+1:Nat):Int) by unfold wrap64;omega])
   have b7:=ae (λw (hb:dd w3.heap.size w3 w) P (a:Iw v w f y o ((kw M m).jG l) P)=>show Mz hH x f (kw M (m+1)) P from by
    obtain⟨c3,G4,t1,-,t3⟩:=a;rw[b3.o];exact⟨c3,G4,t1,n.t ((cG.below hb).t (t3.m (λt a=>by have a:t.1=o:=a;show t.1<5;omega)))⟩)
   obtain⟨l9,c2⟩:=aK l;obtain⟨lk,fr,ds,⟨b1,b2⟩,⟨s,⟨x1,x2⟩,⟨c1,X,Y,Z,c5⟩⟩,vo⟩:=l;have a6:=ae (show∀w (hb:dd w3.heap.size w3 w),bl ed 34 #[(f,0),.agg #[lk,fr,ds,b1,b2,s,x1,x2,c1,X,Y,Z,c5,.slice L ln N]] w _ from a0);have d0:w3.cell? (d,io+m*14)=lk:=b 0 (by decide);have d1:w3.cell? (d,io+m*14+1)=fr:=b 1 (by decide);have d2:w3.cell? (d,io+m*14+2)=ds:=b 2 (by decide);have d3:w3.cell? (d,io+m*14+3)=b1:=b 3 (by decide);have d4:w3.cell? (d,io+m*14+4)=b2:=b 4 (by decide);have d5:w3.cell? (d,io+m*14+5)=s:=b 5 (by decide);have d6:w3.cell? (d,io+m*14+6)=x1:=b 6 (by decide);have d7:w3.cell? (d,io+m*14+7)=x2:=b 7 (by decide);have d8:w3.cell? (d,io+m*14+8)=c1:=b 8 (by decide);have d9:w3.cell? (d,io+m*14+9)=X:=b 9 (by decide);have d10:w3.cell? (d,io+m*14+10)=Y:=b 10 (by decide);have d11:w3.cell? (d,io+m*14+11)=Z:=b 11 (by decide);have d12:w3.cell? (d,io+m*14+12)=c5:=b 12 (by decide);have d13:w3.cell? (d,io+m*14+13)=de (.slice L ln N):=b 13 (by decide);clear I q1 q2 q3 E c0 b hl F a4 b9 a3 D a0 hg hmk r n A c2;go_upto_region 23 with fail
   generalize i:World.alloc _ _=wA;have Q:=ae (gv i);obtain⟨b6,B⟩:=aK w3.heap.size;have c:=ae (eZ i B);rw[<-B];clear i B d0 d1 d2 d3 d4 d5 d6 d7 d8 d9 d10 d11 d12 d13;have p0:=ej c.o 0 rfl;have p1:=ej c.o 1 rfl;have p2:=ej c.o 2 rfl;have p3:=ej c.o 3 rfl;have p4:=ej c.o 4 rfl;have p5:=ej c.o 5 rfl;have p6:=ej c.o 6 rfl;have p7:=ej c.o 7 rfl;have p8:=ej c.o 8 rfl;have p9:=ej c.o 9 rfl;have c9:=ej c.o 10 rfl;have e0:=ej c.o 11 rfl;have e1:=ej c.o 12 rfl;have e2:=ej c.o 13 rfl;go_wp2_with (go_at_call 34;refine(a6.o wA Q.o).m ?_;rintro e P ⟨rfl,a⟩;have b0:=ae (b7.o wA Q.o _ a);clear a)
   go_roundg g
   ·exact⟨m+1,R.o.2,b4.o,b0.o⟩
   ·exact R.o.1
end Go.Proofs.YtcdmenphjilnnaaGreatDoor
