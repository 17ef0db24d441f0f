/- journal: the card of JournalSame: what is scanned leads to what its records are stepped to; opened anew a journal goes on as if it had not been. -/
import Derived.Test.YtiohehjhlghikaaGreatDoorJgPVC8
import Derived.Test.YtiohehjhlghikaaGreatDoorCards
import Derived.Test.YtiohehjhlghikaaGreatDoorTie
import Derived.WalkKit
import Derived.ProofKit
import Derived.Lay
import Derived.SevenTiedAt
set_option linter.all false
set_option maxRecDepth 100000
open Go.Instr (loadAt fieldAt indexAt extract buildSlice build)
namespace Go.Proofs.YtiohehjhlghikaaGreatDoor
section
open Go
def aHz(g:Int)(s:Tx):(fB g (0,s)).1.length≤255:=by
 cases s with
 | nil=>rw[aFp];exact lA _
 | cons b t=>
  rw[aLo];have:=aJu g b.toNat (0,t) [];have hb:=b.toNat_lt;simp only[kW,iP] at this;show(if _ then _ else _:List (Int×Pk)).length≤255;split
  ·omega
  ·exact lA _
def aWg(a:Int)(p:Pk):cC PG (build cE #[(1,.int .i64 a),(0,.agg p.cells.toArray)])=some (.agg (It.of (a,p)).cells.toArray):=by kernel_rfl
def aWe(x:It):jT PG (buildSlice bY 1 #[(0,.agg x.cells.toArray)])=some (.cells x.cells.toArray cE,λr=>pure (.slice (some ⟨r,0,none⟩) 1 1)):=by kernel_rfl
def aN9{h:PH}(s:Tx)(hs:s.length≤1000000){k:cF}
  (hk:∀h' v G,eD h' cE 5 v (((fB 2 (0,s)).1.map It.of).map It.cells) G->dX h G->cX h h'->((fB 2 (0,s)).2.1=0->(fB 2 (0,s)).2.2.length≤s.length∧(fB 2 (0,s)).2.2=s.drop (s.length-(fB 2 (0,s)).2.2.length))->
   k (.tuple #[v,.int .i64 (if (fB 2 (0,s)).2.1=0 then((s.length-(fB 2 (0,s)).2.2.length:Nat):Int) else 0),.int .i64 (fB 2 (0,s)).2.1]) h'):bW PG xL #[.string (tx s)] h k:=by
 apply oP.call;unfold oP;refine aPt s 2 hs λh1 vk vp Gk Gp Ok Op fk fp w hf=>?_;obtain⟨L,hL⟩:∃L,(fB 2 (0,s)).1=L:=⟨_,rfl⟩;have hlen:(fB 2 (0,s)).1.length≤255:=aHz 2 s;rw[show(fB ((2:Nat):Int) (0,s))=fB 2 (0,s) from rfl] at Ok Op hf ⊢;rw[hL] at Ok Op hk hlen;have lp:cC PG (Builtin.len_ #[gW] aR #[vp])=some (.int .i64 (L.length:Int)):=by
  have:=Op.slR.len (t':=aR) gW.und;rw[iF] at this;exact this
 simp only[cD,reduceIte,cJ,Nat.reduceAdd];obtain⟨nv,hnv⟩:∃nv:Value,nv= .int .i64 (if (fB 2 (0,s)).2.1=0 then((s.length-(fB 2 (0,s)).2.2.length:Nat):Int) else 0):=⟨_,rfl⟩;obtain⟨ev,hev⟩:∃ev:Value,ev= .int .i64 (fB 2 (0,s)).2.1:=⟨_,rfl⟩;rw[←hnv,←hev] at hk ⊢;refine⟨λvs h'=>∃(i:Nat) (v:Value) (G:List Nat),i≤L.length∧vs=[vk,vp,nv,ev,v,.int .i64 (i:Int)]∧eD h' cE 5 v (((L.take i).map It.of).map It.cells) G∧dX h G∧(∀b∈Gk,b∉G)∧(∀b∈Gp,b∉G)∧eD h' aR 1 vk (L.map kc) Gk∧eD h' bX 4 vp (L.map pc) Gp∧cX h h',fN L.length 5,⟨0,.slice none 0 0,[],by omega,rfl,eD.nil,(λb hb=>by cases hb),(λb hb hm=>by cases hm),(λb hb hm=>by cases hm),Ok,Op,w⟩,?_⟩;rintro ρ h' ⟨i,v,G,hi,hvs,O,fG,dk,dp,Ok',Op',w'⟩;simp only[hM,jA,kP,and_true] at hvs;obtain⟨x5,x6,x7,x8,x9,x10⟩:=hvs;unfold aCa;rw[x5,x6,x7,x8,x9,x10];by_cases hlt:i<L.length
 ·have g1:((i:Int)<(L.length:Int))=True:=eq_true (by omega);have gi:=nR (i:=i) (by omega);obtain⟨x,hx⟩:∃x,L[i]? =some x:=⟨_,kV hlt⟩;obtain⟨a1,i1,l1⟩:=Ok'.slR.loadCell (t:=lP) (k:=.i64) (j:=(i:Int)) (x:=.int .i64 x.1) lP.und aR.info aR.size aR.und rfl (by omega) (by rw[wU,wV,hx];rfl);obtain⟨a2,i2,l2⟩:=Op'.slR.loadAgg (t:=gW) (k:=.i64) (j:=(i:Int)) (r:=x.2.cells) gW.und bX.info bX.size bX.und rfl (by omega) (by rw[wU,wV,hx];rfl);simp only[lp,g1,i1,l1,i2,l2,aWg,aWe,cD,reduceIte,cJ,Nat.reduceAdd];intro r16 hr16;refine gV ?_
  try rw[cO]
  have S4:hC (h'.set r16 (.cells (It.of (x.1,x.2)).cells.toArray cE)) 5 (.slice (some ⟨r16,0,none⟩) 1 1) [(It.of (x.1,x.2)).cells]:=(eD.lit (e:=cE) (size:=5) (rows:=[(It.of (x.1,x.2)).cells]) (n:=1) (λr hr=>by simp only[iI] at hr;rw[hr];rfl) eB rfl (by decide) (by simp)).slR;have u4:cX h' (h'.set r16 (.cells (It.of (x.1,x.2)).cells.toArray cE)):=cV.new hr16;generalize h'.set r16 (.cells (It.of (x.1,x.2)).cells.toArray cE)=h4 at *;have e4:=w'.trans u4;refine lG bY.und bY.und cE.info cE.size cE.bytes cE.zero rfl (by decide) (O.ext u4) S4 (by simp[It.cells,fH]) (by simp only[iF,mH,iN,kW];omega) ?_;intro v5 h5 G5 O5 u5 g5 _;have f5:dX h G5:=λb hb=>by
   rcases g5 b hb with y|y
   ·exact fG b y
   ·exact e4.none y
  simp only[gi,cD,reduceIte,cJ,Nat.reduceAdd];refine⟨⟨i+1,v5,G5,by omega,rfl,?_,f5,(λb hb hm=>?_),(λb hb hm=>?_),(Ok'.ext u4).upd u5 dk,(Op'.ext u4).upd u5 dp,e4.fresh u5 fG⟩,by simp[fN,x10];omega⟩
  ·rw[zLR,hx,wA,wA];exact O5
  ·rcases g5 b hm with y|y
   ·exact dk b hb y
   ·exact(Ok'.ext u4).known b hb y
  ·rcases g5 b hm with y|y
   ·exact dp b hb y
   ·exact(Op'.ext u4).known b hb y
 ·have g1:((i:Int)<(L.length:Int))=False:=eq_false (by omega);have et:L.take i=L:=rN (by omega);rw[et] at O;simp only[lp,g1,cD,reduceIte,cJ,Nat.reduceAdd];exact hk h' v G O fG w' hf
def aWx(a:Int)(p:Pk):cC PG (build cK #[(0,.int .i64 a),(1,.agg p.cells.toArray)])=some (.agg (Nt.of (a,p)).cells.toArray):=by kernel_rfl
def aWk(x:Nt):jT PG (buildSlice cT 1 #[(0,.agg x.cells.toArray)])=some (.cells x.cells.toArray cK,λr=>pure (.slice (some ⟨r,0,none⟩) 1 1)):=by kernel_rfl
def aON{h:PH}(s:Tx)(hs:s.length≤1000000){k:cF}
  (hk:∀h' v G,eD h' cK 5 v (((fB 4 (0,s)).1.map Nt.of).map Nt.cells) G->dX h G->cX h h'->((fB 4 (0,s)).2.1=0->(fB 4 (0,s)).2.2.length≤s.length∧(fB 4 (0,s)).2.2=s.drop (s.length-(fB 4 (0,s)).2.2.length))->
   k (.tuple #[v,.int .i64 (if (fB 4 (0,s)).2.1=0 then((s.length-(fB 4 (0,s)).2.2.length:Nat):Int) else 0),.int .i64 (fB 4 (0,s)).2.1]) h'):bW PG xH #[.string (tx s)] h k:=by
 apply oL.call;unfold oL;refine aPt s 4 hs λh1 vk vp Gk Gp Ok Op fk fp w hf=>?_;obtain⟨L,hL⟩:∃L,(fB 4 (0,s)).1=L:=⟨_,rfl⟩;have hlen:(fB 4 (0,s)).1.length≤255:=aHz 4 s;rw[show(fB ((4:Nat):Int) (0,s))=fB 4 (0,s) from rfl] at Ok Op hf ⊢;rw[hL] at Ok Op hk hlen;have lp:cC PG (Builtin.len_ #[gW] aR #[vp])=some (.int .i64 (L.length:Int)):=by
  have:=Op.slR.len (t':=aR) gW.und;rw[iF] at this;exact this
 simp only[cD,reduceIte,cJ,Nat.reduceAdd];obtain⟨nv,hnv⟩:∃nv:Value,nv= .int .i64 (if (fB 4 (0,s)).2.1=0 then((s.length-(fB 4 (0,s)).2.2.length:Nat):Int) else 0):=⟨_,rfl⟩;obtain⟨ev,hev⟩:∃ev:Value,ev= .int .i64 (fB 4 (0,s)).2.1:=⟨_,rfl⟩;rw[←hnv,←hev] at hk ⊢;refine⟨λvs h'=>∃(i:Nat) (v:Value) (G:List Nat),i≤L.length∧vs=[vk,vp,nv,ev,v,.int .i64 (i:Int)]∧eD h' cK 5 v (((L.take i).map Nt.of).map Nt.cells) G∧dX h G∧(∀b∈Gk,b∉G)∧(∀b∈Gp,b∉G)∧eD h' aR 1 vk (L.map kc) Gk∧eD h' bX 4 vp (L.map pc) Gp∧cX h h',fN L.length 5,⟨0,.slice none 0 0,[],by omega,rfl,eD.nil,(λb hb=>by cases hb),(λb hb hm=>by cases hm),(λb hb hm=>by cases hm),Ok,Op,w⟩,?_⟩;rintro ρ h' ⟨i,v,G,hi,hvs,O,fG,dk,dp,Ok',Op',w'⟩;simp only[hM,jA,kP,and_true] at hvs;obtain⟨x5,x6,x7,x8,x9,x10⟩:=hvs;unfold aCd;rw[x5,x6,x7,x8,x9,x10];by_cases hlt:i<L.length
 ·have g1:((i:Int)<(L.length:Int))=True:=eq_true (by omega);have gi:=nR (i:=i) (by omega);obtain⟨x,hx⟩:∃x,L[i]? =some x:=⟨_,kV hlt⟩;obtain⟨a1,i1,l1⟩:=Ok'.slR.loadCell (t:=lP) (k:=.i64) (j:=(i:Int)) (x:=.int .i64 x.1) lP.und aR.info aR.size aR.und rfl (by omega) (by rw[wU,wV,hx];rfl);obtain⟨a2,i2,l2⟩:=Op'.slR.loadAgg (t:=gW) (k:=.i64) (j:=(i:Int)) (r:=x.2.cells) gW.und bX.info bX.size bX.und rfl (by omega) (by rw[wU,wV,hx];rfl);simp only[lp,g1,i1,l1,i2,l2,aWx,aWk,cD,reduceIte,cJ,Nat.reduceAdd];intro r16 hr16;refine gV ?_
  try rw[cO]
  have S4:hC (h'.set r16 (.cells (Nt.of (x.1,x.2)).cells.toArray cK)) 5 (.slice (some ⟨r16,0,none⟩) 1 1) [(Nt.of (x.1,x.2)).cells]:=(eD.lit (e:=cK) (size:=5) (rows:=[(Nt.of (x.1,x.2)).cells]) (n:=1) (λr hr=>by simp only[iI] at hr;rw[hr];rfl) eB rfl (by decide) (by simp)).slR;have u4:cX h' (h'.set r16 (.cells (Nt.of (x.1,x.2)).cells.toArray cK)):=cV.new hr16;generalize h'.set r16 (.cells (Nt.of (x.1,x.2)).cells.toArray cK)=h4 at *;have e4:=w'.trans u4;refine lG cT.und cT.und cK.info cK.size cK.bytes cK.zero rfl (by decide) (O.ext u4) S4 (by simp[Nt.cells,fH]) (by simp only[iF,mH,iN,kW];omega) ?_;intro v5 h5 G5 O5 u5 g5 _;have f5:dX h G5:=λb hb=>by
   rcases g5 b hb with y|y
   ·exact fG b y
   ·exact e4.none y
  simp only[gi,cD,reduceIte,cJ,Nat.reduceAdd];refine⟨⟨i+1,v5,G5,by omega,rfl,?_,f5,(λb hb hm=>?_),(λb hb hm=>?_),(Ok'.ext u4).upd u5 dk,(Op'.ext u4).upd u5 dp,e4.fresh u5 fG⟩,by simp[fN,x10];omega⟩
  ·rw[zLR,hx,wA,wA];exact O5
  ·rcases g5 b hm with y|y
   ·exact dk b hb y
   ·exact(Ok'.ext u4).known b hb y
  ·rcases g5 b hm with y|y
   ·exact dp b hb y
   ·exact(Op'.ext u4).known b hb y
 ·have g1:((i:Int)<(L.length:Int))=False:=eq_false (by omega);have et:L.take i=L:=rN (by omega);rw[et] at O;simp only[lp,g1,cD,reduceIte,cJ,Nat.reduceAdd];exact hk h' v G O fG w' hf
def aNs{e:Int}{t:Tx}(he:e≠0):gN (e,t)=(Pl.zero,(e,t)):=by
 have h0:¬(65535<(0:Nat)):=by omega
 unfold gN;simp only[aFz he,h0,if_false];rw[if_neg he]
def aGy{g e:Int}{t:Tx}(he:e≠0):fB g (e,t)=([],(e,t)):=by
 unfold fB;simp only[aFz he];show(if e=0 then([]:List (Int×Pk)) else [],(e,t))=_;rw[if_neg he]
def aOK{e:Int}{t:Tx}(he:e≠0):aGL (e,t)=e:=by
 unfold aGL;rw[if_neg (λh=>he h.1)]
def aR4{e x:Int}{t:Tx}(he:e≠0):wL (e,t) x=(e,t):=by
 unfold wL;simp only;rw[if_neg he]
def aCQ{s:Tx}{e:Int}{t:Tx}(h:(Rc.rd s).2=(e,t))(he:e≠0):gF s=(Rc.zero,e):=by
 have e1:vD s=(e,t):=by
  unfold vD;rw[h];split
  ·rfl
  ·exact aR4 he
 unfold gF;rw[e1,aOK he,if_pos he]
def aIr{s t:Tx}(h:(Rc.rd s).2=((0:Int),t))(hp:(Rc.rd s).1.plain=false):gF s=(Rc.zero,5):=by
 have e1:vD s=((5:Int),t):=by
  unfold vD;rw[h,hp];rfl
 unfold gF;rw[e1,aOK (by decide),if_pos (by decide)]
def aNC{s t:Tx}(h:(Rc.rd s).2=((0:Int),t))(hp:(Rc.rd s).1.plain=true):gF s=if t≠[] then(Rc.zero,7) else((Rc.rd s).1,0):=by
 have e1:vD s=((0:Int),t):=by
  unfold vD;rw[h,hp];rfl
 unfold gF;rw[e1];by_cases c:t=[]
 ·have:aGL ((0:Int),t)=0:=by unfold aGL;rw[if_neg (λh=>h.2 c)]
  rw[this,if_neg (by simp),if_neg (by simpa using c)]
 ·have:aGL ((0:Int),t)=7:=by unfold aGL;rw[if_pos ⟨rfl,c⟩]
  rw[this,if_pos (by decide),if_pos c]
def aBk(t:Tx):Rc×Int:=
 if (gN (0,t)).2.1≠0 then(Rc.zero,(gN (0,t)).2.1)
 else if (gN (0,t.drop 16)).2.1≠0 then(Rc.zero,(gN (0,t.drop 16)).2.1)
 else if (fB 2 (0,t.drop 32)).2.1≠0 then(Rc.zero,(fB 2 (0,t.drop 32)).2.1)
 else if 40<(fB 2 (0,t.drop 32)).1.length then(Rc.zero,5)
 else if (fB 2 (0,t.drop 32)).2.2≠[] then(Rc.zero,7)
 else(⟨1,⟨(gN (0,t)).1,(gN (0,t.drop 16)).1,(fB 2 (0,t.drop 32)).1.map It.of⟩,0,Pl.zero,[]⟩,0)
def aIZ{t:Tx}(h:(gN (0,t)).2.1=0):(gN (0,t)).2=((0:Int),t.drop 16)∧16≤t.length:=by
 rcases aNG t with⟨-,-,e⟩|⟨-,-,-,e⟩|⟨c,-,e⟩
 ·rw[h] at e;cases e
 ·rw[h] at e;cases e
 ·rw[e];exact⟨rfl,c⟩
def rd1(t:Tx):Rc.rd (1::t)=(⟨1,⟨(gN (0,t)).1,(gN (gN (0,t)).2).1,(fB 2 (gN (gN (0,t)).2).2).1.map It.of⟩,0,Pl.zero,[]⟩,(fB 2 (gN (gN (0,t)).2).2).2):=by
 have e:fC (0,1::t) 1=(1,((0:Int),t)):=by
  rw[oJ (t:=1::t) (c:=1) (by simp)];rfl
 unfold Rc.rd;rw[e];rfl
def rd2(t:Tx):Rc.rd (2::t)=(⟨2,Dm.zero,(fC (0,t) 1).1,(gN (fC (0,t) 1).2).1,(fB 4 (gN (fC (0,t) 1).2).2).1.map Nt.of⟩,(fB 4 (gN (fC (0,t) 1).2).2).2):=by
 have e:fC (0,2::t) 1=(2,((0:Int),t)):=by
  rw[oJ (t:=2::t) (c:=1) (by simp)];rfl
 unfold Rc.rd;rw[e];rfl
def aKq(t:Tx):gF (1::t)=aBk t:=by
 have hr:=rd1 t;unfold aBk;by_cases c0:(gN (0,t)).2.1=0
 ·rw[if_neg (λx=>x c0)];rw[(aIZ c0).1] at hr;by_cases c1:(gN (0,t.drop 16)).2.1=0
  ·rw[if_neg (λx=>x c1)];rw[(aIZ c1).1,pN] at hr;by_cases c2:(fB 2 (0,t.drop 32)).2.1=0
   ·rw[if_neg (λx=>x c2)];have e2:(Rc.rd (1::t)).2=((0:Int),(fB 2 (0,t.drop 32)).2.2):=by
     rw[hr];exact Prod.ext c2 rfl
    by_cases c3:40<(fB 2 (0,t.drop 32)).1.length
    ·rw[if_pos c3];refine aIr e2 ?_;rw[hr];unfold Rc.plain;simp only[if_true,iF];have:decide ((fB 2 (0,t.drop 32)).1.length≤40)=false:=decide_eq_false (by omega);rw[this,aIA]
    ·rw[if_neg c3];have hp:(Rc.rd (1::t)).1.plain=true:=by
      rw[hr];unfold Rc.plain;simp only[if_true,iF];have:decide ((fB 2 (0,t.drop 32)).1.length≤40)=true:=decide_eq_true (by omega);rw[this];rfl
     rw[aNC e2 hp,hr]
   ·rw[if_pos c2];refine aCQ (t:=(fB 2 (0,t.drop 32)).2.2) ?_ c2;rw[hr]
  ·rw[if_pos c1];refine aCQ (t:=(gN (0,t.drop 16)).2.2) ?_ c1;rw[hr];show(fB 2 ((gN (0,t.drop 16)).2.1,(gN (0,t.drop 16)).2.2)).2=_;rw[aGy c1]
 ·rw[if_pos c0];refine aCQ (t:=(gN (0,t)).2.2) ?_ c0;rw[hr];show(fB 2 (gN ((gN (0,t)).2.1,(gN (0,t)).2.2)).2).2=_;rw[aNs c0];show(fB 2 ((gN (0,t)).2.1,(gN (0,t)).2.2)).2=_;rw[aGy c0]
def aEZ:Tx->Rc×Int
 | []=>(Rc.zero,6)
 | b::t=>
  if (gN (0,t)).2.1≠0 then(Rc.zero,(gN (0,t)).2.1)
  else if (fB 4 (0,t.drop 16)).2.1≠0 then(Rc.zero,(fB 4 (0,t.drop 16)).2.1)
  else if 1<b.toNat∨16<(fB 4 (0,t.drop 16)).1.length then(Rc.zero,5)
  else if (fB 4 (0,t.drop 16)).2.2≠[] then(Rc.zero,7)
  else(⟨2,Dm.zero,(b.toNat:Int),(gN (0,t)).1,(fB 4 (0,t.drop 16)).1.map Nt.of⟩,0)
def aLz(t:Tx):gF (2::t)=aEZ t:=by
 have hr:=rd2 t;cases t with
 | nil=>
  rw[aBo (t:=[]) (c:=1) (by simp)] at hr;refine aCQ (t:=[]) ?_ (by decide);rw[hr];show(fB 4 (gN ((6:Int),[])).2).2=_;rw[aNs (by decide)];show(fB 4 ((6:Int),[])).2=_;rw[aGy (by decide)]
 | cons b t=>
  have eg:fC (0,b::t) 1=(b.toNat,((0:Int),t)):=by
   rw[oJ (t:=b::t) (c:=1) (by simp)];simp[kY]
  rw[eg] at hr;simp only at hr;simp only[aEZ];by_cases c0:(gN (0,t)).2.1=0
  ·rw[if_neg (λx=>x c0)];rw[(aIZ c0).1] at hr;by_cases c2:(fB 4 (0,t.drop 16)).2.1=0
   ·rw[if_neg (λx=>x c2)];have e2:(Rc.rd (2::b::t)).2=((0:Int),(fB 4 (0,t.drop 16)).2.2):=by
     rw[hr];exact Prod.ext c2 rfl
    have epl:(Rc.rd (2::b::t)).1.plain=((decide ((b.toNat:Int)=0)||decide ((b.toNat:Int)=1))&&decide ((fB 4 (0,t.drop 16)).1.length≤16)):=by
     rw[hr];unfold Rc.plain;rw[if_neg (by show ¬((2:Int)=1);decide),if_pos rfl];simp only[iF];rfl
    by_cases c3:1<b.toNat∨16<(fB 4 (0,t.drop 16)).1.length
    ·rw[if_pos c3];refine aIr e2 ?_;rw[epl];rcases c3 with c3|c3
     ·have a1:decide ((b.toNat:Int)=0)=false:=decide_eq_false (by omega);have a2:decide ((b.toNat:Int)=1)=false:=decide_eq_false (by omega);rw[a1,a2];rfl
     ·have:decide ((fB 4 (0,t.drop 16)).1.length≤16)=false:=decide_eq_false (by omega);rw[this,aIA]
    ·rw[if_neg c3];have hp:(Rc.rd (2::b::t)).1.plain=true:=by
      rw[epl];have a1:(decide ((b.toNat:Int)=0)||decide ((b.toNat:Int)=1))=true:=by
       rw[aGZ,decide_eq_true_iff,decide_eq_true_iff];omega
      have a2:decide ((fB 4 (0,t.drop 16)).1.length≤16)=true:=decide_eq_true (by omega);rw[a1,a2];rfl
     rw[aNC e2 hp,hr]
   ·rw[if_pos c2];refine aCQ (t:=(fB 4 (0,t.drop 16)).2.2) ?_ c2;rw[hr]
  ·rw[if_pos c0];refine aCQ (t:=(gN (0,t)).2.2) ?_ c0;rw[hr];show(fB 4 ((gN (0,t)).2.1,(gN (0,t)).2.2)).2=_;rw[aGy c0]
def aM9:gF []=(Rc.zero,6):=by
 refine aCQ (t:=[]) ?_ (by decide);unfold Rc.rd;rw[aBo (t:=[]) (c:=1) (by simp)];rfl
def aKp{b:UInt8}{t:Tx}(h1:b≠1)(h2:b≠2):gF (b::t)=(Rc.zero,5):=by
 have eg:fC (0,b::t) 1=(b.toNat,((0:Int),t)):=by
  rw[oJ (t:=b::t) (c:=1) (by simp)];simp[kY]
 have n1:¬b.toNat=1:=λe=>h1 (UInt8.toNat_inj.1 e);have n2:¬b.toNat=2:=λe=>h2 (UInt8.toNat_inj.1 e);have hr:Rc.rd (b::t)=(⟨(b.toNat:Int),Dm.zero,0,Pl.zero,[]⟩,((0:Int),t)):=by
  unfold Rc.rd;rw[eg];simp only;rw[if_neg n1,if_neg n2]
 refine aIr (t:=t) (by rw[hr]) ?_;rw[hr];unfold Rc.plain;rw[if_neg (by simp only;omega),if_neg (by simp only;omega)]
def aG5{h:PH}{r:Nat}{x:Rc}{v w:Value}(B:Bx h r (x.cells v w)):cB PG h (loadAt bT (pT r 0))=some (x.v v w):=bT.agg B (by show 0+10≤10;decide)
def aEH{h h':PH}{h0:PH}{n:Nat}{v:Value}{rows:List (List Value)}{r:Nat}(S:hC h n v rows)(N:iD h0 v)(hr:h0 r≠none)(u:cV [r] h h'):hC h' n v rows:=S.upd u λa m c e hm=>by
 simp only[iI] at hm;exact hr (hm▸N a m c e)
def rcI(t:Tx):Nat->Rc
 | 0=>⟨1,Dm.zero,0,Pl.zero,[]⟩
 | 1=>⟨1,⟨(gN (0,t)).1,Pl.zero,[]⟩,0,Pl.zero,[]⟩
 | _=>⟨1,⟨(gN (0,t)).1,(gN (0,t.drop 16)).1,[]⟩,0,Pl.zero,[]⟩
def aLM(q:Pl):∀v∈q.cells,fH v=true:=by simp[Pl.cells,fH]
def aSS{h:PH}(t:Tx)(hs:t.length≤1000000){k:cF}
  (hk:∀h' vi,jL h' vi (aBk t).1.s.its->iD h vi->(aBk t).1.ns=[]->cX h h'->k (.tuple #[(aBk t).1.v vi (.slice none 0 0),.int .i64 (aBk t).2]) h'):bW PG aAw #[.string (tx t)] h k:=by
 apply zO.call;unfold zO;intro r1 hr1
 try rw[cO]
 have Z1:Bx (h.set r1 (.cells (dD PG bT) bT)) r1 (Rc.zero.cells (.slice none 0 0) (.slice none 0 0)):=bT.zbox;have u1:cX h (h.set r1 (.cells (dD PG bT) bT)):=cV.new hr1;generalize h.set r1 (.cells (dD PG bT) bT)=h1 at *;have rb:cC PG (build bT #[(0,.int .i64 1)])=some ((rcI t 0).v (.slice none 0 0) (.slice none 0 0)):=by kernel_rfl
 simp only[rb,cD,reduceIte,cJ,Nat.reduceAdd];intro r4 hr4
 try rw[cO]
 refine bT.fill (vs:=(rcI t 0).cells (.slice none 0 0) (.slice none 0 0)) hr4 rfl (Rc.isC _ rfl rfl) λh2 B2 u2=>?_;have e2:=u1.trans u2;have n14:r1≠r4:=Z1.apart hr4;have f1:dX h [r1]:=dX.one hr1;have f4:dX h [r4]:=dX.one (u1.none hr4);have k1:h1 r1≠none:=Z1.known;have hDm:∀e:Int,(Rc.zero).ns=[]:=λ_=>rfl;have fin:∀{h':PH} (x:Rc) (e:Int) (vi:Value),aBk t=(x,e)->jL h' vi x.s.its->iD h1 vi->x.ns=[]->Bx h' r1 (Rc.zero.cells (.slice none 0 0) (.slice none 0 0))->cX h h'->cM PG (cP bT (pT r1 0) (x.v vi (.slice none 0 0))) h' λ_ h8=>bZ (cB PG h8 (loadAt bT (pT r1 0))) λv9=>k (.tuple #[v9,.int .i64 e]) h8:=by
  intro h' x e vi hx S N hns B w;refine bT.put B (vs:=x.cells vi (.slice none 0 0)) (o:=0) rfl (by show 0+10≤10;decide) (Rc.isC _ S.isc rfl) λh3 B3 u3=>?_;have B3:Bx h3 r1 (x.cells vi (.slice none 0 0)):=B3;simp only[aG5 B3,iE,zPP];have:=hk h3 vi (by rw[hx];exact aEH S N k1 u3) (N.of u1) (by rw[hx];exact hns) (w.fresh u3 f1);rw[hx] at this;exact this
 have bad:∀{h':PH} (e:Int),aBk t=(Rc.zero,e)->Bx h' r1 (Rc.zero.cells (.slice none 0 0) (.slice none 0 0))->cX h h'->cM PG (cP bT (pT r1 0) (Rc.zero.v (.slice none 0 0) (.slice none 0 0))) h' λ_ h8=>bZ (cB PG h8 (loadAt bT (pT r1 0))) λv9=>k (.tuple #[v9,.int .i64 e]) h8:=
  λe he B w=>fin Rc.zero e (.slice none 0 0) he aC9 iD.nil rfl B w
 refine⟨λvs h'=>∃i:Nat,i≤2∧16*i≤t.length∧vs=[.string (tx (t.drop (16*i))),pT r1 0,pT r4 0,.int .i64 (i:Int)]∧Bx h' r4 ((rcI t i).cells (.slice none 0 0) (.slice none 0 0))∧Bx h' r1 (Rc.zero.cells (.slice none 0 0) (.slice none 0 0))∧cX h1 h'∧(1≤i->(gN (0,t)).2.1=0)∧(2≤i->(gN (0,t.drop 16)).2.1=0),fN 2 3,⟨0,by omega,by omega,rfl,B2,Z1.ext u2,u2,(λh=>by omega),(λh=>by omega)⟩,?_⟩;rintro ρ h' ⟨i,hi,h16,hvs,B,Z,w,p0,p1⟩;simp only[hM,jA,kP,and_true] at hvs;obtain⟨x0,x2,x4,x5⟩:=hvs;unfold aD8;rw[x0,x2,x4,x5];have w0:=u1.trans w;by_cases hlt:i<2
 ·have g:((i:Int)<2)=True:=eq_true (by omega);have gi:=nR (i:=i) (by omega);simp only[g,cD,reduceIte,cJ,Nat.reduceAdd];refine aJV (t.drop (16*i)) (by rw[jE];omega) λh3 u3=>?_;simp only[cD,reduceIte,cJ,Nat.reduceAdd];intro r16 hr16
  try rw[cO]
  refine cG.fill (vs:=(gN (0,t.drop (16*i))).1.cells) hr16 rfl (aLM _) λh4 B4 u4=>?_;have e34:=u3.trans u4;by_cases c:(gN (0,t.drop (16*i))).2.1=0
  ·have q:((gN (0,t.drop (16*i))).2.1 !=0)=false:=by rw[c];rfl
   have hf:=(aIZ c).2;rw[jE] at hf;have l4:cB PG h4 (loadAt cG (pT r16 0))=some (.agg (gN (0,t.drop (16*i))).1.cells.toArray):=aBs B4 rfl;have ixi:cC PG (indexAt cR (pT r4 1) (.int .i64 (i:Int)))=some (pT r4 (1+i*2)):=ixQ hlt;have c16:cC PG (Instr.sliceAt bR (.string (tx (t.drop (16*i)))) (some (.int .i64 16)) none none)=some (.string (tx (t.drop (16*(i+1))))):=by
    have:=kI (P:=PG) (t:=bR) (l:=t.drop (16*i)) (i:=16) (j:=(t.drop (16*i)).length) (lo:=some (.int .i64 16)) (hi:=none) bR.und (.inr ⟨_,rfl⟩) (.inl ⟨rfl,rfl⟩) (by rw[jE];omega) (mS _);rw[this,zLJ,pN,Nat.mul_succ]
   simp only[dY,q,c,if_true,l4,bT.f1,aT.f0,ixi,cD,reduceIte,cJ,Nat.reduceAdd];have i01:i=0∨i=1:=by omega
   refine cG.put (B.ext e34) (vs:=(gN (0,t.drop (16*i))).1.cells) (o:=1+i*2) rfl (by show 1+i*2+2≤10;omega) (aLM _) λh5 B5 u5=>?_;have B5:Bx h5 r4 ((rcI t (i+1)).cells (.slice none 0 0) (.slice none 0 0)):=by
    rcases i01 with rfl|rfl
    ·exact B5
    ·exact B5
   simp only[c16,gi,cD,reduceIte,cJ,Nat.reduceAdd];refine⟨⟨i+1,by omega,by omega,rfl,B5,(Z.ext e34).upd u5 (by simpa using n14),(w.trans e34).fresh u5 (dX.one hr4),λ_=>?_,λh2=>?_⟩,by simp[fN,x5];omega⟩
   ·rcases i01 with rfl|rfl
    ·exact c
    ·exact p0 (by omega)
   ·rcases i01 with rfl|rfl
    ·omega
    ·exact c
  ·have q:((gN (0,t.drop (16*i))).2.1 !=0)=true:=bne_iff_ne.2 c;simp only[dY,q,vA,cD,reduceIte,cJ,Nat.reduceAdd];refine bad _ ?_ (Z.ext e34) (w0.trans e34);have i01:i=0∨i=1:=by omega
   unfold aBk;rcases i01 with rfl|rfl
   ·exact if_pos (show(gN (0,t)).2.1≠0 from c)
   ·rw[if_neg (λx=>x (p0 (by omega)))];exact if_pos (show(gN (0,t.drop 16)).2.1≠0 from c)
 ·have g:((i:Int)<2)=False:=eq_false (by omega);obtain rfl:i=2:=by omega
  have hp0:=p0 (by omega);have hp1:=p1 (by omega);have dS:aBk t=if (fB 2 (0,t.drop 32)).2.1≠0 then(Rc.zero,(fB 2 (0,t.drop 32)).2.1)
    else if 40<(fB 2 (0,t.drop 32)).1.length then(Rc.zero,5)
    else if (fB 2 (0,t.drop 32)).2.2≠[] then(Rc.zero,7)
    else(⟨1,⟨(gN (0,t)).1,(gN (0,t.drop 16)).1,(fB 2 (0,t.drop 32)).1.map It.of⟩,0,Pl.zero,[]⟩,0):=by
   unfold aBk;rw[if_neg (λx=>x hp0),if_neg (λx=>x hp1)]
  simp only[g,cD,reduceIte,cJ,Nat.reduceAdd];refine aN9 (t.drop 32) (by rw[jE];omega) λh3 v G O3 fG u3 hf=>?_;have NV:iD h1 v:=(O3.newV fG).of w;have lv:cC PG (Builtin.len_ #[bY] aR #[v])=some (.int .i64 ((fB 2 (0,t.drop 32)).1.length:Int)):=by
   have:=It.len O3.slR;rw[iF] at this;exact this
  obtain⟨L,hL⟩:∃L,fB 2 (0,t.drop 32)=L:=⟨_,rfl⟩;rw[hL] at dS O3 lv hf ⊢;by_cases c2:L.2.1=0
  ·have q2:(L.2.1 !=0)=false:=by rw[c2];rfl
   rw[if_neg (λx=>x c2)] at dS;obtain⟨hf1,hf2⟩:=hf c2;by_cases c3:40<L.1.length
   ·have g3:((40:Int)<(L.1.length:Int))=True:=eq_true (by omega);rw[if_pos c3] at dS;simp only[dY,q2,lv,g3,vA,cD,reduceIte,cJ,Nat.reduceAdd];exact bad 5 dS (Z.ext u3) (w0.trans u3)
   ·have g3:((40:Int)<(L.1.length:Int))=False:=eq_false (by omega);rw[if_neg c3] at dS;by_cases c4:L.2.2=[]
    ·have g4:((((t.drop 32).length-L.2.2.length:Nat):Int)<((t.drop 32).length:Int))=False:=eq_false (by rw[c4];simp);rw[if_neg (λx=>x c4)] at dS;simp only[dY,q2,lv,g3,c2,if_true,iL,g4,bT.f1,aT.f1,cD,reduceIte,cJ,Nat.reduceAdd];refine bY.put (B.ext u3) (o:=5) (by show 5<10;decide) O3.slR.isc λh4 B4 u4=>?_;have B4:Bx h4 r4 (Rc.cells ⟨1,⟨(gN (0,t)).1,(gN (0,t.drop 16)).1,L.1.map It.of⟩,0,Pl.zero,[]⟩ v (.slice none 0 0)):=B4;simp only[aG5 B4,cD,reduceIte,cJ,Nat.reduceAdd];have S4:jL h4 v (L.1.map It.of):=aEH O3.slR (O3.newV fG) (B.known) u4;exact fin _ 0 v dS S4 NV rfl ((Z.ext u3).upd u4 (by simpa using n14)) ((w0.trans u3).fresh u4 f4)
    ·have g4:((((t.drop 32).length-L.2.2.length:Nat):Int)<((t.drop 32).length:Int))=True:=by
      have:0<L.2.2.length:=aId.2 c4;exact eq_true (by omega)
     rw[if_pos c4] at dS;simp only[dY,q2,lv,g3,c2,if_true,iL,g4,vA,cD,reduceIte,cJ,Nat.reduceAdd];exact bad 7 dS (Z.ext u3) (w0.trans u3)
  ·have q2:(L.2.1 !=0)=true:=bne_iff_ne.2 c2;rw[if_pos c2] at dS;simp only[dY,q2,vA,cD,reduceIte,cJ,Nat.reduceAdd];exact bad _ dS (Z.ext u3) (w0.trans u3)
def aW9(c:Int):cC PG (build bT #[(0,.int .i64 2),(2,.int .i64 c)])=some (Rc.v ⟨2,Dm.zero,c,Pl.zero,[]⟩ (.slice none 0 0) (.slice none 0 0)):=by kernel_rfl
def aQJ{h:PH}(s:Tx)(hs:s.length≤1000000){k:cF}
  (hk:∀h' vn,yC h' vn (aEZ s).1.ns->iD h vn->(aEZ s).1.s.its=[]->cX h h'->k (.tuple #[(aEZ s).1.v (.slice none 0 0) vn,.int .i64 (aEZ s).2]) h'):bW PG aBC #[.string (tx s)] h k:=by
 apply aAV.call;unfold aAV;intro r1 hr1
 try rw[cO]
 have Z1:Bx (h.set r1 (.cells (dD PG bT) bT)) r1 (Rc.zero.cells (.slice none 0 0) (.slice none 0 0)):=bT.zbox;have u1:cX h (h.set r1 (.cells (dD PG bT) bT)):=cV.new hr1;generalize h.set r1 (.cells (dD PG bT) bT)=h1 at *;have f1:dX h [r1]:=dX.one hr1;have k1:h1 r1≠none:=Z1.known;have fin:∀{h':PH} (x:Rc) (e:Int) (vn:Value),aEZ s=(x,e)->yC h' vn x.ns->iD h1 vn->x.s.its=[]->Bx h' r1 (Rc.zero.cells (.slice none 0 0) (.slice none 0 0))->cX h h'->cM PG (cP bT (pT r1 0) (x.v (.slice none 0 0) vn)) h' λ_ h8=>bZ (cB PG h8 (loadAt bT (pT r1 0))) λv9=>k (.tuple #[v9,.int .i64 e]) h8:=by
  intro h' x e vn hx S N hns B w;refine bT.put B (vs:=x.cells (.slice none 0 0) vn) (o:=0) rfl (by show 0+10≤10;decide) (Rc.isC _ rfl S.isc) λh3 B3 u3=>?_;have B3:Bx h3 r1 (x.cells (.slice none 0 0) vn):=B3;simp only[aG5 B3,iE,zPP];have:=hk h3 vn (by rw[hx];exact aEH S N k1 u3) (N.of u1) (by rw[hx];exact hns) (w.fresh u3 f1);rw[hx] at this;exact this
 have bad:∀{h':PH} (e:Int),aEZ s=(Rc.zero,e)->Bx h' r1 (Rc.zero.cells (.slice none 0 0) (.slice none 0 0))->cX h h'->cM PG (cP bT (pT r1 0) (Rc.zero.v (.slice none 0 0) (.slice none 0 0))) h' λ_ h8=>bZ (cB PG h8 (loadAt bT (pT r1 0))) λv9=>k (.tuple #[v9,.int .i64 e]) h8:=
  λe he B w=>fin Rc.zero e (.slice none 0 0) he aK7 iD.nil rfl B w
 cases s with
 | nil=>
  have e0:cB PG h1 (fJ .eql bR (.tmp 9) (.const (.string {data:=#[]})) (.string (tx [])) (.string {data:=#[]}))=some (.bool true):=by
   have:=aEy (t:=bR) (h:=h1) (x:=.tmp 9) (y:=.const (.string {data:=#[]})) (a:=[]) (b:=[]);exact this
  simp only[e0,vA,cD,reduceIte,cJ,Nat.reduceAdd];exact bad 6 rfl Z1 u1
 | cons b t=>
  have e0:cB PG h1 (fJ .eql bR (.tmp 9) (.const (.string {data:=#[]})) (.string (tx (b::t))) (.string {data:=#[]}))=some (.bool false):=by
   have:=aEy (t:=bR) (h:=h1) (x:=.tmp 9) (y:=.const (.string {data:=#[]})) (a:=b::t) (b:=[]);exact this
  have i0:cC PG (Instr.index bR (.string (tx (b::t))) (.int .i64 0))=some (.int .u8 b.toNat):=nL (j:=0) bR.und rfl;have ll:(b::t).length=t.length+1:=rfl;have c1:cC PG (Instr.sliceAt bR (.string (tx (b::t))) (some (.int .i64 1)) none none)=some (.string (tx t)):=by
   have:=kI (P:=PG) (t:=bR) (l:=b::t) (i:=1) (j:=(b::t).length) (lo:=some (.int .i64 1)) (hi:=none) bR.und (.inr ⟨_,rfl⟩) (.inl ⟨rfl,rfl⟩) (by rw[ll];omega) (mS _);rw[this,zLJ];rfl
  simp only[e0,i0,aGV,aW9,cD,reduceIte,cJ,Nat.reduceAdd];intro r11 hr11
  try rw[cO]
  refine bT.fill (vs:=Rc.cells ⟨2,Dm.zero,(b.toNat:Int),Pl.zero,[]⟩ (.slice none 0 0) (.slice none 0 0)) hr11 rfl (Rc.isC _ rfl rfl) λh2 B2 u2=>?_;have e2:=u1.trans u2;have n1:r1≠r11:=Z1.apart hr11;have f11:dX h [r11]:=dX.one (u1.none hr11);simp only[c1,cD,reduceIte,cJ,Nat.reduceAdd];rw[ll] at hs;refine aJV t (by omega) λh3 u3=>?_;simp only[cD,reduceIte,cJ,Nat.reduceAdd];intro r21 hr21
  try rw[cO]
  refine cG.fill (vs:=(gN (0,t)).1.cells) hr21 rfl (aLM _) λh4 B4 u4=>?_;have e34:=u3.trans u4;have Z4:=(Z1.ext u2).ext e34;have w4:=e2.trans e34;by_cases c:(gN (0,t)).2.1=0
  ·have q:((gN (0,t)).2.1 !=0)=false:=by rw[c];rfl
   have hf:=(aIZ c).2;have w17:IntKind.i64.wrap ((1:Int)+16)=17:=by decide
   have c17:cC PG (Instr.sliceAt bR (.string (tx (b::t))) (some (.int .i64 17)) none none)=some (.string (tx (t.drop 16))):=by
    have:=kI (P:=PG) (t:=bR) (l:=b::t) (i:=17) (j:=(b::t).length) (lo:=some (.int .i64 17)) (hi:=none) bR.und (.inr ⟨_,rfl⟩) (.inl ⟨rfl,rfl⟩) (by rw[ll];omega) (mS _);rw[this,zLJ];rfl
   have dS:aEZ (b::t)=if (fB 4 (0,t.drop 16)).2.1≠0 then(Rc.zero,(fB 4 (0,t.drop 16)).2.1)
     else if 1<b.toNat∨16<(fB 4 (0,t.drop 16)).1.length then(Rc.zero,5)
     else if (fB 4 (0,t.drop 16)).2.2≠[] then(Rc.zero,7)
     else(⟨2,Dm.zero,(b.toNat:Int),(gN (0,t)).1,(fB 4 (0,t.drop 16)).1.map Nt.of⟩,0):=by
    simp only[aEZ];rw[if_neg (λx=>x c)]
   simp only[dY,q,c,if_true,w17,c17,cD,reduceIte,cJ,Nat.reduceAdd];refine aON (t.drop 16) (by rw[jE];omega) λh5 v G O5 fG u5 hf5=>?_;have NV:iD h1 v:=(O5.newV fG).of (u2.trans e34);have lv:cC PG (Builtin.len_ #[cT] aR #[v])=some (.int .i64 ((fB 4 (0,t.drop 16)).1.length:Int)):=by
    have:=Nt.len O5.slR;rw[iF] at this;exact this
   obtain⟨L,hL⟩:∃L,fB 4 (0,t.drop 16)=L:=⟨_,rfl⟩;rw[hL] at dS O5 lv hf5 ⊢;have e5:=w4.trans u5;have B5:=(B2.ext e34).ext u5;have Z5:=Z4.ext u5;have lc:cU h5 ⟨r11,0+6,none⟩=some (.int .i64 (b.toNat:Int)):=B5.cell 6;have l21:cB PG h5 (loadAt cG (pT r21 0))=some (.agg (gN (0,t)).1.cells.toArray):=aBs (B4.ext u5) rfl;by_cases c2:L.2.1=0
   ·have q2:(L.2.1 !=0)=false:=by rw[c2];rfl
    rw[if_neg (λx=>x c2)] at dS;obtain⟨hf1,hf2⟩:=hf5 c2;have last:¬(1<b.toNat∨16<L.1.length)->(bZ (cC PG (binOp BinOp.lss aR (.int .i64 (((t.drop 16).length-L.2.2.length:Nat):Int)) (.int .i64 ((t.drop 16).length:Int)))) λv62=>
      cN v62
      (cM PG (cP bT (pT r1 0) (Rc.zero.v (.slice none 0 0) (.slice none 0 0))) h5 λv64 h65=>
      bZ (cB PG h65 (loadAt bT (pT r1 0))) λv66=>
      k (Value.tuple #[v66,(Value.int IntKind.i64 7)]) h65)
      (cM PG (cP cG (pT r11 7) (.agg (gN (0,t)).1.cells.toArray)) h5 λv69 h70=>
      cM PG (cP cT (pT r11 9) v) h70 λv72 h73=>
      bZ (cB PG h73 (loadAt bT (pT r11 0))) λv74=>
      cM PG (cP bT (pT r1 0) v74) h73 λv75 h76=>
      bZ (cB PG h76 (loadAt bT (pT r1 0))) λv77=>
      k (Value.tuple #[v77,(Value.int IntKind.i64 0)]) h76)):=by
     intro c3;rw[if_neg c3] at dS;by_cases c4:L.2.2=[]
     ·have g4:((((t.drop 16).length-L.2.2.length:Nat):Int)<((t.drop 16).length:Int))=False:=eq_false (by rw[c4];simp);rw[if_neg (λx=>x c4)] at dS;simp only[g4,cD,reduceIte,cJ,Nat.reduceAdd];refine cG.put B5 (vs:=(gN (0,t)).1.cells) (o:=7) rfl (by show 7+2≤10;decide) (aLM _) λh6 B6 u6=>?_;refine cT.put B6 (o:=9) (by show 9<10;decide) O5.slR.isc λh7 B7 u7=>?_;have B7:Bx h7 r11 (Rc.cells ⟨2,Dm.zero,(b.toNat:Int),(gN (0,t)).1,L.1.map Nt.of⟩ (.slice none 0 0) v):=B7;have u67:=u6.trans u7;simp only[aG5 B7,iE,zPP];have S7:yC h7 v (L.1.map Nt.of):=aEH O5.slR (O5.newV fG) ((B2.ext e34).known) u67;exact fin _ 0 v dS S7 NV rfl (Z5.upd u67 (by simpa using n1)) (e5.fresh u67 f11)
     ·have g4:((((t.drop 16).length-L.2.2.length:Nat):Int)<((t.drop 16).length:Int))=True:=by
       have:0<L.2.2.length:=aId.2 c4;exact eq_true (by omega)
      rw[if_pos c4] at dS;simp only[g4,cD,reduceIte,cJ,Nat.reduceAdd];exact bad 7 dS Z5 e5
    by_cases c3:1<b.toNat
    ·have g3:((1:Int)<(b.toNat:Int))=True:=eq_true (by omega);rw[if_pos (.inl c3)] at dS;simp only[dY,q2,bT.f2,aR.load,lc,g3,vA,cD,reduceIte,cJ,Nat.reduceAdd];exact bad 5 dS Z5 e5
    ·have g3:((1:Int)<(b.toNat:Int))=False:=eq_false (by omega);by_cases c5:16<L.1.length
     ·have g5:((16:Int)<(L.1.length:Int))=True:=eq_true (by omega);rw[if_pos (.inr c5)] at dS;simp only[dY,q2,bT.f2,aR.load,lc,g3,lv,g5,vA,cD,reduceIte,cJ,Nat.reduceAdd];exact bad 5 dS Z5 e5
     ·have g5:((16:Int)<(L.1.length:Int))=False:=eq_false (by omega);simp only[dY,q2,bT.f2,bT.f3,bT.f4,aR.load,lc,g3,lv,g5,c2,if_true,iL,vA,l21,cD,reduceIte,cJ,Nat.reduceAdd];have:=last (by omega);simp only[cD,reduceIte,cJ,Nat.reduceAdd] at this;exact this
   ·have q2:(L.2.1 !=0)=true:=bne_iff_ne.2 c2;rw[if_pos c2] at dS;simp only[dY,q2,vA,cD,reduceIte,cJ,Nat.reduceAdd];exact bad _ dS Z5 e5
  ·have q:((gN (0,t)).2.1 !=0)=true:=bne_iff_ne.2 c;simp only[dY,q,vA,cD,reduceIte,cJ,Nat.reduceAdd];exact bad _ (if_pos c) Z4 w4
def aSI{h:PH}(s:Tx)(hs:s.length≤1000000){k:cF}
  (hk:∀h' vi vn,jL h' vi (gF s).1.s.its->yC h' vn (gF s).1.ns->iD h vi->iD h vn->cX h h'->k (.tuple #[(gF s).1.v vi vn,.int .i64 (gF s).2]) h'):bW PG aAf #[.string (tx s)] h k:=by
 apply zD.call;unfold zD;intro r1 hr1
 try rw[cO]
 have Z1:Bx (h.set r1 (.cells (dD PG bT) bT)) r1 (Rc.zero.cells (.slice none 0 0) (.slice none 0 0)):=bT.zbox;have u1:cX h (h.set r1 (.cells (dD PG bT) bT)):=cV.new hr1;generalize h.set r1 (.cells (dD PG bT) bT)=h1 at *;have k1:h1 r1≠none:=Z1.known;have fin:∀{h':PH} (x:Rc) (e:Int) (vi vn:Value),gF s=(x,e)->jL h' vi x.s.its->yC h' vn x.ns->iD h1 vi->iD h1 vn->Bx h' r1 (Rc.zero.cells (.slice none 0 0) (.slice none 0 0))->cX h h'->cM PG (cP bT (pT r1 0) (x.v vi vn)) h' λ_ h8=>bZ (cB PG h8 (loadAt bT (pT r1 0))) λv9=>k (.tuple #[v9,.int .i64 e]) h8:=by
  intro h' x e vi vn hx S S' N N' B w;refine bT.put B (vs:=x.cells vi vn) (o:=0) rfl (by show 0+10≤10;decide) (Rc.isC _ S.isc S'.isc) λh3 B3 u3=>?_;have B3:Bx h3 r1 (x.cells vi vn):=B3;simp only[aG5 B3,iE,zPP];have:=hk h3 vi vn (by rw[hx];exact aEH S N k1 u3) (by rw[hx];exact aEH S' N' k1 u3) (N.of u1) (N'.of u1) (w.fresh u3 (dX.one hr1));rw[hx] at this;exact this
 cases s with
 | nil=>
  have e0:cB PG h1 (fJ .eql bR (.tmp 4) (.const (.string {data:=#[]})) (.string (tx [])) (.string {data:=#[]}))=some (.bool true):=by
   have:=aEy (t:=bR) (h:=h1) (x:=.tmp 4) (y:=.const (.string {data:=#[]})) (a:=[]) (b:=[]);exact this
  simp only[e0,vA,cD,reduceIte,cJ,Nat.reduceAdd];exact fin Rc.zero 6 _ _ aM9 aC9 aK7 iD.nil iD.nil Z1 u1
 | cons b t=>
  have e0:cB PG h1 (fJ .eql bR (.tmp 4) (.const (.string {data:=#[]})) (.string (tx (b::t))) (.string {data:=#[]}))=some (.bool false):=by
   have:=aEy (t:=bR) (h:=h1) (x:=.tmp 4) (y:=.const (.string {data:=#[]})) (a:=b::t) (b:=[]);exact this
  have i0:cC PG (Instr.index bR (.string (tx (b::t))) (.int .i64 0))=some (.int .u8 b.toNat):=nL (j:=0) bR.und rfl;have ll:(b::t).length=t.length+1:=rfl;have c1:cC PG (Instr.sliceAt bR (.string (tx (b::t))) (some (.int .i64 1)) none none)=some (.string (tx t)):=by
   have:=kI (P:=PG) (t:=bR) (l:=b::t) (i:=1) (j:=(b::t).length) (lo:=some (.int .i64 1)) (hi:=none) bR.und (.inr ⟨_,rfl⟩) (.inl ⟨rfl,rfl⟩) (by rw[ll];omega) (mS _);rw[this,zLJ];rfl
  rw[ll] at hs;by_cases h1':b=1
  ·subst h1';have q1:((((1:UInt8).toNat:Nat):Int)==1)=true:=rfl;simp only[e0,i0,fO,q1,c1,cD,reduceIte,cJ,Nat.reduceAdd];refine aSS t (by omega) λh2 vi S N hns u2=>?_;simp only[cD,reduceIte,cJ,Nat.reduceAdd];refine fin _ _ vi (.slice none 0 0) (aKq t) S (by rw[hns];exact aK7) N iD.nil (Z1.ext u2) (u1.trans u2)
  ·have q1:((b.toNat:Int)==1)=false:=by
    rw[beq_eq_false_iff_ne];intro e;exact h1' (UInt8.toNat_inj.1 (by show b.toNat=1;omega))
   by_cases h2':b=2
   ·subst h2';have q1:((((2:UInt8).toNat:Nat):Int)==1)=false:=rfl;have q2:((((2:UInt8).toNat:Nat):Int)==2)=true:=rfl;simp only[e0,i0,fO,q1,q2,c1,cD,reduceIte,cJ,Nat.reduceAdd];refine aQJ t (by omega) λh2 vn S N hns u2=>?_;simp only[cD,reduceIte,cJ,Nat.reduceAdd];refine fin _ _ (.slice none 0 0) vn (aLz t) (by rw[hns];exact aC9) S iD.nil N (Z1.ext u2) (u1.trans u2)
   ·have q2:((b.toNat:Int)==2)=false:=by
     rw[beq_eq_false_iff_ne];intro e;exact h2' (UInt8.toNat_inj.1 (by show b.toNat=2;omega))
    simp only[e0,i0,fO,q1,q2,vA,cD,reduceIte,cJ,Nat.reduceAdd];exact fin Rc.zero 5 _ _ (aKp h1' h2') aC9 aK7 iD.nil iD.nil Z1 u1
def aPS(s:Tx):(gF s).1.s.its.length≤255∧(gF s).1.ns.length≤255:=by
 cases s with
 | nil=>rw[aM9];exact⟨lA _,lA _⟩
 | cons b t=>
  by_cases h1:b=1
  ·subst h1;rw[aKq];unfold aBk;have h0:Rc.zero.s.its.length≤255∧Rc.zero.ns.length≤255:=⟨lA _,lA _⟩;split
   ·exact h0
   ·split
    ·exact h0
    ·split
     ·exact h0
     ·split
      ·exact h0
      ·split
       ·exact h0
       ·exact⟨by show((fB 2 (0,t.drop 32)).1.map It.of).length≤255;rw[iF];exact aHz 2 _,lA _⟩
  ·by_cases h2:b=2
   ·subst h2;rw[aLz];have h0:Rc.zero.s.its.length≤255∧Rc.zero.ns.length≤255:=⟨lA _,lA _⟩;cases t with
    | nil=>exact h0
    | cons b t=>
     simp only[aEZ];split
     ·exact h0
     ·split
      ·exact h0
      ·split
       ·exact h0
       ·split
        ·exact h0
        ·exact⟨lA _,by show((fB 4 (0,t.drop 16)).1.map Nt.of).length≤255;rw[iF];exact aHz 4 _⟩
   ·rw[aKp h1 h2];exact⟨lA _,lA _⟩
def aS4(R:Dm×Int):Dm×Int:=if R.2≠0 then(Dm.zero,R.2) else R
def aCq(room:Int):∀(l:List Tx) (st:Dm×Int),st.2≠0->l.foldl (mD room) st=st
 | [],st,_=>rfl
 | s::l,st,h=>by
  rw[zLt];have:mD room st s=st:=by unfold mD;rw[if_neg h]
  rw[this];exact aCq room l st h
def aIX{h:PH}{r:Nat}{x:Dm}{v:Value}(B:Bx h r (x.cells v)):cB PG h (loadAt aT (pT r 0))=some (x.v v):=aT.agg B (by show 0+5≤5;decide)
def aRO{h:PH}{room:Int}{x:Value}{l:List Tx}(S:hC h 1 x (l.map kA))(hl:l.length≤100000)(hs:∀s∈l,s.length≤1000000){k:cF}
  (hk:∀h' v',jL h' v' (xJ room l).1.its->iD h v'->cX h h'->k (.tuple #[(xJ room l).1.v v',.int .i64 (xJ room l).2]) h'):bW PG nW #[.int .i64 room,x] h k:=by
 apply yB.call;unfold yB;have lx:=aAR S;intro r1 hr1
 try rw[cO]
 have Z1:Bx (h.set r1 (.cells (dD PG aT) aT)) r1 (Dm.zero.cells (.slice none 0 0)):=aT.zbox;have u1:cX h (h.set r1 (.cells (dD PG aT) aT)):=cV.new hr1;generalize h.set r1 (.cells (dD PG aT) aT)=h1 at *;simp only[pY,cD,reduceIte,cJ,Nat.reduceAdd];intro r4 hr4
 try rw[cO]
 refine aT.fill (vs:=Dm.zero.cells (.slice none 0 0)) hr4 rfl (Dm.isC _ rfl) λh2 B2 u2=>?_;have e2:=u1.trans u2;have Z2:=Z1.ext u2;have n14:r1≠r4:=Z1.apart hr4;have k1:h2 r1≠none:=Z2.known;have k4:h2 r4≠none:=B2.known;have f1:dX h [r1]:=dX.one hr1;have f4:dX h [r4]:=dX.one (u1.none hr4);have fin:∀{h':PH} (y:Dm) (e:Int) (vi:Value),xJ room l=(y,e)->jL h' vi y.its->iD h2 vi->(∃cs:List Value,cs.length=5∧Bx h' r1 cs)->cX h h'->cM PG (cP aT (pT r1 0) (y.v vi)) h' λ_ h8=>bZ (cB PG h8 (loadAt aT (pT r1 0))) λv9=>k (.tuple #[v9,.int .i64 e]) h8:=by
  intro h' y e vi hy V N ⟨cs,hcs,B⟩ w;refine aT.put B (vs:=y.cells vi) (o:=0) rfl (by omega) (Dm.isC _ V.isc) λh3 B3 u3=>?_;rw[zLd,zLU,aAr (by omega),zLQ] at B3;simp only[aIX B3,iE,zPP];have:=hk h3 vi (by rw[hy];exact aEH V N k1 u3) (N.of e2) (w.fresh u3 f1);rw[hy] at this;exact this
 have bad:∀{h':PH} (e:Int),xJ room l=(Dm.zero,e)->(∃cs:List Value,cs.length=5∧Bx h' r1 cs)->cX h h'->cM PG (cP aT (pT r1 0) (Dm.zero.v (.slice none 0 0))) h' λ_ h8=>bZ (cB PG h8 (loadAt aT (pT r1 0))) λv9=>k (.tuple #[v9,.int .i64 e]) h8:=
  λe he B w=>fin Dm.zero e (.slice none 0 0) he aC9 iD.nil B w
 cases l with
 | nil=>
  have q:((([]:List Tx).length:Int)==0)=true:=rfl;simp only[lx,fO,q,aIX B2,cD,reduceIte,cJ,Nat.reduceAdd];exact fin Dm.zero 3 (.slice none 0 0) rfl aC9 iD.nil ⟨_,rfl,Z2⟩ e2
 | cons s0 l=>
  have q:(((s0::l).length:Int)==0)=false:=by rw[beq_eq_false_iff_ne,iN];omega
  simp only[lx,fO,q,cD,reduceIte,cJ,Nat.reduceAdd];have hT:xJ room (s0::l)=aS4 (l.foldl (mD room) (lK room s0)):=rfl;obtain⟨T,hTT⟩:∃T,xJ room (s0::l)=T:=⟨_,rfl⟩;rw[hTT] at hT;refine⟨λvs h'=>∃(i:Nat) (D:Dm) (v:Value),i≤(s0::l).length∧vs=[.int .i64 room,x,pT r1 0,pT r4 0,.int .i64 (i:Int)]∧Bx h' r4 (D.cells v)∧Bx h' r1 (Dm.zero.cells (.slice none 0 0))∧jL h' v D.its∧iD h2 v∧cX h h'∧cV [r4] h2 h'∧(1≤i->OkD D room∧D.wf∧T=aS4 (((s0::l).drop i).foldl (mD room) (D,0))),fN (s0::l).length 4,⟨0,Dm.zero,.slice none 0 0,by omega,rfl,B2,Z2,aC9,iD.nil,e2,cV.refl,λh=>by omega⟩,?_⟩;rintro ρ h' ⟨i,D,v,hi,hvs,B,Z,V,NV,w,w2,inv⟩;simp only[hM,jA,kP,and_true] at hvs;obtain⟨x0,x1,x4,x6,x7⟩:=hvs;unfold aC4;rw[x0,x1,x4,x6,x7];by_cases hlt:i<(s0::l).length
  ·have g:((i:Int)<((s0::l).length:Int))=True:=eq_true (by omega);have gi:=nR (i:=i) (by omega);obtain⟨s,hx⟩:∃s,(s0::l)[i]? =some s:=⟨_,kV hlt⟩;have hsl:=hs s (aAB hx);obtain⟨p,i1,i2⟩:=aI9 (S.ext w) hx;have ed:(s0::l).drop i=s::(s0::l).drop (i+1):=by
    rw[aA3 hlt];have:(s0::l)[i]=s:=by rw[kV hlt] at hx;simpa using hx
    rw[this]
   simp only[lx,g,i1,i2,cD,reduceIte,cJ,Nat.reduceAdd];refine aSI s hsl λh3 vi vn Si Sn Ni Nn u3=>?_;have hfew:=aPS s;have hwf:=aIe s;obtain⟨P,hP⟩:∃P,gF s=P:=⟨_,rfl⟩;rw[hP] at Si Sn hfew hwf ⊢;simp only[cD,reduceIte,cJ,Nat.reduceAdd];intro r24 hr24
   try rw[cO]
   refine bT.fill (vs:=P.1.cells vi vn) hr24 rfl (Rc.isC _ Si.isc Sn.isc) λh4 B4 u4=>?_;have e34:=u3.trans u4;have w4:=w.trans e34;have w24:=w2.trans e34.upd
   -- blocks known in h2 stay known
   have Nh:∀{u:Value},iD h' u->iD h2 u:=λN a n c e=>by
    cases eb:h2 a.block with
    | none=>rfl
    | some o=>
     have h0:=N a n c e;by_cases hb:a.block=r4
     ·rw[hb] at h0;exact absurd h0 B.known
     ·have:=w2 a.block o eb (by simpa using hb);rw[h0] at this;cases this
   have Zc:∃cs:List Value,cs.length=5∧Bx h4 r1 cs:=⟨_,rfl,Z.ext e34⟩;have est:i=0->T=aS4 (((s0::l).drop 1).foldl (mD room) (lK room s))∧s=s0:=λh0=>by
    subst h0;simp only[zLK,zL4] at hx;subst hx;exact⟨hT,rfl⟩
   by_cases c:P.2=0
   ·have q3:(P.2 !=0)=false:=by rw[c];rfl
    by_cases c0:i=0
    ·have q0:((i:Int)==0)=true:=by simp[c0]
     obtain⟨hT0,-⟩:=est c0;have ef:lK room s=if P.1.k≠1 then(Dm.zero,5) else if chk P.1.s room≠0 then(Dm.zero,chk P.1.s room) else(P.1.s,0):=by
      unfold lK;rw[hP,if_neg (λe=>e c)]
     have lk:cU h4 ⟨r24,0,none⟩=some (.int .i64 P.1.k):=B4.cell 0;have ls:cB PG h4 (loadAt aT (pT r24 (0+1)))=some (P.1.s.v vi):=aT.agg B4 (by show 0+1+5≤10;decide);by_cases c1:P.1.k=1
     ·have q1:(P.1.k !=1)=false:=by rw[c1];rfl
      rw[if_neg (λe=>e c1)] at ef;simp only[dY,q3,fO,q0,bT.f0,bT.f1,aR.load,lk,q1,ls,cD,reduceIte,cJ,Nat.reduceAdd];refine aHt (Si.ext u4) (by omega) hwf.s λh5 u5=>?_;by_cases c2:chk P.1.s room=0
      ·have q2:(chk P.1.s room !=0)=false:=by rw[c2];rfl
       have ok:=aCS.1 c2;rw[if_neg (λe=>e c2)] at ef;have ls5:cB PG h5 (loadAt aT (pT r24 (0+1)))=some (P.1.s.v vi):=aT.agg (B4.ext u5) (by show 0+1+5≤10;decide);simp only[dY,q2,bT.f1,ls5,cD,reduceIte,cJ,Nat.reduceAdd];refine aT.put ((B.ext e34).ext u5) (vs:=P.1.s.cells vi) (o:=0) rfl (by show 0+5≤5;decide) (Dm.isC _ Si.isc) λh6 B6 u6=>?_;have B6:Bx h6 r4 (P.1.s.cells vi):=B6;simp only[sP,yE,gi,cD,reduceIte,cJ,Nat.reduceAdd];refine⟨⟨i+1,P.1.s,vi,by omega,rfl,B6,((Z.ext e34).ext u5).upd u6 (by simpa using n14),aEH ((Si.ext u4).ext u5) (Nh Ni) k4 u6,Nh Ni,(w4.trans u5).fresh u6 f4,(w24.trans u5.upd).trans u6,λ_=>⟨ok,hwf.s,?_⟩⟩,by have hh:=hlt;rw[iN] at hh;simp[fN,x7];omega⟩;rw[hT0,ef,c0]
      ·have q2:(chk P.1.s room !=0)=true:=bne_iff_ne.2 c2;rw[if_pos c2] at ef;simp only[dY,q2,pY,cD,reduceIte,cJ,Nat.reduceAdd];refine bad _ ?_ ⟨_,rfl,(Z.ext e34).ext u5⟩ (w4.trans u5);rw[hTT,hT0,ef,aCq _ _ _ c2];exact if_pos c2
     ·have q1:(P.1.k !=1)=true:=bne_iff_ne.2 c1;rw[if_pos c1] at ef;simp only[dY,q3,fO,q0,bT.f0,aR.load,lk,q1,pY,cD,reduceIte,cJ,Nat.reduceAdd];refine bad 5 ?_ Zc w4;rw[hTT,hT0,ef,aCq _ _ _ (by show(5:Int)≠0;decide)];rfl
    ·have q0:((i:Int)==0)=false:=by rw[beq_eq_false_iff_ne];omega
     obtain⟨ok,wf,hTi⟩:=inv (by omega);have hr2:=ok.r2;have hlen:=ok.len;rw[ed,zLt] at hTi;have er:mD room (D,0) s=mB D room P.1:=by
      unfold mD;rw[if_pos rfl,hP,if_pos c]
     rw[er] at hTi;simp only[dY,q3,fO,q0,aIX (B.ext e34),aG5 B4,cD,reduceIte,cJ,Nat.reduceAdd];refine aOu (r:=P.1) (V.ext e34) wf (by omega) (Si.ext u4) (Sn.ext u4) hwf (by omega) (by omega) λh5 v' S5 N5 u5=>?_;have N5':iD h2 v':=by
      rcases N5 with N5|e
      ·exact Nh (N5.of e34)
      ·rw[e];exact Nh Ni
     have hg:=aFU (d:=D) (room:=room) (r:=P.1);have hw:=aJj (d:=D) (room:=room) (r:=P.1);obtain⟨Q,hQ⟩:∃Q,mB D room P.1=Q:=⟨_,rfl⟩;rw[hQ] at S5 hTi hg hw ⊢;simp only[cD,reduceIte,cJ,Nat.reduceAdd];intro r63 hr63
     try rw[cO]
     refine aT.fill (vs:=Q.1.cells v') hr63 rfl (Dm.isC _ S5.isc) λh6 B6 u6=>?_;have e56:=u5.trans u6;by_cases c5:Q.2=0
     ·have q5:(Q.2 !=0)=false:=by rw[c5];rfl
      simp only[dY,q5,aIX B6,cD,reduceIte,cJ,Nat.reduceAdd];refine aT.put ((B.ext e34).ext e56) (vs:=Q.1.cells v') (o:=0) rfl (by show 0+5≤5;decide) (Dm.isC _ S5.isc) λh7 B7 u7=>?_;have B7:Bx h7 r4 (Q.1.cells v'):=B7;simp only[sP,yE,gi,cD,reduceIte,cJ,Nat.reduceAdd];refine⟨⟨i+1,Q.1,v',by omega,rfl,B7,((Z.ext e34).ext e56).upd u7 (by simpa using n14),aEH (S5.ext u6) N5' k4 u7,N5',(w4.trans e56).fresh u7 f4,(w24.trans e56.upd).trans u7,λ_=>⟨(hg c5).2.2.1,hw c5 wf hwf,?_⟩⟩,by have hh:=hlt;rw[iN] at hh;simp[fN,x7];omega⟩;rw[hTi];congr 2;exact Prod.ext rfl c5
     ·have q5:(Q.2 !=0)=true:=bne_iff_ne.2 c5;simp only[dY,q5,pY,cD,reduceIte,cJ,Nat.reduceAdd];refine bad _ ?_ ⟨_,rfl,(Z.ext e34).ext e56⟩ (w4.trans e56);rw[hTT,hTi,aCq _ _ _ c5];exact if_pos c5
   ·have q3:(P.2 !=0)=true:=bne_iff_ne.2 c;simp only[dY,q3,pY,cD,reduceIte,cJ,Nat.reduceAdd];refine bad _ ?_ Zc w4;rw[hTT];by_cases c0:i=0
    ·obtain⟨hT0,-⟩:=est c0;have ef:lK room s=(Dm.zero,P.2):=by unfold lK;rw[hP,if_pos c]
     rw[hT0,ef,aCq _ _ _ c];exact if_pos c
    ·obtain⟨-,-,hTi⟩:=inv (by omega);have er:mD room (D,0) s=(D,P.2):=by unfold mD;rw[if_pos rfl,hP,if_neg c]
     rw[hTi,ed,zLt,er,aCq _ _ _ c];exact if_pos c
  ·have g:((i:Int)<((s0::l).length:Int))=False:=eq_false (by omega);obtain⟨ok,wf,hTi⟩:=inv (by rw[iN] at hlt;omega);rw[aAr (by omega)] at hTi;have hTi:T=(D,0):=hTi;simp only[lx,g,aIX B,cD,reduceIte,cJ,Nat.reduceAdd];exact fin D 0 v (by rw[hTT,hTi]) V NV ⟨_,rfl,Z⟩ w
def aKd{size gen ser m:Nat}:∀(xs:List Tx) (k p:Nat) (t:Tx),(∀s∈xs,s.length≤m)->(iW size gen ser xs k p t).1.length≤t.length+xs.length*m
 | [],_,_,_,_=>lA _
 | x::xs,k,p,t,h=>by
  have hx:=h x (by simp);have hb:=(aLE size x).2;have hm:(xs.length+1)*m=xs.length*m+m:=Nat.succ_mul _ _;rw[aEj,iN];have ih:=λq=>aKd (size:=size) (gen:=gen) (ser:=ser) (m:=m) xs (k+1) q (t++(fP size x).1.b) λs hs=>h s (by simp[hs]);generalize (if k=0 then(fP size x).1.parts else p)=q at *;split
  ·exact lA _
  ·split
   ·show(t++(fP size x).1.b).length≤_;rw[jK];omega
   ·have:=ih q;rw[jK] at this;omega
def aJx{size gen m:Nat}:∀(f:Nat) (xs:List Tx) (ser:Nat),(∀s∈xs,s.length≤m)->∀t∈(jR size gen f xs ser).1,t.length≤xs.length*m
 | 0,_,_,_,t,ht=>by cases ht
 | f+1,xs,ser,h,t,ht=>by
  unfold jR at ht;split at ht
  ·cases ht
  ·rcases iM.1 ht with rfl|ht
   ·have:=aKd (size:=size) (gen:=gen) (ser:=ser) (m:=m) xs 0 0 [] h;simpa using this
   ·have:=aJx f (xs.drop (iW size gen ser xs 0 0 []).2) (ser+1) (λs hs=>h s (List.mem_of_mem_drop hs)) t ht;rw[jE] at this;exact zLE this (zLO _ (by omega))
def aKu{d:Dk}(H:d.Ok)(h4:4≤d.sectors)(hs:d.sectors≤1000){hd:Hd}(hseg:hd.seg≤1)(slot:Nat):∀t∈(zI d hd slot).2,t.length≤1000000:=by
 intro t ht;have hz:=H.size.2;have hfit:=zZ d h4 hseg;have:=aJx (size:=d.size) (gen:=hd.gen) (m:=d.size) (d.segs+1) (d.secs (d.base hd.seg) d.segs) 0 (λs hs=>Nat.le_of_eq (aFs H (by omega) s hs)) t ht;rw[Dk.secs_len] at this;have hsg:d.segs≤1000:=by unfold Dk.segs;omega
 have:d.segs*d.size≤1000*512:=Nat.mul_le_mul hsg hz;omega
def aNh{d:Dk}(H:d.Ok)(hs:d.sectors≤1000):∀t∈(fL d).2.1.2,t.length≤1000000:=by
 have nil:∀t∈([]:List Tx),t.length≤1000000:=λt ht=>by cases ht
 unfold fL;split
 ·exact nil
 ·rename_i h4;split
  ·exact nil
  ·split
   ·split
    ·exact nil
    ·have hp:=vI [(fQ d.size ⟨1,0⟩).1] H.fl 1;exact aKu hp.1 (by rw[hp.2.2.1,d.fl_geo.2];omega) (by rw[hp.2.2.1,d.fl_geo.2];exact hs) (lA _) _
   ·exact aKu H.fl (by rw[d.fl_geo.2];omega) (by rw[d.fl_geo.2];exact hs) (aKD _ _ _).1 _
def aLG{h:PH}{r a m:Nat}{d d2:Dk}{jp vp:JP}{e room:Int}{p q:Pl}{F:List Nat}(H:oD r a m d jp e d2 vp room p q h F)(wp:p.wf)(wq:q.wf)(hs:d.sectors≤1000)(hs2:d2.sectors≤1000)(hb:d.buf.length≤800000)(hb2:d2.buf.length≤800000){k:cF}
  (hk:∀h' F' jp' vp',oD r a m (iT d room p q).1 jp' (iT d room p q).2.2 (iT d2 room p q).1 vp' room p q h' F'->eX h F h' F'->aD3 (iT d room p q) jp'->aD3 (iT d2 room p q) vp'->k (.bool (decide ((iT d room p q).2.2=(iT d2 room p q).2.2))) h'):bW PG mG #[pT r 0] h k:=by
 obtain⟨Fa,Fm,eF,B,P,D,n⟩:=id H.here;obtain⟨Fd,Dd,-⟩:=DpA.disk D;refine aPF H wp wq hs hs2 hb hb2 (λh v S hne k hk=>?_) hk;have hfew:=aIB Dd.ok;have hsg:d2.segs≤1000:=by unfold Dk.segs;omega
 exact aRO S (by omega) (aNh Dd.ok hs2) hk
def aKB{d:Dk}{w:Wl}{l:List Tx}(L:Log d w l)(hg:w.hd.gen<18446744073709551614){s:Dm}{room:Int}(ok:OkD s room)(wf:s.wf)(hp:dQ d.size (pR s).bs.length≤d.segs):
  ∃d' w',gK d w (lL s)=(d',w',0)∧aBM d' ⟨w',room,s⟩∧w'.hd.gen=w.hd.gen+1∧d'.size=d.size∧d'.sectors=d.sectors:=by
 rcases aHh L hg ok wf with h|h
 ·exact h
 ·obtain⟨d',w',e,-⟩:=aMw L (aHY (aFP ok)) hp hg;rw[aOz ok,e] at h;simp only[Prod.mk.injEq] at h;exact absurd h.2.2 (by decide)
def aRq{d:Dk}(H:aNp d)(h4:4≤d.sectors){room:Int}{p q:Pl}(wp:p.wf)(wq:q.wf)(hc:chk ⟨p,q,[]⟩ room=0)(hp:dQ d.size (pR ⟨p,q,[]⟩).bs.length≤d.segs):
  ∃d' w',iT d room p q=(d',⟨w',room,⟨p,q,[]⟩⟩,0)∧aBM d' ⟨w',room,⟨p,q,[]⟩⟩∧w'.hd.gen=2∧d'.size=d.size∧d'.sectors=d.sectors:=by
 obtain⟨d1,w1,e1,L,g1,z1,z2⟩:=aLX H h4;have es:kZ room ⟨p,q,[]⟩ []=(⟨p,q,[]⟩,0):=by unfold kZ;rw[if_pos rfl]
 obtain⟨d',w',e,I,g,y1,y2⟩:=aKB L (by omega) (aCS.1 hc) (s:=⟨p,q,[]⟩) ⟨wp,wq,by simp⟩ (by rw[z1,aHK z2];exact hp);refine⟨d',w',?_,I,by omega,y1.trans z1,y2.trans z2⟩;unfold iT;rw[if_neg (by simp[hc]),e1];simp only;rw[if_neg (by simp),es];simp only;rw[if_neg (by simp),e];simp only;rw[if_neg (by simp)]
def aL3{d:Dk}{j:Jn}(H:aBM d j)(hg:j.w.hd.gen<18446744073709551614){p q:Pl}(hc:chk ⟨p,q,[]⟩ j.room=0)(hp:dQ d.size (pR j.s).bs.length≤d.segs):
  ∃d' w',iT d j.room p q=(d',⟨w',j.room,j.s⟩,0)∧aBM d' ⟨w',j.room,j.s⟩∧w'.hd.gen=j.w.hd.gen+1∧d'.size=d.size∧d'.sectors=d.sectors:=by
 rcases aLg H hg hc with h|h
 ·exact h
 ·obtain⟨s0,rs,L,rg,wk⟩:=H.log;have eo:=aOR L;have es:kZ j.room ⟨p,q,[]⟩ ((pR s0::rs).map Rc.bs)=(j.s,0):=by
   unfold kZ;rw[if_neg (by simp),aO3 rg rfl,wk];simp
  have L':Log d ⟨j.w.hd,j.w.slot,j.w.used,j.w.ser,false,false⟩ ((pR s0::rs).map Rc.bs):=⟨L.ok,L.arm,L.buf,L.four,L.g1,L.g2,L.seg,L.slot,L.head,L.other,L.used,L.fits,L.ser,L.recs,L.short,L.rest,L.all,rfl⟩;obtain⟨d',w',e,-⟩:=aKB L' hg H.ok H.wf hp;unfold iT at h;rw[if_neg (by simp[hc]),eo] at h;simp only at h;rw[if_neg (by simp),es] at h;simp only at h;rw[if_neg (by simp),e] at h;simp only at h;rw[if_neg (by simp)] at h;cases h
def aTd{d:Dk}{j:Jn}(H:aBM d j)(hg:j.w.hd.gen<18446744073709551614){ch:Int}{q:Pl}{ns:List Nt}(wf:(gX ch q ns).wf)(h0:(mB j.s j.room (gX ch q ns)).2=0)(hp:dQ d.size (pR (mB j.s j.room (gX ch q ns)).1).bs.length≤d.segs):
  ∃d' j',aDT d j ch q ns=(d',j',0)∧aBM d' j'∧j'.w.hd.gen≤j.w.hd.gen+1∧j'.room=j.room∧d'.size=d.size∧d'.sectors=d.sectors∧j'.s=(mB j.s j.room (gX ch q ns)).1:=by
 obtain⟨d',j',e,eq,I,g,r,z1,z2,-,k⟩:=aO5 H hg wf;rcases k h0 with⟨e0,es⟩|⟨e2,-⟩
 ·subst e0;exact⟨d',j',eq,I,g,r,z1,z2,es⟩
 ·exfalso;subst e2;obtain⟨-,hr,ho,-⟩:=aFU h0;have hw:=aJj h0 H.wf wf;obtain⟨s0,rs,L,-,-⟩:=H.log;have eb:(gX ch q ns).bytes.1=(gX ch q ns).bs:=by
   rcases zU (gX ch q ns) with⟨-,b⟩|⟨a,-⟩
   ·rw[b]
   ·exact absurd hr a
  unfold aDT at eq;rw[if_neg (by rw[H.broken];simp),if_neg (by simp[h0])] at eq;unfold aF2 at eq;rw[eb] at eq;cases hf:fits d j.w (gX ch q ns).bs.length with
  | true=>
   rw[hf,if_pos rfl] at eq;obtain⟨d1,w1,e1,-⟩:=aLw L H.ready (aHY hr) hf;rw[e1] at eq;simp only[Prod.mk.injEq] at eq;exact absurd eq.2.2 (by decide)
  | false=>
   rw[hf,if_neg (by simp)] at eq;obtain⟨d1,w1,e1,-⟩:=aKB L hg ho hw hp;rw[e1] at eq;simp only[Prod.mk.injEq] at eq;exact absurd eq.2.2 (by decide)
def aNF{size sectors:Nat}(ok:fS size)(h1:1≤sectors)(h2:sectors≤4096):aNp (Dk.new size sectors):=⟨Dk.new_ok ok h1 h2,rfl,rfl,λi hi=>by
 show(List.replicate sectors (kQ size)).getD i []=kQ size;have hi:i<sectors:=hi;rw[aDm,List.getElem?_replicate,if_pos hi];rfl⟩
def jS0:Dm:=⟨⟨5,0⟩,⟨5,0⟩,[]⟩
def jPk:Pk:=⟨0,1,9,⟨#[]⟩⟩
def jN:Nt:=⟨1,jPk⟩
def jS1:Dm:=⟨⟨6,1⟩,⟨5,0⟩,[⟨jPk,1⟩]⟩
def aQ2:mB jS0 2 (gX 0 ⟨6,1⟩ [jN])=(jS1,0):=by decide +kernel
def aQm:chk jS0 2=0:=by decide +kernel
def aVx:dQ 64 (pR jS0).bs.length≤9:=by decide +kernel
def aVZ:dQ 64 (pR jS1).bs.length≤9:=by decide +kernel
def aXH:(gX 0 ⟨6,1⟩ [jN]).wf:=⟨⟨Pl.wf_zero,Pl.wf_zero,by simp[gX,Dm.zero]⟩,⟨by decide,by decide⟩,by
 intro x hx;simp only[gX,iI] at hx;subst hx;exact⟨by decide,by decide,by decide,by decide⟩⟩
def aG3:Pl.wf ⟨5,0⟩:=⟨by decide,by decide⟩
def aUU:Pl.wf ⟨6,1⟩:=⟨by decide,by decide⟩
def aWh:∃d1 w1 d2 j2 d3 w3 d4 w4,
  iT (Dk.new 64 20) 2 ⟨5,0⟩ ⟨5,0⟩=(d1,⟨w1,2,jS0⟩,0)∧aDT d1 ⟨w1,2,jS0⟩ 0 ⟨6,1⟩ [jN]=(d2,j2,0)∧
  iT d2 2 ⟨5,0⟩ ⟨5,0⟩=(d3,⟨w3,2,jS1⟩,0)∧iT d1 2 ⟨5,0⟩ ⟨5,0⟩=(d4,⟨w4,2,jS0⟩,0)∧d1.sectors=20∧d2.sectors=20∧d1.buf=[]∧d2.buf=[]:=by
 have B:=aNF (size:=64) (sectors:=20) (by decide) (by decide) (by decide);obtain⟨d1,w1,e1,I1,g1,z1,y1⟩:=aRq B (by decide) (room:=2) (p:=⟨5,0⟩) (q:=⟨5,0⟩) aG3 aG3 aQm aVx;have z1:d1.size=64:=z1;have y1:d1.sectors=20:=y1;have sg1:d1.segs=9:=by unfold Dk.segs;rw[y1]
 have e0:(mB jS0 2 (gX 0 ⟨6,1⟩ [jN])).2=0:=by rw[aQ2]
 obtain⟨d2,j2,e2,I2,g2,r2,z2,y2,s2⟩:=aTd I1 (by show w1.hd.gen<_;omega) (ch:=0) (q:=⟨6,1⟩) (ns:=[jN]) aXH e0 (by
  show dQ d1.size (pR (mB jS0 2 (gX 0 ⟨6,1⟩ [jN])).1).bs.length≤_;rw[aQ2,z1,sg1];exact aVZ)
 have s2:j2.s=jS1:=by
  have s2:j2.s=(mB jS0 2 (gX 0 ⟨6,1⟩ [jN])).1:=s2;rw[aQ2] at s2;exact s2
 have g2:j2.w.hd.gen≤w1.hd.gen+1:=g2;have r2:j2.room=2:=r2;have sg2:d2.segs=9:=by unfold Dk.segs;rw[y2,y1]
 obtain⟨d3,w3,e3,-⟩:=aL3 I2 (by omega) (p:=⟨5,0⟩) (q:=⟨5,0⟩) (by rw[r2];exact aQm) (by rw[s2,z2,z1,sg2];exact aVZ);rw[r2,s2] at e3;obtain⟨d4,w4,e4,-⟩:=aL3 I1 (by show w1.hd.gen<_;omega) (p:=⟨5,0⟩) (q:=⟨5,0⟩) aQm (by rw[z1,sg1];exact aVx);obtain⟨_,_,L1,-⟩:=I1.log;obtain⟨_,_,L2,-⟩:=I2.log;exact⟨d1,w1,d2,j2,d3,w3,d4,w4,e1,e2,e3,e4,y1,y2.trans y1,L1.buf,L2.buf⟩
structure aEg(h0 h:PH)(F:List Nat):Prop where
 ext:cX h0 h
 fr:dX h0 F
def aEg.step{h0 h h':PH}{F F':List Nat}(N:aEg h0 h F)(s:eX h F h' F'):aEg h0 h' F':=⟨N.ext.fresh s.upd N.fr,N.fr.grow N.ext s.grow⟩
def aEg.more{h0 h h':PH}{F:List Nat}(N:aEg h0 h F)(u:cX h h'):aEg h0 h' F:=⟨N.ext.trans u,N.fr⟩
def aCk{h h':PH}{F F':List Nat}{r:Nat}{cs:List Value}(B:Bx h r cs)(n:r∉F)(s:eX h F h' F'):Bx h' r cs∧r∉F':=⟨B.upd s.upd n,λhm=>by
 rcases s.grow _ hm with hx|hx
 ·exact n hx
 ·exact B.known hx⟩
abbrev plv(q:Pl):Value:=.agg q.cells.toArray
abbrev pkv(p:Pk):Value:=.agg p.cells.toArray
structure JAc where
 (k n ch:Int)
 q:Pl
 l:List Nt
 w:List (Bool×Int)
abbrev JV:=JAc×Value×Value
def wrw(x:Bool×Int):List Value:=[.bool x.1,.int .i64 x.2]
def jrw(y:JV):List Value:=[.int .i64 y.1.k,.int .i64 y.1.n,.int .i64 y.1.ch,.int .u64 y.1.q.h,.int .i64 y.1.q.i,y.2.1,y.2.2]
abbrev CSl(h:PH)(v:Value)(l:List (Bool×Int)):Prop:=hC h 2 v (l.map wrw)
structure JAc.wf(x:JAc):Prop where
 n:x.n<9223372036854775808
 q:x.q.wf
 l:∀y∈x.l,y.p.wf
structure JAs(h:PH)(v:Value)(l:List JV):Prop where
 s:hC h 7 v (l.map jrw)
 e:∀y∈l,yC h y.2.1 y.1.l∧CSl h y.2.2 y.1.w∧y.1.wf
def JAs.ext{h h':PH}{v:Value}{l:List JV}(H:JAs h v l)(u:cX h h'):JAs h' v l:=⟨H.s.ext u,λy hy=>⟨(H.e y hy).1.ext u,(H.e y hy).2.1.ext u,(H.e y hy).2.2⟩⟩
structure JPt(h:PH)(b o:Nat)(y:JV):Prop where
 k:cU h ⟨b,o,none⟩=some (.int .i64 y.1.k)
 n:cU h ⟨b,o+1,none⟩=some (.int .i64 y.1.n)
 c:cU h ⟨b,o+2,none⟩=some (.int .i64 y.1.ch)
 q:cB PG h (loadAt cG (pT b (o+3)))=some (plv y.1.q)
 l:cU h ⟨b,o+5,none⟩=some y.2.1
 w:cU h ⟨b,o+6,none⟩=some y.2.2
def JAs.pt{h:PH}{v:Value}{l:List JV}(H:JAs h v l){j:Nat}{y:JV}(hy:l[j]? =some y):
  ∃b o,cC PG (indexAt fU v (.int .i64 (j:Int)))=some (pT b o)∧JPt h b o y:=by
 obtain⟨b,o,cs,e',fr,h1,hb,hle,hex⟩:=H.s.at fU.und dR.info dR.size (k:=.i64) (j:=(j:Int)) (r:=jrw y) (by omega) (by rw[wV,wU,hy];rfl);have hd:∀i n,i+n≤7->(cs.extract (o+i) (o+i+n)).toList=((jrw y).drop i).take n:=λi n hi=>by
  rw[←hex];simp only[zLD,zLx,aB0,zLy,pN,aH8];congr 1;omega
 have hc:∀i c,i<7->(jrw y)[i]? =some c->cU h ⟨b,o+i,none⟩=some c:=λi c hi e=>by
  have:=congrArg (λl:List Value=>l[0]?) (hd i 1 (by omega));simp only[zLD,zLx,aB0,aEV,aJq] at this;unfold cU;simp only[hb];rw[←e];simpa using this
 refine⟨b,o,h1,hc 0 _ (by decide) rfl,hc 1 _ (by decide) rfl,hc 2 _ (by decide) rfl,?_,hc 5 _ (by decide) rfl,hc 6 _ (by decide) rfl⟩;rw[cG.loadAgg hb (by omega)];congr 2;exact zLw (hd 3 2 (by decide))
def aP3{h:PH}{v:Value}{l:List JV}(H:JAs h v l):cC PG (Builtin.len_ #[fU] aR #[v])=some (.int .i64 l.length):=by
 have:=H.s.len (t':=aR) fU.und;rw[iF] at this;exact this
def aVD{h:PH}{v:Value}{l:List (Bool×Int)}(H:CSl h v l):cC PG (Builtin.len_ #[jF] aR #[v])=some (.int .i64 l.length):=by
 have:=H.len (t':=aR) jF.und;rw[iF] at this;exact this
end
section
open Go Go.RowKit Go.ChangeShapes
def cG.cells:PG.cellsOf cG=2:=by kernel_rfl
def cR.cells:PG.cellsOf cR=4:=by kernel_rfl
def rO.cells:PG.cellsOf rO=2:=by kernel_rfl
def dR.cells:PG.cellsOf dR=7:=by kernel_rfl
def cT.cells:PG.cellsOf cT=1:=by kernel_rfl
def jF.cells:PG.cellsOf jF=1:=by kernel_rfl
section
variable{H:Type}{enc:TypeId×Value->H}{w:World}{spare:Nat->Bool}{held:Bool}
def aIt{α:Type}{cells:α->List Value}{P:α->Prop}{t:TypeId}(hof:∀cs,Rd enc PG w spare held t cs->∃a,cs=cells a∧P a):∀{rows:List (List Value)},(∀r∈rows,Rd enc PG w spare held t r)->∃xs:List α,rows=xs.map cells∧∀x∈xs,P x
 | [],_=>⟨[],rfl,by simp⟩
 | r::rs,h=>by
  obtain⟨m,rfl,hm⟩:=hof r (h r (by simp));obtain⟨xs,rfl,hx⟩:=aIt hof (rows:=rs) (λx hx=>h x (by simp[hx]));exact⟨m::xs,rfl,λx hx'=>by rcases iM.1 hx' with rfl|h;exact hm;exact hx x h⟩
def Pk.rd{cs:List Value}(h:Rd enc PG w spare held bX cs):∃p:Pk,cs=p.cells∧p.wf:=by
 obtain⟨hl,hf⟩:=aF7 bX.und h;rw[bX.cells] at hl
 match cs,hl with
 | [c0,c1,c2,c3],_=>
  have f0:Rd enc PG w spare held aR (([c0,c1,c2,c3].drop 0).take (PG.cellsOf aR)):=hf 0 _ rfl;rw[aR.cells] at f0;have f1:Rd enc PG w spare held cI (([c0,c1,c2,c3].drop 1).take (PG.cellsOf cI)):=hf 1 _ rfl;rw[cI.cells] at f1;have f2:Rd enc PG w spare held cI (([c0,c1,c2,c3].drop 2).take (PG.cellsOf cI)):=hf 2 _ rfl;rw[cI.cells] at f2;have f3:Rd enc PG w spare held bR (([c0,c1,c2,c3].drop 3).take (PG.cellsOf bR)):=hf 3 _ rfl;rw[bR.cells] at f3;obtain⟨n0,e0,-⟩:=aDL aR.und f0;obtain⟨n1,e1,w1⟩:=aDL cI.und f1;have w1:=aOQ w1;obtain⟨n2,e2,w2⟩:=aDL cI.und f2;have w2:=aOQ w2;obtain⟨n3,e3,-⟩:=aSl bR.und f3;simp only[zLa,zLb,zLc,zLd,kP,and_true] at e0 e1 e2 e3;subst e0 e1 e2 e3;exact⟨⟨n0,n1,n2,n3⟩,rfl,w1.1,by show n1<_;omega,w2.1,by show n2<_;omega⟩
def Nt.rd{cs:List Value}(h:Rd enc PG w spare held cK cs):∃p:Nt,cs=p.cells∧p.p.wf:=by
 obtain⟨hl,hf⟩:=aF7 cK.und h;rw[cK.cells] at hl
 match cs,hl with
 | [c0,c1,c2,c3,c4],_=>
  have f0:Rd enc PG w spare held aR (([c0,c1,c2,c3,c4].drop 0).take (PG.cellsOf aR)):=hf 0 _ rfl;rw[aR.cells] at f0;have f1:Rd enc PG w spare held bX (([c0,c1,c2,c3,c4].drop 1).take (PG.cellsOf bX)):=hf 1 _ rfl;rw[bX.cells] at f1;obtain⟨n0,e0,-⟩:=aDL aR.und f0;obtain⟨n1,e1,w1⟩:=Pk.rd f1;simp only[zLa,zLb,zLc,zLd,kP,and_true,Pk.cells] at e0 e1;obtain⟨rfl,rfl,rfl,rfl⟩:=e1;subst e0;exact⟨⟨n0,n1⟩,rfl,w1⟩
def Nt.rds{rows:List (List Value)}(h:∀r∈rows,Rd enc PG w spare held cK r):∃xs:List Nt,rows=xs.map Nt.cells∧∀x∈xs,x.p.wf:=aIt (λ_=>Nt.rd) h
def Pl.rd{cs:List Value}(h:Rd enc PG w spare held cG cs):∃p:Pl,cs=p.cells∧p.wf:=by
 obtain⟨hl,hf⟩:=aF7 cG.und h;rw[cG.cells] at hl
 match cs,hl with
 | [c0,c1],_=>
  have f0:Rd enc PG w spare held cI (([c0,c1].drop 0).take (PG.cellsOf cI)):=hf 0 _ rfl;rw[cI.cells] at f0;have f1:Rd enc PG w spare held aR (([c0,c1].drop 1).take (PG.cellsOf aR)):=hf 1 _ rfl;rw[aR.cells] at f1;obtain⟨n0,e0,w0⟩:=aDL cI.und f0;have w0:=aOQ w0;obtain⟨n1,e1,-⟩:=aDL aR.und f1;simp only[zLa,zLb,zLc,zLd,kP,and_true] at e0 e1;subst e0 e1;exact⟨⟨n0,n1⟩,rfl,w0.1,by show n0<_;omega⟩
def lC.rd{cs:List Value}(h:Rd enc PG w spare held cR cs):∃p:Pl×Pl,cs=p.1.cells++p.2.cells∧p.1.wf∧p.2.wf:=by
 obtain⟨hl,hf⟩:=aTX cR.und h;rw[cR.cells] at hl
 match cs,hl with
 | [c0,c1,c2,c3],_=>
  have f0:Rd enc PG w spare held cG (([c0,c1,c2,c3].drop (0*PG.cellsOf cG)).take (PG.cellsOf cG)):=hf 0 (by decide);have f1:Rd enc PG w spare held cG (([c0,c1,c2,c3].drop (1*PG.cellsOf cG)).take (PG.cellsOf cG)):=hf 1 (by decide);rw[cG.cells] at f0 f1;obtain⟨p,e0,w0⟩:=Pl.rd f0;obtain⟨q,e1,w1⟩:=Pl.rd f1;simp only[Nat.zero_mul,Nat.one_mul,zLa,zLb,zLc,zLd,kP,and_true,Pl.cells] at e0 e1;obtain⟨rfl,rfl⟩:=e0;obtain⟨rfl,rfl⟩:=e1;exact⟨(p,q),rfl,w0,w1⟩
def aVH{r:Reach}{base:Nat}{v:Value}{d:DataW H}{p:List MemPlace}(hval:Value.okWide PG w r base cR v)(hd:DataW.Trod enc PG w 0 spare held cR v d p):
  ∃a b:Pl,v=lC a b∧a.wf∧b.wf:=by
 have hu:PG.underlying cR=some (.array 2 cG):=cR.und;simp only[Value.okWide,hu] at hval;obtain⟨cs,rfl,_⟩:=hval;obtain⟨⟨a,b⟩,e,ha,hb⟩:=lC.rd (aSx hd);refine⟨a,b,?_,ha,hb⟩;rw[lC];congr 1;exact Array.toList_inj.1 e
def Wt.rd{cs:List Value}(h:Rd enc PG w spare held rO cs):∃p:Bool×Int,cs=wrw p∧True:=by
 obtain⟨hl,hf⟩:=aF7 rO.und h;rw[rO.cells] at hl
 match cs,hl with
 | [c0,c1],_=>
  have f0:Rd enc PG w spare held iY (([c0,c1].drop 0).take (PG.cellsOf iY)):=hf 0 _ rfl;rw[iY.cells] at f0;have f1:Rd enc PG w spare held aR (([c0,c1].drop 1).take (PG.cellsOf aR)):=hf 1 _ rfl;rw[aR.cells] at f1;obtain⟨n0,e0⟩:=aU1 iY.und f0;obtain⟨n1,e1,-⟩:=aDL aR.und f1;simp only[zLa,zLb,zLc,zLd,kP,and_true] at e0 e1;subst e0 e1;exact⟨(n0,n1),rfl,trivial⟩
def Wt.rds{rows:List (List Value)}(h:∀r∈rows,Rd enc PG w spare held rO r):∃xs:List (Bool×Int),rows=xs.map wrw∧∀x∈xs,True:=aIt (λ_=>Wt.rd) h
def JV.rd{cs:List Value}(h:Rd enc PG w spare held dR cs):∃p:JV,cs=jrw p∧yC (aEv w) p.2.1 p.1.l∧CSl (aEv w) p.2.2 p.1.w∧p.1.wf:=by
 obtain⟨hl,hf⟩:=aF7 dR.und h;rw[dR.cells] at hl
 match cs,hl with
 | [c0,c1,c2,c3,c4,c5,c6],_=>
  have f0:Rd enc PG w spare held aR (([c0,c1,c2,c3,c4,c5,c6].drop 0).take (PG.cellsOf aR)):=hf 0 _ rfl;rw[aR.cells] at f0;have f1:Rd enc PG w spare held aR (([c0,c1,c2,c3,c4,c5,c6].drop 1).take (PG.cellsOf aR)):=hf 1 _ rfl;rw[aR.cells] at f1;have f2:Rd enc PG w spare held aR (([c0,c1,c2,c3,c4,c5,c6].drop 2).take (PG.cellsOf aR)):=hf 2 _ rfl;rw[aR.cells] at f2;have f3:Rd enc PG w spare held cG (([c0,c1,c2,c3,c4,c5,c6].drop 3).take (PG.cellsOf cG)):=hf 3 _ rfl;rw[cG.cells] at f3;have f4:Rd enc PG w spare held cT (([c0,c1,c2,c3,c4,c5,c6].drop 5).take (PG.cellsOf cT)):=hf 4 _ rfl;rw[cT.cells] at f4;have f5:Rd enc PG w spare held jF (([c0,c1,c2,c3,c4,c5,c6].drop 6).take (PG.cellsOf jF)):=hf 5 _ rfl;rw[jF.cells] at f5;obtain⟨n0,e0,-⟩:=aDL aR.und f0;obtain⟨n1,e1,w1⟩:=aDL aR.und f1;have w1:=aVa w1;obtain⟨n2,e2,-⟩:=aDL aR.und f2;obtain⟨n3,e3,w3⟩:=Pl.rd f3;obtain⟨v4,rows4,e4,S4,hr4⟩:=aLD cT.und (by rw[cK.cells];decide) f4;obtain⟨n4,q4,w4⟩:=Nt.rds hr4;subst q4;rw[cK.cells] at S4;obtain⟨v5,rows5,e5,S5,hr5⟩:=aLD jF.und (by rw[rO.cells];decide) f5;obtain⟨n5,q5,w5⟩:=Wt.rds hr5;subst q5;rw[rO.cells] at S5;simp only[zLa,zLb,zLc,zLd,kP,and_true,Pl.cells] at e0 e1 e2 e3 e4 e5;obtain⟨rfl,rfl⟩:=e3;subst e0 e1 e2 e4 e5;exact⟨(⟨n0,n1,n2,n3,n4,n5⟩,_,_),rfl,S4,S5,⟨w1.2,w3,w4⟩⟩
def JV.rds{rows:List (List Value)}(h:∀r∈rows,Rd enc PG w spare held dR r):∃xs:List JV,rows=xs.map jrw∧∀y∈xs,yC (aEv w) y.2.1 y.1.l∧CSl (aEv w) y.2.2 y.1.w∧y.1.wf:=aIt (λ_=>JV.rd) h
end
def JAs.of{h:PH}{v:Value}{rows:List (List Value)}(S:hC h 7 v rows)(e:∃xs:List JV,rows=xs.map jrw∧∀y∈xs,yC h y.2.1 y.1.l∧CSl h y.2.2 y.1.w∧y.1.wf):∃L,JAs h v L:=by
 obtain⟨L,rfl,w⟩:=e;exact⟨L,S,w⟩
def aLZ:List (String×DataW Unit):=[("unicode/utf8.acceptRanges",Rows.laid_unicode_utf8_acceptRanges),("unicode/utf8.first",Rows.laid_unicode_utf8_first)]
def kOf{W:World}(_:laidMetH Tryz.prog aLZ W):True:=trivial
end
section
open Go
def aWn{h:PH}{d:Nat}(q q':Pl):cB PG h (Op.equalIn (d+1+1) cG (plv q) (plv q'))=some (decide (q=q')):=by
 rw[aAG cG.und (by kernel_rfl) (λf=>match f.offset with|0=>q.h==q'.h|_=>q.i==q'.i)]
 ·congr 1;rw[xE];obtain⟨a,b⟩:=q;obtain⟨a',b'⟩:=q';simp
 ·intro f hf;simp only[iM,zLg,or_false] at hf;rcases hf with rfl|rfl
  ·exact⟨by decide,_,_,iC cI.und rfl rfl,iC cI.und rfl rfl,qI cI.und⟩
  ·exact⟨by decide,_,_,iC aR.und rfl rfl,iC aR.und rfl rfl,qI aR.und⟩
def aVP{h:PH}{x y:Operand}(q q':Pl):cB PG h (fJ .eql cG x y (plv q) (plv q'))=some (.bool (decide (q=q'))):=aHx (by kernel_rfl) (aWn (d:=9998) q q')
def aWU{h:PH}{d:Nat}(m m':Pk):cB PG h (Op.equalIn (d+1+1) bX (pkv m) (pkv m'))=some (decide (m=m')):=by
 have:cB PG h (Op.equalIn (d+1+1) bX (pkv m) (pkv m'))=some (m.f==m'.f&&(m.s==m'.s&&(m.t==m'.t&&(m.d==m'.d&&true)))):=by
  refine(aAG bX.und (by kernel_rfl) (λf=>match f.offset with|0=>m.f==m'.f|1=>m.s==m'.s|2=>m.t==m'.t|_=>m.d==m'.d) ?_);intro f hf;simp only[iM,zLg,or_false] at hf;rcases hf with rfl|rfl|rfl|rfl
  ·exact⟨by decide,_,_,iC aR.und rfl rfl,iC aR.und rfl rfl,qI aR.und⟩
  ·exact⟨by decide,_,_,iC cI.und rfl rfl,iC cI.und rfl rfl,qI cI.und⟩
  ·exact⟨by decide,_,_,iC cI.und rfl rfl,iC cI.und rfl rfl,qI cI.und⟩
  ·exact⟨by decide,_,_,iC bR.und rfl rfl,iC bR.und rfl rfl,aKl bR.und⟩
 rw[this,aNO];congr 1;rw[xE];obtain⟨a,b,c,e⟩:=m;obtain⟨a',b',c',e'⟩:=m';simp
def aVw{h:PH}{x y:Operand}(m m':Pk):cB PG h (fJ .eql bX x y (pkv m) (pkv m'))=some (.bool (decide (m=m'))):=aHx (by kernel_rfl) (aWU (d:=9998) m m')
def aXO:cC PG (build cG #[(0,(Value.int IntKind.u64 5))])=some (plv ⟨5,0⟩):=by kernel_rfl
def aXA:cC PG (build cR #[(0,plv ⟨5,0⟩),(1,plv ⟨5,0⟩)])=some (lC ⟨5,0⟩ ⟨5,0⟩):=by kernel_rfl
def aT4:cC PG (build cG #[(0,(Value.int IntKind.u64 6)),(1,(Value.int IntKind.i64 1))])=some (plv ⟨6,1⟩):=by kernel_rfl
def aW8:cC PG (build bX #[(1,(Value.int IntKind.u64 1)),(2,(Value.int IntKind.u64 9))])=some (pkv jPk):=by kernel_rfl
def aXL:cC PG (build cK #[(0,(Value.int IntKind.i64 1)),(1,pkv jPk)])=some (.agg jN.cells.toArray):=by kernel_rfl
def aV0:jT PG (buildSlice cT 1 #[(0,.agg jN.cells.toArray)])=some (.cells jN.cells.toArray cK,λr=>pure (.slice (some ⟨r,0,none⟩) 1 1)):=by kernel_rfl
def aO0{h:PH}{x y:Operand}{r:Nat}:cB PG h (fJ .eql oI x y (pT r 0) (.pointer none))=some (.bool false):=wT oI.und
def aWJ{h:PH}{v:Value}{l:List It}(S:jL h v l){j:Nat}{x:It}(hx:l[j]? =some x):∃b o,cC PG (indexAt bY v (.int .i64 (j:Int)))=some (pT b o)∧cB PG h (loadAt bX (pT b o))=some (pkv x.p):=by
 obtain⟨b,o,cs,e',fr,h1,hb,hle,hex⟩:=S.at bY.und cE.info cE.size (k:=.i64) (j:=(j:Int)) (r:=x.cells) (by omega) (by rw[wV,wU,hx];rfl);refine⟨b,o,h1,?_⟩;rw[bX.loadAgg hb (by omega)];congr 2;apply zLw;have:=congrArg (λl:List Value=>l.take 4) hex;simp only[zLD,zLx,aB0,aH8] at this ⊢;exact this
def oD.scan{r a m w j:Nat}{d d2:Dk}{x:Jn}{vp:JP}{e room:Int}{p q:Pl}{h:PH}{F:List Nat}(H:oD r a m d (some (w,j,x)) e d2 vp room p q h F){vn:Value}{ns:List Nt}(ch:Int)(qs:Pl)(hq:qs.wf)(N:yC h vn ns)(hn:∀y∈ns,y.p.wf)(hb:d.buf.length≤900000){k:cF}
  (hk:∀h' F',oD r a m (aDT d x ch qs ns).1 (some (w,j,(aDT d x ch qs ns).2.1)) e d2 vp room p q h' F'->eX h F h' F'->k (.int .i64 (aDT d x ch qs ns).2.2) h'):bW PG pM #[pT j 0,.int .i64 ch,.agg qs.cells.toArray,vn] h k:=by
 obtain⟨Fa,Fm,rfl,B,P,D,n1,n2,n3⟩:=H.here;have P:sZ a w j d x h Fa:=P;refine aOZ P ch qs hq N hn hb λh1 F1 P1 s1=>?_;obtain⟨B1,D1,m1,m3⟩:=oD.prog (d:=d) (d':=d) (jp':=vp) (e':=e) B D n1 n2 n3 s1;exact hk h1 (r::(F1++Fm)) ⟨⟨F1,Fm,rfl,B1,P1,D1,m1,n2,m3⟩⟩ (eX.app [r] (eX.appR Fm s1))
structure aWw(r a m:Nat)(jp:JP)(e:Int)(vp:JP)(room:Int)(p q:Pl)(h:PH):Prop where
 d:cU h ⟨r,0,none⟩=some (pT a 0)
 j:cU h ⟨r,0+1,none⟩=some (aDp jp)
 e:cU h ⟨r,0+2,none⟩=some (.int .i64 e)
 m:cU h ⟨r,0+3,none⟩=some (pT m 0)
 v:cU h ⟨r,0+4,none⟩=some (aDp vp)
def oD.b{r a m:Nat}{d d2:Dk}{jp vp:JP}{e room:Int}{p q:Pl}{h:PH}{F:List Nat}(H:oD r a m d jp e d2 vp room p q h F):aWw r a m jp e vp room p q h:=by
 obtain⟨_,_,_,B,_⟩:=H.here;exact⟨B.cell 0,B.cell 1,B.cell 2,B.cell 3,B.cell 4⟩
def oD.state{r a m w j:Nat}{d d2:Dk}{x:Jn}{vp:JP}{e room:Int}{p q:Pl}{h:PH}{F:List Nat}(H:oD r a m d (some (w,j,x)) e d2 vp room p q h F){k:cF}(hk:∀h' v,jL h' v x.s.its->iD h v->cX h h'->k (x.s.v v) h'):bW PG mN #[pT j 0] h k:=by
 obtain⟨_,_,_,_,P,_⟩:=H.here;have P:sZ a w j d x h _:=P;exact aK4 P hk
def aQr{h:PH}{k:cF}(hk:∀h',cX h h'->k (.bool true) h'):bW PG aAv #[] h k:=by
 apply qZ.call;unfold qZ;obtain⟨d1,w1,d2,j2,d3,w3,d4,w4,e1,e2,e3,e4,y1,y2,q1,q2⟩:=aWh;simp only[aXO,aXA,cD,reduceIte,cJ,Nat.reduceAdd];refine aM8 64 20 (by decide) (by decide) (by decide) 2 ⟨5,0⟩ ⟨5,0⟩ λh1 r a m F1 P1 f1 u1=>?_;have N1:aEg h h1 F1:=⟨u1,f1⟩;simp only[aO0,cD,reduceIte,cJ,Nat.reduceAdd];refine aLG P1 aG3 aG3 (by decide) (by decide) (by decide) (by decide) λh2 F2 jp vp P2 s2 o2 v2=>?_;rw[e1] at P2 o2 v2 ⊢;have N2:=N1.step s2;obtain⟨w,j,rfl⟩:=o2.1 rfl;obtain⟨wv,jv,rfl⟩:=v2.1 rfl;have b2:=P2.b;simp only[decide_true,dK.f1,eJ.load,b2.j,aMb,aKz,aW8,cD,reduceIte,cJ,Nat.reduceAdd];intro r41 hr41
 try rw[cO]
 refine bX.fill (vs:=jPk.cells) hr41 rfl (Pk.isC _) λh3 B3 u3=>?_;have n3:r41∉F2:=λhm=>P2.known r41 hm hr41;have P3:=P2.ext u3;have N3:=N2.more u3;have b3:=P3.b;have l3:cB PG h3 (loadAt bX (pT r41 0))=some (pkv jPk):=bX.agg B3 (by show 0+4≤4;decide);simp only[dK.f1,eJ.load,b3.j,aT4,l3,aXL,aV0,cD,reduceIte,cJ,Nat.reduceAdd];intro r51 hr51;refine gV ?_
 try rw[cO]
 have u4:cX h3 (h3.set r51 (.cells jN.cells.toArray cK)):=cV.new hr51;have S4:yC (h3.set r51 (.cells jN.cells.toArray cK)) (.slice (some ⟨r51,0,none⟩) 1 1) [jN]:=(eD.lit (n:=1) (Nt.rows _) eB (by simp) (by decide) (by simp)).slR;generalize h3.set r51 (.cells jN.cells.toArray cK)=h4 at *;have P4:=P3.ext u4;have N4:=N3.more u4;refine P4.scan 0 ⟨6,1⟩ aUU S4 (λy hy=>?_) (by rw[q1];decide) λh5 F5 P5 s5=>?_
 ·simp only[iI] at hy;subst hy;exact⟨by decide,by decide,by decide,by decide⟩
 rw[e2] at P5 ⊢;have P5:oD r a m d2 (some (w,j,j2)) 0 d1 (some (wv,jv,(⟨w1,2,jS0⟩:Jn))) 2 ⟨5,0⟩ ⟨5,0⟩ h5 F5:=P5;have N5:=N4.step s5;obtain⟨B5,n5⟩:=aCk (B3.ext u4) n3 s5;refine aLG P5 aG3 aG3 (by rw[y2];decide) (by rw[y1];decide) (by rw[q2];decide) (by rw[q1];decide) λh6 F6 jp' vp' P6 s6 o6 v6=>?_;rw[e3,e4] at P6 ⊢;rw[e3] at o6;rw[e4] at v6;have N6:=N5.step s6;obtain⟨B6,n6⟩:=aCk B5 n5 s6;obtain⟨w',j',rfl⟩:=o6.1 rfl;have b6:=P6.b;simp only[decide_true,dK.f1,eJ.load,b6.j,aMb,aKz,cD,reduceIte,cJ,Nat.reduceAdd];refine P6.state λh7 v S7 nv u7=>?_;have S7:jL h7 v [⟨jPk,1⟩]:=S7;simp only[cD,reduceIte,cJ,Nat.reduceAdd];intro r85 hr85
 try rw[cO]
 refine aT.fill (vs:=jS1.cells v) hr85 rfl (Dm.isC _ S7.isc) λh8 B8 u8=>?_;have B8p:=(B6.ext u7).ext u8;have l8:cB PG h8 (loadAt bX (pT r41 0))=some (pkv jPk):=bX.agg B8p (by show 0+4≤4;decide);have c4:cU h8 ⟨r85,0+4,none⟩=some v:=B8.cell 4;have lv:cC PG (Builtin.len_ #[bY] aR #[v])=some (.int .i64 1):=S7.len (t':=aR) bY.und;obtain⟨b,o,i1,i2⟩:=aWJ (S7.ext u8) (j:=0) rfl;have i1:cC PG (indexAt bY v (.int .i64 0))=some (pT b o):=i1;have i2:cB PG h8 (loadAt bX (pT b o))=some (pkv jPk):=i2;have x0:cC PG (indexAt cR (pT r85 0) (.int .i64 0))=some (pT r85 0):=by kernel_rfl
 have l0:cB PG h8 (loadAt cG (pT r85 0))=some (plv ⟨6,1⟩):=cG.agg B8 (by show 0+2≤5;decide);have q3:((0:Int)==0)=true:=rfl;have q4:((1:Int)==1)=true:=rfl;simp only[fO,q3,q4,aT.f0,aT.f1,bY.load,c4,lv,i1,cE.f0,i2,l8,aVw,decide_true,x0,l0,aT4,aVP,cD,reduceIte,cJ,Nat.reduceAdd];exact hk h8 ((N6.ext.trans u7).trans u8)
structure aXR(size sectors:Int)(L:List JV):Prop where
 s1:64≤size
 s2:size≤128
 n1:1≤sectors
 n2:sectors≤60
 len:L.length≤30
 each:∀y∈L,y.1.l.length≤40∧y.1.w.length≤100
def aUs{h:PH}{v:Value}{l:List Nt}(S:yC h v l):cC PG (Builtin.len_ #[cT] aR #[v])=some (.int .i64 l.length):=by
 have:=S.len (t':=aR) cT.und;rw[iF] at this;exact this
def aWf{h:PH}{v:Value}{l:List Nt}(S:yC h v l){j:Nat}{x:Nt}(hx:l[j]? =some x):∃b o,cC PG (indexAt cT v (.int .i64 (j:Int)))=some (pT b o)∧cU h ⟨b,o+4,none⟩=some (.string x.p.d):=by
 obtain⟨b,o,h1,h2,-⟩:=S.fields cT.und cK.info cK.size (k:=.i64) (j:=j) (r:=x.cells) (by rw[wV,hx];rfl);exact⟨b,o,h1,h2 4 _ rfl⟩
def aTz{h:PH}{v:Value}{L:List JV}(A:JAs h v L)(size sectors:Int){k:cF}(hk:∀b,(b=true->aXR size sectors L)->k (.bool b) h):bW PG aBu #[.int .i64 size,.int .i64 sectors,v] h k:=by
 apply tF.call;unfold tF;have no:k (.bool false) h:=hk false λe=>by cases e
 have ll:=aP3 A;by_cases c1:size<64
 ·have g1:(size<64)=True:=eq_true c1;simp only[g1,cD,reduceIte,cJ,Nat.reduceAdd];exact no
 have g1:(size<64)=False:=eq_false c1;by_cases c2:128<size
 ·have g2:((128:Int)<size)=True:=eq_true c2;simp only[g1,g2,cD,reduceIte,cJ,Nat.reduceAdd];exact no
 have g2:((128:Int)<size)=False:=eq_false c2;by_cases c3:sectors<1
 ·have g3:(sectors<1)=True:=eq_true c3;simp only[g1,g2,g3,cD,reduceIte,cJ,Nat.reduceAdd];exact no
 have g3:(sectors<1)=False:=eq_false c3;by_cases c4:60<sectors
 ·have g4:((60:Int)<sectors)=True:=eq_true c4;simp only[g1,g2,g3,g4,cD,reduceIte,cJ,Nat.reduceAdd];exact no
 have g4:((60:Int)<sectors)=False:=eq_false c4;by_cases c5:30<L.length
 ·have g5:((30:Int)<(L.length:Int))=True:=eq_true (by omega);simp only[g1,g2,g3,g4,ll,g5,cD,reduceIte,cJ,Nat.reduceAdd];exact no
 have g5:((30:Int)<(L.length:Int))=False:=eq_false (by omega);simp only[g1,g2,g3,g4,ll,g5,cD,reduceIte,cJ,Nat.reduceAdd];refine⟨λvs h'=>∃i:Nat,i≤L.length∧vs=[v,.int .i64 (i:Int)]∧h'=h∧∀y∈L.take i,y.1.l.length≤40∧y.1.w.length≤100,fN L.length 1,⟨0,by omega,rfl,rfl,by simp⟩,?_⟩;rintro ρ h' ⟨i,hi,hvs,rfl,hy⟩;simp only[hM,jA,kP,and_true] at hvs;obtain⟨v0,v1⟩:=hvs;unfold aEO;rw[v0,v1];by_cases hlt:i<L.length
 ·have g6:((i:Int)<(L.length:Int))=True:=eq_true (by omega);have gi:=nR (i:=i) (by omega);obtain⟨y,hx⟩:∃x,L[i]? =some x:=⟨_,kV hlt⟩;obtain⟨b,o,i1,P⟩:=A.pt hx;obtain⟨NS,CS,wf⟩:=A.e y (aAB hx);have ln:=aUs NS;have lc:=aVD CS;by_cases d1:40<y.1.l.length
  ·have k1:((40:Int)<(y.1.l.length:Int))=True:=eq_true (by omega);simp only[ll,g6,i1,dR.f4,cT.load,P.l,ln,k1,cD,reduceIte,cJ,Nat.reduceAdd];exact no
  have k1:((40:Int)<(y.1.l.length:Int))=False:=eq_false (by omega);by_cases d2:100<y.1.w.length
  ·have k2:((100:Int)<(y.1.w.length:Int))=True:=eq_true (by omega);simp only[ll,g6,i1,dR.f4,dR.f5,cT.load,jF.load,P.l,P.w,ln,lc,k1,k2,cD,reduceIte,cJ,Nat.reduceAdd];exact no
  have k2:((100:Int)<(y.1.w.length:Int))=False:=eq_false (by omega);simp only[ll,g6,i1,dR.f4,dR.f5,cT.load,jF.load,P.l,P.w,ln,lc,k1,k2,cD,reduceIte,cJ,Nat.reduceAdd];refine⟨λvs h2=>∃m:Nat,m≤y.1.l.length∧vs=[v,.int .i64 (i:Int),.int .i64 (m:Int)]∧h2=h',fN y.1.l.length 2,⟨0,by omega,rfl,rfl⟩,?_⟩;rintro ρ2 h2 ⟨m,hm,hvs2,rfl⟩;simp only[hM,jA,kP,and_true] at hvs2;obtain⟨w0,w1,w2⟩:=hvs2;unfold aEW;rw[w0,w1,w2];by_cases hlm:m<y.1.l.length
  ·have k3:((m:Int)<(y.1.l.length:Int))=True:=eq_true (by omega);have gm:=nR (i:=m) (by omega);obtain⟨z,hz⟩:∃x,y.1.l[m]? =some x:=⟨_,kV hlm⟩;obtain⟨b',o',j1,j2⟩:=aWf NS hz;have lp:cC PG (Builtin.len_ #[bR] aR #[.string z.p.d])=some (.int .i64 (z.p.d.size:Int)):=tN bR.und;by_cases y1:300<z.p.d.size
   ·have k4:((300:Int)<(z.p.d.size:Int))=True:=eq_true (by omega);simp only[i1,dR.f4,cT.load,P.l,ln,k3,j1,cK.f1,bX.f3,Nat.add_assoc,Nat.reduceAdd,bR.load,j2,lp,k4,cD,reduceIte,cJ,Nat.reduceAdd];exact no
   have k4:((300:Int)<(z.p.d.size:Int))=False:=eq_false (by omega);simp only[i1,dR.f4,cT.load,P.l,ln,k3,j1,cK.f1,bX.f3,Nat.add_assoc,Nat.reduceAdd,bR.load,j2,lp,k4,gm,cD,reduceIte,cJ,Nat.reduceAdd];exact⟨⟨m+1,by omega,rfl,by first|rfl|trivial⟩,by simp[fN,w2];omega⟩
  ·have k3:((m:Int)<(y.1.l.length:Int))=False:=eq_false (by omega);simp only[i1,dR.f4,cT.load,P.l,ln,k3,gi,cD,reduceIte,cJ,Nat.reduceAdd];refine⟨⟨i+1,by omega,rfl,by first|rfl|trivial,λz hz=>?_⟩,by simp[fN,v1];omega⟩;rw[zLR,hx] at hz;rcases xA.1 hz with hz|hz
   ·exact hy z hz
   ·simp only[Option.toList_some,iI] at hz;subst hz;exact⟨by omega,by omega⟩
 ·have g6:((i:Int)<(L.length:Int))=False:=eq_false (by omega);rw[rN (by omega)] at hy;simp only[ll,g6,cD,reduceIte,cJ,Nat.reduceAdd];exact hk true λ_=>⟨by omega,by omega,by omega,by omega,by omega,hy⟩
def wQ.swap{a w:Nat}{d:Dk}{x:Wl}{h:PH}{F:List Nat}(H:wQ a w d x h F):∃Fd,qF a d h Fd∧(∀b∈Fd,b∈F)∧∀d' h' Fd',qF a d' h' Fd'->eX h Fd h' Fd'->d'.sectors=d.sectors->∃F',wQ a w d' x h' F'∧eX h F h' F':=by
 obtain⟨Fd,rfl,B,D,n⟩:=H.here;refine⟨Fd,D,λb hb=>aKA _ hb,λd' h' Fd' D' s e=>?_⟩;obtain⟨B',n'⟩:=B.step s n;exact⟨w::Fd',⟨⟨Fd',rfl,B',D',n'⟩,H.ok.to D'.ok e,H.ser,H.gen⟩,eX.app [w] s⟩
def sZ.swap{a w j:Nat}{d:Dk}{x:Jn}{h:PH}{F:List Nat}(H:sZ a w j d x h F):∃Fd,qF a d h Fd∧(∀b∈Fd,b∈F)∧∀d' h' Fd',qF a d' h' Fd'->eX h Fd h' Fd'->d'.sectors=d.sectors->∃F',sZ a w j d' x h' F'∧eX h F h' F':=by
 obtain⟨Fw,iv,rfl,B,W,S,n1,n2,n3⟩:=H.here;obtain⟨Fd,D,hF,sw⟩:=W.swap;refine⟨Fd,D,λb hb=>by simp[hF b hb],λd' h' Fd' D' s e=>?_⟩;obtain⟨Fw',W',s'⟩:=sw d' h' Fd' D' s e;obtain⟨B',n1'⟩:=B.step s' n1;obtain⟨S',n3'⟩:=aDo S s' n3;exact⟨j::(nN iv x.s.its.length++Fw'),⟨⟨Fw',iv,rfl,B',W',S',n1',n2,n3'⟩,H.ok,H.wf⟩,eX.app [j] (eX.app _ s')⟩
def aUv{h:PH}{r w j:Nat}{x:Jn}(c:cU h ⟨r,0+1,none⟩=some (aDp (some (w,j,x)))):cB PG h (loadAt eJ (pT r (0+1)))=some (pT j 0):=by rw[eJ.load,c];rfl
def aUm{h:PH}{r a:Nat}(c:cU h ⟨r,0,none⟩=some (pT a 0)):cB PG h (loadAt gC (pT r 0))=some (pT a 0):=by rw[gC.load,c]
def iD.notin{h:PH}{v:Value}{m:Nat}{F:List Nat}(n:iD h v)(k:∀b∈F,h b≠none):∀b∈nN v m,b∉F:=λb hb hm=>by
 obtain⟨-,a,c,e,rfl,rfl⟩:=nN.mem hb;exact k _ hm (n a c e rfl)
def aEg.sub{h0 h:PH}{F G:List Nat}(N:aEg h0 h F)(hs:∀b∈G,b∈F):aEg h0 h G:=⟨N.ext,λb hb=>N.fr b (hs b hb)⟩
structure SmA(h0:PH)(r1 r rw a:Nat)(p q:Pl)(cs:List Value)(d:Dk)(w j:Nat)(x:Jn)(vw:Value)(h:PH)(F:List Nat):Prop where
 b1:Bx h r1 (p.cells++q.cells)
 br:Bx h r cs
 c0:cs[0]? =some (pT a 0)
 bw:Bx h rw (x.s.cells vw)
 iw:jL h vw x.s.its
 J:sZ a w j d x h F
 n1:r1∉F
 nr:r∉F
 nw:rw∉F
 ni:∀b∈nN vw x.s.its.length,b∉F
 e1:r1≠rw
 er:r≠rw
 ei:∀b∈nN vw x.s.its.length,b≠rw
 now:aEg h0 h (rw::F)
def SmA.ext{h0:PH}{r1 r rw a:Nat}{p q:Pl}{cs:List Value}{d:Dk}{w j:Nat}{x:Jn}{vw:Value}{h h':PH}{F:List Nat}(S:SmA h0 r1 r rw a p q cs d w j x vw h F)(u:cX h h'):SmA h0 r1 r rw a p q cs d w j x vw h' F:=
 ⟨S.b1.ext u,S.br.ext u,S.c0,S.bw.ext u,S.iw.ext u,S.J.ext u,S.n1,S.nr,S.nw,S.ni,S.e1,S.er,S.ei,S.now.more u⟩
def SmA.to{h0:PH}{r1 r rw a:Nat}{p q:Pl}{cs:List Value}{d:Dk}{w j:Nat}{x:Jn}{vw:Value}{h h':PH}{F F0 F':List Nat}(S:SmA h0 r1 r rw a p q cs d w j x vw h F)(s:eX h F0 h' F')(hF:∀b∈F0,b∈F){d':Dk}{w' j':Nat}{x':Jn}(J':sZ a w' j' d' x' h' F')(es:x'.s=x.s):SmA h0 r1 r rw a p q cs d' w' j' x' vw h' F':=by
 obtain⟨b1,n1⟩:=aCk S.b1 (λhm=>S.n1 (hF _ hm)) s;obtain⟨br,nr⟩:=aCk S.br (λhm=>S.nr (hF _ hm)) s;obtain⟨bw,nw⟩:=aCk S.bw (λhm=>S.nw (hF _ hm)) s;obtain⟨iw,ni⟩:=aDo S.iw s (λb hb hm=>S.ni b hb (hF _ hm));refine⟨b1,br,S.c0,?_,?_,J',n1,nr,nw,?_,S.e1,S.er,?_,(S.now.sub λb hb=>?_).step (eX.app [rw] s)⟩
 ·rw[es];exact bw
 ·rw[es];exact iw
 ·rw[es];exact ni
 ·rw[es];exact S.ei
 ·rcases iM.1 hb with rfl|hb
  ·exact aMP ..
  ·exact aKA _ (hF _ hb)
def SmA.want{h0:PH}{r1 r rw a:Nat}{p q:Pl}{cs:List Value}{d:Dk}{w j:Nat}{x x0:Jn}{vw v':Value}{h:PH}{F:List Nat}(b1:Bx h r1 (p.cells++q.cells))(br:Bx h r cs)(c0:cs[0]? =some (pT a 0))(bw:Bx h rw (x0.s.cells vw))(J:sZ a w j d x h F)(n1:r1∉F)(nr:r∉F)(nw:rw∉F)(e1:r1≠rw)(er:r≠rw)(now:aEg h0 h (rw::F))
  (iw:jL h v' x.s.its) (ni:∀b∈nN v' x.s.its.length,b∉F) (ei:∀b∈nN v' x.s.its.length,b≠rw) {k:cF} (hk:∀h',SmA h0 r1 r rw a p q cs d w j x v' h' F->k undef h'):cM PG (cP aT (pT rw 0) (x.s.v v')) h k:=by
 refine aT.put bw (vs:=x.s.cells v') (o:=0) rfl (by show 0+5≤5;decide) (Dm.isC _ iw.isc) λh1 B1 u1=>?_;have hr:∀b∈F,b∉[rw]:=λb hb hm=>by simp only[iI] at hm;exact nw (hm▸hb)
 exact hk h1 ⟨b1.upd u1 (by simpa using e1),br.upd u1 (by simpa using er),c0,B1,aFQ iw u1 (λb hb hm=>by simp only[iI] at hm;exact ei b hb hm),J.upd u1 hr,n1,nr,nw,ni,e1,er,ei,now.step (eX.of u1 (by simp))⟩
def aLB{h0 h:PH}{r1 r rw a w j i:Nat}{p q:Pl}{cs:List Value}{d:Dk}{x:Jn}{vw v:Value}{F:List Nat}(S:SmA h0 r1 r rw a p q cs d w j x vw h F)(hi:i<1000)(room ar:Int){k:cF}{n32:fY}
  (next:∀h',SmA h0 r1 r rw a p q cs d w j x vw h' F->n32 [.int .i64 room,v,.int .i64 ar,pT r1 0,pT r 0,pT j 0,pT rw 0,.int .i64 ((i+1:Nat):Int)] h'):
  oQ k n32 (.int .i64 room) v (.int .i64 ar) (pT r1 0) (pT r 0) (pT j 0) (pT rw 0) (.int .i64 (i:Int)) h:=by
 unfold oQ;have gi:=nR (i:=i) (by omega);have l0:cB PG h (loadAt aT (pT rw 0))=some (x.s.v vw):=aT.agg S.bw (by show 0+5≤5;decide);simp only[l0,cD,reduceIte,cJ,Nat.reduceAdd];refine aK4 S.J λh1 v1 S1 _ u1=>?_;have S':=S.ext u1;have l1:cB PG h1 (loadAt aT (pT rw 0))=some (x.s.v vw):=aT.agg S'.bw (by show 0+5≤5;decide);have hlen:x.s.its.length≤1000000:=by have:=S.J.ok.len;have:=S.J.ok.r2;omega
 simp only[l1,true_and,cD,reduceIte,cJ,Nat.reduceAdd];refine aJ0 S1 S'.iw hlen λh2 u2=>?_;simp only[decide_true,oZ,tC,gi,cD,reduceIte,cJ,Nat.reduceAdd];exact next h2 (S'.ext u2)
def aPp{h0 h:PH}{r1 r rw a w j i:Nat}{p q:Pl}{cs:List Value}{d:Dk}{x:Jn}{vw v:Value}{F:List Nat}{L:List JV}{y:JV}(S:SmA h0 r1 r rw a p q cs d w j x vw h F)(I:aBM d x)(hg:x.w.hd.gen<1000)(A:JAs h0 v L)(hx:L[i]? =some y)(hi:i<1000)(hnl:y.1.l.length≤40){room:Int}(hrm:x.room=room)(ar:Int){k:cF}{n32:fY}
  (next:∀h' F' d' x' vw',SmA h0 r1 r rw a p q cs d' w j x' vw' h' F'->aBM d' x'->x'.w.hd.gen≤x.w.hd.gen+1->x'.room=room->d'.sectors=d.sectors->n32 [.int .i64 room,v,.int .i64 ar,pT r1 0,pT r 0,pT j 0,pT rw 0,.int .i64 ((i+1:Nat):Int)] h'):
  oV k n32 (.int .i64 room) v (.int .i64 ar) (pT r1 0) (pT r 0) (pT j 0) (pT rw 0) (.int .i64 (i:Int)) h:=by
 unfold oV;have gi:=nR (i:=i) (by omega);obtain⟨b,o,i1,Q⟩:=(A.ext S.now.ext).pt hx;by_cases k0:y.1.k=0
 ·have q0:(y.1.k !=0)=false:=by rw[k0];rfl
  obtain⟨NS,-,wf⟩:=(A.ext S.now.ext).e y (aAB hx);obtain⟨bn,mn,cn,ev⟩:=uI NS;have l0:cB PG h (loadAt aT (pT rw 0))=some (x.s.v vw):=aT.agg S.bw (by show 0+5≤5;decide);have ql:=Q.l;rw[ev] at ql NS;have hlen:=S.J.ok.len;have hr2:=S.J.ok.r2;have wfr:(gX y.1.ch y.1.q y.1.l).wf:=⟨⟨Pl.wf_zero,Pl.wf_zero,by simp[gX,Dm.zero]⟩,wf.q,wf.l⟩;have qq:cB PG h (loadAt cG (pT b (o+3)))=some (.agg y.1.q.cells.toArray):=Q.q;simp only[i1,dR.f0,dR.f2,dR.f3,dR.f4,aR.load,cT.load,Q.k,Q.c,qq,ql,dY,q0,l0,aP8 y.1.ch y.1.q y.1.l,cD,reduceIte,cJ,Nat.reduceAdd];have nz:jL h (.slice none 0 0) (gX y.1.ch y.1.q y.1.l).s.its:=(eD.nil (e:=cE)).slR;refine aOu (r:=gX y.1.ch y.1.q y.1.l) S.iw S.J.wf (by omega) nz NS wfr (by simp[gX,Dm.zero]) (by show y.1.l.length≤100000;omega) λh1 v' T1 nv u1=>?_;have nv:iD h v':=by
   rcases nv with nv|rfl
   ·exact nv
   ·exact iD.nil
  obtain⟨d',x',e,eq,I',g',rm',-,z2,k1,k2⟩:=aO5 I (by omega) (ch:=y.1.ch) (q:=y.1.q) (ns:=y.1.l) wfr;rw[hrm] at k1 k2 rm';obtain⟨P,hP⟩:∃P,mB x.s room (gX y.1.ch y.1.q y.1.l)=P:=⟨_,rfl⟩;rw[hP] at T1 k1 k2 ⊢;obtain⟨nx,f⟩:=P;have T1:jL h1 v' nx.its:=T1;simp only[cD,reduceIte,cJ,Nat.reduceAdd];intro r100 hr100
  try rw[cO]
  refine aT.fill (vs:=nx.cells v') hr100 rfl (Dm.isC _ T1.isc) λh3 B3 u3=>?_;have e3:=u1.trans u3;have S3:=S.ext e3;obtain⟨b',o',i1',Q3⟩:=(A.ext S3.now.ext).pt hx;rw[i1] at i1';cases i1';have NS3:=((A.ext S3.now.ext).e y (aAB hx)).1;have ql3:=Q3.l;have qq3:cB PG h3 (loadAt cG (pT b (o+3)))=some (.agg y.1.q.cells.toArray):=Q3.q;simp only[i1,dR.f2,dR.f3,dR.f4,aR.load,cT.load,Q3.c,qq3,ql3,cD,reduceIte,cJ,Nat.reduceAdd];obtain⟨_,_,Lg,-⟩:=I.log;have hbuf:d.buf.length≤900000:=by rw[Lg.buf];simp
  refine aOZ S3.J y.1.ch y.1.q wf.q NS3 wf.l hbuf λh4 F4 J4 s4=>?_;rw[eq] at J4 ⊢;have J4:sZ a w j d' x' h4 F4:=J4;have hbr:=I'.broken;have nr:r100∉F:=λhm=>(S.J.ext u1).known r100 hm hr100;obtain⟨B4,n4⟩:=aCk B3 nr s4;have nF:∀b∈nN v' nx.its.length,b∉F:=iD.notin nv S.J.known;obtain⟨T4,nF4⟩:=aDo (T1.ext u3) s4 nF;have l4:cB PG h4 (loadAt aT (pT r100 0))=some (nx.v v'):=aT.agg B4 (by show 0+5≤5;decide);by_cases f0:f=0
  ·subst f0;have nf:((0:Int) !=0)=false:=rfl;have ef:((0:Int)==0)=true:=rfl;rcases k2 rfl with⟨rfl,es⟩|⟨rfl,es⟩
   ·have es:x'.s=nx:=es;simp only[dY,fO,nf,ef,cD,reduceIte,cJ,Nat.reduceAdd];refine sZ.halted J4 ?_;simp only[hbr,fO,ef,l4,cD,reduceIte,cJ,Nat.reduceAdd];obtain⟨b1,n1⟩:=aCk S3.b1 S3.n1 s4;obtain⟨br,nr'⟩:=aCk S3.br S3.nr s4;obtain⟨bw,nw⟩:=aCk S3.bw S3.nw s4;rw[←es] at T4 nF4 ⊢;refine SmA.want b1 br S3.c0 bw J4 n1 nr' nw S3.e1 S3.er (S3.now.step (eX.app [rw] s4)) T4 nF4 (λb hb=>?_) λh5 S5=>?_
    ·intro hm;subst hm;rw[es] at hb;exact iD.notin nv (F:=[b]) (λc hc=>by simp only[iI] at hc;subst hc;exact S.bw.known) b hb (by simp)
    ·exact aLB S5 hi room ar λh6 S6=>next h6 F4 d' x' v' S6 I' g' rm' z2
   ·have e2:((2:Int) !=0)=true:=rfl;have e3:((2:Int) !=2)=false:=rfl;have e4:((2:Int)==0)=false:=rfl;simp only[dY,fO,nf,ef,e2,e3,cD,reduceIte,cJ,Nat.reduceAdd];refine sZ.halted J4 ?_;simp only[hbr,fO,e4,cD,reduceIte,cJ,Nat.reduceAdd];exact aLB (S3.to s4 (λb hb=>hb) J4 es) hi room ar λh6 S6=>next h6 F4 d' x' vw S6 I' g' rm' z2
  ·obtain⟨rfl,es⟩:=k1 f0;have nf:(e !=0)=true:=bne_iff_ne.2 f0;have ef:(e==0)=false:=beq_eq_false_iff_ne.2 f0;simp only[dY,fO,nf,ef,bne_self_eq_false,cD,reduceIte,cJ,Nat.reduceAdd];refine sZ.halted J4 ?_;simp only[hbr,fO,ef,cD,reduceIte,cJ,Nat.reduceAdd];exact aLB (S3.to s4 (λb hb=>hb) J4 es) hi room ar λh6 S6=>next h6 F4 d' x' vw S6 I' g' rm' z2
 ·have q0:(y.1.k !=0)=true:=bne_iff_ne.2 k0;simp only[i1,dR.f0,aR.load,Q.k,dY,q0,oZ,tC,gi,cD,reduceIte,cJ,Nat.reduceAdd];exact next h F d x vw S I (by omega) hrm rfl
def aMg{h:PH}{v:Value}{L:List JV}(A:JAs h v L)(size sectors room:Int){p q:Pl}(wp:p.wf)(wq:q.wf)(ar:Int){k:cF}(hk:∀h',cX h h'->k (.bool true) h'):bW PG tW #[.int .i64 size,.int .i64 sectors,.int .i64 room,lC p q,v,.int .i64 ar] h k:=by
 apply mO.call;unfold mO;intro r1 hr1
 try rw[cO]
 have u1:cX h (h.set r1 (.cells (Value.cells (lC p q)) cR)):=cV.new hr1;have B1:Bx (h.set r1 (.cells (Value.cells (lC p q)) cR)) r1 (p.cells++q.cells):=Bx.new;generalize h.set r1 (.cells (Value.cells (lC p q)) cR)=h1 at *;refine aQr λh2 u2=>?_;have u12:=u1.trans u2;simp only[cD,reduceIte,cJ,Nat.reduceAdd];refine aTz (A.ext u12) size sectors λb few=>?_;cases b with
 | false=>
  simp only[cD,reduceIte,cJ,Nat.reduceAdd];exact hk h2 u12
 | true=>
  have fw:=few rfl;obtain⟨s,rfl⟩:∃s:Nat,size=(s:Int):=⟨size.toNat,by have:=fw.s1;omega⟩;obtain⟨n,rfl⟩:∃n:Nat,sectors=(n:Int):=⟨sectors.toNat,by have:=fw.n1;omega⟩;have f1:=fw.s1;have f2:=fw.s2;have f3:=fw.n1;have f4:=fw.n2;have f5:=fw.len;have B2:=B1.ext u2;have l1:cB PG h2 (loadAt cR (pT r1 0))=some (lC p q):=cR.agg B2 (by show 0+4≤4;decide);simp only[l1,cD,reduceIte,cJ,Nat.reduceAdd];refine aM8 s n ⟨by omega,by omega⟩ (by omega) (by omega) room p q λh3 r a m F3 P3 f3' u3=>?_;have M3:aEg h2 h3 F3:=⟨u3,f3'⟩;simp only[aO0,cD,reduceIte,cJ,Nat.reduceAdd];refine aLG P3 wp wq (by show n≤1000;omega) (by show n≤1000;omega) (lA _) (lA _) λh4 F4 jp vp P4 s4 o4 v4=>?_;have M4:=M3.step s4;have b4:=P4.b;have N4:aEg h h4 F4:=⟨u12.trans M4.ext,λb hb=>u12.none (M4.fr b hb)⟩;have bi:=aSq (aNF (size:=s) (sectors:=n) ⟨by omega,by omega⟩ (by omega) (by omega)) (room:=room) wp wq;obtain⟨Z,hZ⟩:∃Z,iT (Dk.new s n) room p q=Z:=⟨_,rfl⟩;rw[hZ] at P4 o4 b4 bi;by_cases c:Z.2.2=0
  ·obtain⟨w,j,rfl⟩:=o4.1 c;obtain⟨d',w',rfl,I,g,-,z2,hc⟩:=bi.resolve_right (λx=>x c);have z2:d'.sectors=n:=z2;obtain⟨Fa,Fm,rfl,Bp,J,-,np,-⟩:=P4.here;have J:sZ a w j d' ⟨w',room,⟨p,q,[]⟩⟩ h4 Fa:=J;have B4:=B2.ext M4.ext;have l4:cB PG h4 (loadAt cR (pT r1 0))=some (lC p q):=cR.agg B4 (by show 0+4≤4;decide);simp only[dK.f1,aUv b4.j,eJ.load,b4.j,aMb,aKz,l4,aMG,cD,reduceIte,cJ,Nat.reduceAdd];intro r28 hr28
   try rw[cO]
   refine aT.fill (vs:=Dm.cells ⟨p,q,[]⟩ (.slice none 0 0)) hr28 rfl (Dm.isC _ rfl) λh5 B5 u5=>?_;obtain⟨cs,hcs⟩:∃cs,aCp a m (some (w,j,(⟨w',room,⟨p,q,[]⟩⟩:Jn))) (d',(⟨w',room,⟨p,q,[]⟩⟩:Jn),(0:Int)).2.2 vp room p q=cs:=⟨_,rfl⟩;have c0:cs[0]? =some (pT a 0):=by rw[←hcs];rfl
   rw[hcs] at Bp;have S5:SmA h r1 r r28 a p q cs d' w j ⟨w',room,⟨p,q,[]⟩⟩ (.slice none 0 0) h5 Fa:=by
    refine⟨B4.ext u5,Bp.ext u5,c0,B5,(eD.nil (e:=cE)).slR,J.ext u5,λhm=>B2.known (M4.fr r1 (by simp[hm])),np,λhm=>J.known r28 hm hr28,by simp[nN],λe=>B4.known (by rw[e];exact hr28),λe=>Bp.known (by rw[e];exact hr28),by simp[nN],⟨N4.ext.trans u5,λb hb=>?_⟩⟩;rcases iM.1 hb with rfl|hb
    ·exact N4.ext.none hr28
    ·exact N4.fr b (by simp[hb])
   refine⟨λvs h'=>∃(i:Nat) (d:Dk) (w j:Nat) (x:Jn) (vw:Value) (F:List Nat),i≤L.length∧vs=[.int .i64 room,v,.int .i64 ar,pT r1 0,pT r 0,pT j 0,pT r28 0,.int .i64 (i:Int)]∧SmA h r1 r r28 a p q cs d w j x vw h' F∧aBM d x∧x.w.hd.gen≤2+2*i∧x.room=room∧d.sectors=n,fN L.length 7,⟨0,d',w,j,_,_,Fa,by omega,rfl,S5,I,by show w'.hd.gen≤_;omega,rfl,z2⟩,?_⟩;rintro ρ h' ⟨i,d,wi,ji,x,vw,F,hi,hvs,S,I,hg,hrm,hs⟩;simp only[hM,jA,kP,and_true] at hvs;obtain⟨x2,x4,x5,x9,x13,x14,x15,x16⟩:=hvs;unfold aAs;rw[x2,x4,x5,x9,x13,x14,x15,x16];have ll:=aP3 (A.ext S.now.ext);by_cases hlt:i<L.length
   ·have g:((i:Int)<(L.length:Int))=True:=eq_true (by omega);obtain⟨y,hy⟩:∃y,L[i]? =some y:=⟨_,kV hlt⟩;have hnl:=(fw.each y (aAB hy)).1;by_cases ca:(i:Int)=ar
    ·have qa:((i:Int)==ar)=true:=by rw[ca];exact beq_self_eq_true _
     have cd:cU h' ⟨r,0,none⟩=some (pT a 0):=(S.br.cell 0).trans S.c0;have lp:cB PG h' (loadAt cR (pT r1 0))=some (lC p q):=cR.agg S.b1 (by show 0+4≤4;decide);simp only[ll,g,fO,qa,dK.f0,aUm cd,lp,cD,reduceIte,cJ,Nat.reduceAdd];obtain⟨Fd,D,hF,-⟩:=S.J.swap;obtain⟨_,_,Lg,-⟩:=I.log;refine aPu D room p q wp wq (by omega) (by rw[Lg.buf];simp) λh6 F6 jp6 P6 s6 o6=>?_;have ri:=aLg I (by omega) (p:=p) (q:=q) (by rw[hrm];exact hc);rw[hrm] at ri;rcases ri with⟨d6,w6,eq6,I6,g6,-,z6⟩|e2
     ·rw[eq6] at P6 o6 ⊢;obtain⟨w1,j1,rfl⟩:=o6.1 rfl;have P6:sZ a w1 j1 d6 ⟨w6,room,x.s⟩ h6 F6:=P6;have S6:=S.to s6 hF P6 rfl;have e2:((0:Int)==2)=false:=rfl;have e0:((0:Int) !=0)=false:=rfl;have lw:cB PG h6 (loadAt aT (pT r28 0))=some (x.s.v vw):=aT.agg S6.bw (by show 0+5≤5;decide);simp only[fO,dY,e2,e0,aMb,aKz,lw,cD,reduceIte,cJ,Nat.reduceAdd];refine aK4 P6 λh7 v7 S7 _ u7=>?_;have S6':=S6.ext u7;have lw7:cB PG h7 (loadAt aT (pT r28 0))=some (x.s.v vw):=aT.agg S6'.bw (by show 0+5≤5;decide);have hlen:x.s.its.length≤1000000:=by have:=S.J.ok.len;have:=S.J.ok.r2;omega
      simp only[lw7,eq_self,true_and,implies_true,cD,reduceIte,cJ,Nat.reduceAdd];refine aJ0 S7 S6'.iw hlen λh8 u8=>?_;have g6:w6.hd.gen=x.w.hd.gen+1:=g6;have ss:(⟨w6,room,x.s⟩:Jn).s=x.s:=rfl;simp only[ss,decide_true,cD,reduceIte,cJ,Nat.reduceAdd];refine aPp (S6'.ext u8) I6 (by show w6.hd.gen<1000;omega) A hy (by omega) hnl rfl ar λh9 F9 d9 x9 vw9 S9 I9 g9 r9 z9=>?_;have g9:x9.w.hd.gen≤w6.hd.gen+1:=g9;exact⟨⟨i+1,d9,w1,j1,x9,vw9,F9,by omega,rfl,S9,I9,by omega,r9,by omega⟩,by simp[fN,x16];omega⟩
     ·have e2':((iT d room p q).2.2==2)=true:=by rw[e2];rfl
      simp only[fO,e2',cD,reduceIte,cJ,Nat.reduceAdd];exact hk h6 ((S.now.sub λb hb=>aKA _ (hF b hb)).step s6).ext
    ·have qa:((i:Int)==ar)=false:=beq_eq_false_iff_ne.2 ca;simp only[ll,g,fO,qa,cD,reduceIte,cJ,Nat.reduceAdd];refine aPp S I (by omega) A hy (by omega) hnl hrm ar λh9 F9 d9 x9 vw9 S9 I9 g9 r9 z9=>?_;exact⟨⟨i+1,d9,wi,ji,x9,vw9,F9,by omega,rfl,S9,I9,by omega,r9,by omega⟩,by simp[fN,x16];omega⟩
   ·have g:((i:Int)<(L.length:Int))=False:=eq_false (by omega);simp only[ll,g,cD,reduceIte,cJ,Nat.reduceAdd];exact hk h' S.now.ext
  ·have e:=o4.2 c;subst e;have n0:(Z.2.2 !=0)=true:=bne_iff_ne.2 c;simp only[dK.f1,dK.f2,eJ.load,dF.load,b4.j,b4.e,aMb,Option.isNone_none,dY,n0,cD,reduceIte,cJ,Nat.reduceAdd];exact hk h4 N4.ext
end
section
open Go
def aLL{h:PH}(_:True)(a b c:Int){p q:Pl}{v:Value}{rows:List (List Value)}(S:hC h 7 v rows)(d:Int)(wp:p.wf)(wq:q.wf)(e:∃xs:List JV,rows=xs.map jrw∧∀y∈xs,yC h y.2.1 y.1.l∧CSl h y.2.2 y.1.w∧y.1.wf){k:cF}(hk:∀h',cX h h'->k (.bool true) h'):
  bW PG tW #[.int .i64 a,.int .i64 b,.int .i64 c,lC p q,v,.int .i64 d] h k:=by
 obtain⟨L,A⟩:=JAs.of S e;exact aMg A a b c wp wq d hk
end
end Go.Proofs.YtiohehjhlghikaaGreatDoor
namespace Go.Proofs.YtiohehjhlghikaaGreatDoor.journalSame
open Go Go.ChangeShapes Go.WideShapes Go.ChangeAt Go.WideMaps Go.WideElems Go.RowKit
theorem own:ownKnob Tryz.prog.godebug=none:=by kernel_rfl
theorem lifted(os:Os)(started:os.Started)(H:Type)(enc:TypeId×Value->H):
  ReturnsInHanded {} Tryz.checked os 3 .any (λw args=>(Rows.journalSameSpec.pre enc Tryz.prog Tryz.f3 [] false w args∧laidMetH Tryz.prog aLZ w)∧sizedMet enc Tryz.prog Tryz.f3 (OpenSpec.ofChange Rows.journalSameSpec) false w args)
   (Rows.journalSameSpec.post enc Tryz.prog Tryz.f3 false true false false):=by
 refine returnsInHanded_of_change_and (C:=Tryz.checked) (X:=λw _=>laidMetH Tryz.prog aLZ w) (λ_ _ _ hh h=>h.of_heap hh) own started (by kernel_rfl) Tryz.func3
  (ChangeSpec.witness_shaped (enc:=enc) (C:=Tryz.checked) (os:=os) (X:=λw _=>laidMetH Tryz.prog aLZ w) false (World.laidAll Tryz.prog os aLZ) #[.int .i64 0,.int .i64 0,.int .i64 0,.agg #[.int .u64 0,.int .i64 0,.int .u64 0,.int .i64 0],.slice none 0 0,.int .i64 0] 8 (World.laidAll_os _ _ _) (World.shaped_of_ZipB (by kernel_rfl) (by kernel_rfl)) (by kernel_rfl) (by kernel_rfl) (by kernel_rfl) (by rw[MakeChecks.laidMetH_plain _ _ _ (by kernel_rfl)];exact laidMet_laidAll _ (by kernel_rfl) (by kernel_rfl))) ?_
 intro W base args ds gs before hval0 hW _ _ hL _;have hval:∀(j:Nat) t v,Tryz.f3.params[j]? =some t->args[j]? =some v->Value.okWide Tryz.prog W .any base t v:=hval0;have hW':=hW;obtain⟨p,q,hA0,hV,rfl,hfz,hnd⟩:=hW;have hA:DataW.TrodAll enc Tryz.prog W 0 (λ_=>true) true Tryz.f3.params.toList args.toList ds p:=hA0;rw[Tryz.params3] at hA hval;obtain⟨v0,vs0,d0,ds0,p0,q0,hargs,rfl,rfl,h0,r0⟩:=trodAll_cons hA;obtain⟨v1,vs1,d1,ds1,p1,q1,rfl,rfl,rfl,h1,r1⟩:=trodAll_cons r0;obtain⟨v2,vs2,d2,ds2,p2,q2,rfl,rfl,rfl,h2,r2⟩:=trodAll_cons r1;obtain⟨v3,vs3,d3,ds3,p3,q3,rfl,rfl,rfl,h3,r3⟩:=trodAll_cons r2;obtain⟨v4,vs4,d4,ds4,p4,q4,rfl,rfl,rfl,h4,r4⟩:=trodAll_cons r3;obtain⟨v5,vs5,d5,ds5,p5,q5,rfl,rfl,rfl,h5,r5⟩:=trodAll_cons r4;obtain⟨rfl,rfl,rfl⟩:=trodAll_nil r5;obtain rfl:args= #[v0,v1,v2,v3,v4,v5]:=by cases args;simp_all
 obtain⟨rfl,rfl⟩:=trodVars_none hV;obtain⟨a0,rfl,rfl,rfl,w0⟩:=open_int Tryz.underlying3 (hval 0 3 v0 rfl rfl) h0;obtain⟨a1,rfl,rfl,rfl,w1⟩:=open_int Tryz.underlying3 (hval 1 3 v1 rfl rfl) h1;obtain⟨a2,rfl,rfl,rfl,w2⟩:=open_int Tryz.underlying3 (hval 2 3 v2 rfl rfl) h2;obtain⟨x3,y3,rfl,m3,n3⟩:=aVH (hval 3 25 v3 rfl rfl) h3;obtain⟨rows4,s4,o4⟩:=aUT fU.und (by rw[dR.cells];decide) (hval 4 _ v4 rfl rfl) h4;rw[dR.cells] at s4;have e4:=JV.rds o4;obtain⟨a5,rfl,rfl,rfl,w5⟩:=open_int Tryz.underlying3 (hval 5 3 v5 rfl rfl) h5;refine(aQi (aLL (kOf hL) a0 a1 a2 s4 a5 m3 n3 e4 λh' hx=>⟨rfl,hx⟩)).mono λe W' ⟨he,hk⟩=>?_;subst he;exact⟨_,rfl,aOn aVY aWL (by rw[Tryz.params3];decide +kernel) Tryz.underlying4 (by kernel_rfl) rfl hW' hk rfl rfl rfl⟩
theorem over:Rows.journalSameRow.holds Tryz.pinned (OpenSpec.ofChange Rows.journalSameSpec):=
 OpenClaim.holds_of_wide 3 Tryz.f3 rfl rfl rfl rfl rfl rfl rfl ⟨rfl,rfl,rfl,rfl,rfl⟩ rfl rfl rfl rfl rfl (by kernel_rfl) Tryz.func3 (by kernel_rfl)
  (of_decide_eq_true (by kernel_rfl)) (by unfold Func.isWrapper;first|(rw[if_pos (by decide +kernel)];kernel_rfl)|(rw[if_neg (by decide +kernel)];exact⟨rfl,rfl⟩))
  (λos started H enc _=>lifted os started H enc)
theorem proved:Rows.JournalSameCardSaid:=
 Claim7.holds_tied_plain_at .later [] [.data,.pinned] true (true,"0c8c7a63d2a285e71e8bcbfa8c35b77b58cfcfe86579a48db0f3727ae4e3fcf4") false
  over (λ_ h=>by cases h) (by kernel_rfl) (λ_ h=>by cases h) journalSame_row_tie rfl ⟨rfl,rfl⟩ (by kernel_rfl) rfl
  (λf fn hf hfn=>by
   obtain rfl:f=3:=Option.some.inj ((show Tryz.prog.funcNamed Rows.journalSameRow.func=some 3 by kernel_rfl).symm.trans hf) |>.symm;obtain rfl:fn=Tryz.f3:=(Option.some.inj (Tryz.func3.symm.trans hfn)).symm;exact⟨by kernel_rfl,λj t ht=>by
    have hall:(Tryz.f3.params.toList.all λu=>!Tryz.prog.wantsStandIn u)=true:=by kernel_rfl
    have hm:t∈Tryz.f3.params.toList:=by simpa using Array.mem_of_getElem? ht
    exact(show Tryz.prog.wantsStandIn t=false by simpa using aI1.1 hall t hm)⟩)
  (by kernel_rfl)
#print axioms proved
end Go.Proofs.YtiohehjhlghikaaGreatDoor.journalSame
