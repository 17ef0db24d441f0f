/- The texts of this claim, put together. -/
import Derived.Test.YtiohehjhlghikaaGreatDoorJgSVC7
set_option linter.all false
set_option maxRecDepth 100000
open Go.Instr (loadAt fieldAt indexAt extract buildSlice build)
namespace Go.Proofs.YtiohehjhlghikaaGreatDoor
open Go
structure oF(r:Nat)(d:Dk)(h:PH)(F:List Nat):Prop where
 here:∃bv Fb,F=r::Fb∧Bx h r [.int .i64 (d.size:Int),.int .i64 (d.sectors:Int),.string (tx d.st.flatten),bv,.int .i64 (d.arm:Int)]∧eH h dQ 2 bv (d.buf.map sI) Fb∧r∉Fb
 ok:d.Ok
 arm:d.arm<9223372036854775808
def oF.known{r:Nat}{d:Dk}{h:PH}{F:List Nat}(H:oF r d h F):∀b∈F,h b≠none:=by
 obtain⟨bv,Fb,rfl,B,W,-⟩:=H.here;intro b hb;rcases iW.1 hb with rfl|hb
 ·exact B.known
 ·exact W.known b hb
def oF.upd{r:Nat}{d:Dk}{h h':PH}{F K:List Nat}(H:oF r d h F)(u:cX K h h')(hK:∀b∈F,b∉K):oF r d h' F:=by
 obtain⟨bv,Fb,rfl,B,W,n⟩:=H.here;exact⟨⟨bv,Fb,rfl,B.upd u (hK r (by simp)),W.upd u (λb hb=>hK b (by simp[hb])),n⟩,H.ok,H.arm⟩
def oF.good(r:Nat)(d:Dk):aH7 (oF r d):=⟨λH=>H.known,λH u hK=>H.upd u hK⟩
def oF.ext{r:Nat}{d:Dk}{h h':PH}{F:List Nat}(H:oF r d h F)(u:dA h h'):oF r d h' F:=(oF.good r d).ext H u
structure DoB(r:Nat)(d:Dk)(h:PH)(bv:Value):Prop where
 size:cV h ⟨r,0,none⟩=some (.int .i64 (d.size:Int))
 sectors:cV h ⟨r,0+1,none⟩=some (.int .i64 (d.sectors:Int))
 st:cV h ⟨r,0+2,none⟩=some (.string (tx d.st.flatten))
 buf:cV h ⟨r,0+3,none⟩=some bv
 arm:cV h ⟨r,0+4,none⟩=some (.int .i64 (d.arm:Int))
def DoB.of{r:Nat}{d:Dk}{h:PH}{bv:Value}(B:Bx h r [.int .i64 (d.size:Int),.int .i64 (d.sectors:Int),.string (tx d.st.flatten),bv,.int .i64 (d.arm:Int)]):DoB r d h bv:=⟨B.cell 0,B.cell 1,B.cell 2,B.cell 3,B.cell 4⟩
def oF.b{r:Nat}{d:Dk}{h:PH}{F:List Nat}(H:oF r d h F):∃bv,DoB r d h bv:=by
 obtain⟨bv,Fb,rfl,B,-⟩:=H.here;exact⟨bv,DoB.of B⟩
def aO1{h:PH}{r:Nat}{d:Dk}{F:List Nat}(D:oF r d h F){k:cE}(hk:∀h',oF r d.tick h' F->cX F h h'->k (.bool (decide (d.arm=1))) h'):bT PG qV #[pT r 0] h k:=by
 apply tP.call;unfold tP;have ha:=D.arm;obtain⟨bv,Fb,rfl,B,W,n1⟩:=id D.here;have L:=DoB.of B;have e:((d.arm:Int)==1)=decide (d.arm=1):=by rw[xF,beq_iff_eq,decide_eq_true_iff];omega
 by_cases c:d.arm=0
 ·have g:((0:Int)<(d.arm:Int))=False:=eq_false (by omega);have et:d.tick=d:=by
   unfold Dk.tick;rw[c];obtain⟨x1,x2,x3,x4,x5⟩:=d;simp only at c;subst c;rfl
  rw[et] at hk;simp only[cO.f4,aR.load,L.arm,g,qN,gA,e,cC,reduceIte,cI,Nat.reduceAdd];exact hk h D cX.refl
 ·have g:((0:Int)<(d.arm:Int))=True:=eq_true (by omega);have w:IntKind.i64.wrap ((d.arm:Int)-1)=((d.arm-1:Nat):Int):=by rw[eB (by omega) (by omega)];omega
  simp only[cO.f4,aR.load,L.arm,g,w,cC,reduceIte,cI,Nat.reduceAdd];refine aR.put B (o:=4) (by show 4<5;decide) rfl λh2 B2 u2=>?_;simp only[qN,gA,e,cC,reduceIte,cI,Nat.reduceAdd];exact hk h2 ⟨⟨bv,Fb,rfl,B2,W.upd u2 (kN n1),n1⟩,D.ok.tick,by show d.arm-1<_;omega⟩ (u2.mono λb hb=>.inl (by simp only[iC] at hb;simp[hb]))
def aRA{h:PH}{r size sectors n:Nat}{st:List Tx}{bv av:Value}{s:Tx}(B:Bx h r [.int .i64 (size:Int),.int .i64 (sectors:Int),.string (tx st.flatten),bv,av])(hx:∀s∈st,s.length=size)(hn:n<st.length)(hs:s.length≤size)(hz:size≤512)(hl:st.length≤4096){k:cE}
  (hk:∀h',Bx h' r [.int .i64 (size:Int),.int .i64 (sectors:Int),.string (tx (st.set n (s++(st.getD n []).drop s.length)).flatten),bv,av]->cX [r] h h'->k (.tuple #[]) h'):bT PG sV #[pT r 0,.int .i64 (n:Int),.string (tx s)] h k:=by
 apply oY.call;unfold oY;have c0:cV h ⟨r,0,none⟩=some (.int .i64 (size:Int)):=B.cell 0;have c2:cV h ⟨r,0+2,none⟩=some (.string (tx st.flatten)):=B.cell 2;have fl:=aBx hx;have m0:st.length*size≤4096*512:=Nat.mul_le_mul hl hz;have m1:n*size≤st.length*size:=zLO _ (by omega);have m2:(n+1)*size≤st.length*size:=zLO _ (by omega);have m3:(n+1)*size=n*size+size:=Nat.succ_mul _ _;have w1:IntKind.i64.wrap ((n:Int)*(size:Int))=((n*size:Nat):Int):=by rw[←Int.natCast_mul,eB (by omega) (by omega)]
 have w2:IntKind.i64.wrap (((n*size:Nat):Int)+(s.length:Int))=((n*size+s.length:Nat):Int):=by rw[eB (by omega) (by omega)];omega
 have k1:cB PG (Instr.sliceAt aT (.string (tx st.flatten)) none (some (.int .i64 ((n*size:Nat):Int))) none)=some (.string (tx (st.flatten.take (n*size)))):=by
  have:=kD (P:=PG) (t:=aT) (l:=st.flatten) (i:=0) (j:=n*size) (lo:=none) (hi:=some (.int .i64 ((n*size:Nat):Int))) aT.und (.inl ⟨rfl,rfl⟩) (.inr ⟨_,rfl⟩) (by omega) (by omega);rw[this,zLb]
 have k2:cB PG (Instr.sliceAt aT (.string (tx st.flatten)) (some (.int .i64 ((n*size+s.length:Nat):Int))) none none)=some (.string (tx (st.flatten.drop (n*size+s.length)))):=by
  have:=kD (P:=PG) (t:=aT) (l:=st.flatten) (i:=n*size+s.length) (j:=st.flatten.length) (lo:=some (.int .i64 ((n*size+s.length:Nat):Int))) (hi:=none) aT.und (.inr ⟨_,rfl⟩) (.inl ⟨rfl,rfl⟩) (by omega) (by omega);rw[this,zLJ]
 have a1:cB PG (binOp .add aT (.string (tx (st.flatten.take (n*size)))) (.string (tx s)))=some (.string (tx (st.flatten.take (n*size)++s))):=jW (by rw[lU];omega);have a2:cB PG (binOp .add aT (.string (tx (st.flatten.take (n*size)++s))) (.string (tx (st.flatten.drop (n*size+s.length)))))=some (.string (tx (st.flatten.take (n*size)++s++st.flatten.drop (n*size+s.length)))):=jW (by rw[jM,lU,jC];omega);simp only[cO.f0,cO.f2,aR.load,aT.load,c0,c2,nU,w1,k1,a1,iV,w2,k2,a2,cC,reduceIte,cI,Nat.reduceAdd];refine aT.put B (o:=2) (by show 2<5;decide) rfl λh2 B2 u2=>?_;refine hk h2 ?_ u2;rw[←aVh hx hn hs];exact B2
def aX8(n:Int)(s:ByteArray):cB PG (build dQ #[(0,.int .i64 n),(1,.string s)])=some (.agg #[.int .i64 n,.string s]):=by kernel_rfl
def aXn(n:Int)(s:ByteArray):kC PG (buildSlice cT 1 #[(0,.agg #[.int .i64 n,.string s])])=some (.cells #[.int .i64 n,.string s] dQ,λr=>pure (.slice (some ⟨r,0,none⟩) 1 1)):=by kernel_rfl
def aYQ:kC PG (buildSlice cT 0 #[])=some (.cells #[] dQ,λr=>pure (.slice (some ⟨r,0,none⟩) 0 0)):=by kernel_rfl
def aMp{h:PH}{v:Value}{l:List (Nat×Tx)}(S:iH h 2 v (l.map sI)):cB PG (Builtin.len_ #[cT] aR #[v])=some (.int .i64 l.length):=by
 have:=S.len (t':=aR) cT.und;rw[iL] at this;exact this
def aRq{h:PH}{v:Value}{l:List (Nat×Tx)}(S:iH h 2 v (l.map sI)){i:Nat}{w:Nat×Tx}(hx:l[i]? =some w):∃b o,cB PG (indexAt cT v (.int .i64 (i:Int)))=some (pT b o)∧cV h ⟨b,o,none⟩=some (.int .i64 (w.1:Int))∧cV h ⟨b,o+1,none⟩=some (.string (tx w.2)):=by
 obtain⟨b,o,h1,hf⟩:=S.fields (t:=cT) (k:=.i64) (j:=i) cT.und dQ.info dQ.size (r:=sI w) (by rw[wG,hx];rfl);exact⟨b,o,h1,hf.1 0 _ rfl,hf.1 1 _ rfl⟩
def aR9{h:PH}{r:Nat}{d:Dk}{F:List Nat}(D:oF r d h F)(n:Int)(s:Tx)(hb:d.buf.length≤1000000){k:cE}(hk:∀h' F',oF r (d.wr n s).1 h' F'->eA h F h' F'->k (.int .i64 (d.wr n s).2) h'):bT PG xE #[pT r 0,.int .i64 n,.string (tx s)] h k:=by
 apply tT.call;unfold tT;obtain⟨bv,L⟩:=D.b;have hok:=D.ok.wr n s;unfold Dk.wr at hk hok;have bad:(n<0∨(d.sectors:Int)≤n∨s.length≠d.size)->k (.int .i64 1) h:=λc=>by
  rw[if_pos c] at hk;exact hk h F D eA.refl
 by_cases c0:n<0
 ·have g:(n<0)=True:=eq_true c0;simp only[g,cC,reduceIte,cI,Nat.reduceAdd];exact bad (.inl c0)
 ·have g:(n<0)=False:=eq_false c0;by_cases c1:(d.sectors:Int)≤n
  ·have g1:((d.sectors:Int)≤n)=True:=eq_true c1;simp only[g,cO.f1,aR.load,L.sectors,g1,cC,reduceIte,cI,Nat.reduceAdd];exact bad (.inr (.inl c1))
  ·have g1:((d.sectors:Int)≤n)=False:=eq_false c1;by_cases c2:s.length=d.size
   ·have q2:((s.length:Int) !=(d.size:Int))=false:=by simp[c2]
    rw[if_neg (by omega)] at hk hok;simp only[g,cO.f0,cO.f1,aR.load,L.sectors,L.size,g1,iV,eI,q2,cC,reduceIte,cI,Nat.reduceAdd];refine aO1 D λh2 D2 u2=>?_;have st2:eA h F h2 F:=⟨u2,λb hb=>.inl hb⟩;by_cases c3:d.arm=1
    ·rw[if_pos c3] at hk;simp only[c3,decide_true,cC,reduceIte,cI,Nat.reduceAdd];exact hk h2 F D2 st2
    ·rw[if_neg c3] at hk hok;obtain⟨bv,Fb,eF,B2,W2,n1⟩:=D2.here;simp only[c3,decide_false,aYQ,cC,reduceIte,cI,Nat.reduceAdd];intro r54 hr54;refine iB ?_
     try rw[cR]
     have O3:eH (h2.set r54 (.cells #[] dQ)) dQ 2 (.slice (some ⟨r54,0,none⟩) 0 0) [] [r54]:=eH.lit (n:=0) (λr hr=>by cases hr) eN rfl (by decide) rfl;have u3:dA h2 (h2.set r54 (.cells #[] dQ)):=cX.new hr54;generalize h2.set r54 (.cells #[] dQ)=h3 at *;have L3:=DoB.of (B2.ext u3);have bl:(d.tick.buf.map sI).length=d.buf.length:=by rw[iL];rfl
     have f54:h2 r54=none:=hr54;simp only[cO.f3,cT.load,L3.buf,cC,reduceIte,cI,Nat.reduceAdd];refine lV cT.und cT.und dQ.info dQ.size dQ.bytes dQ.zero rfl (by decide) O3 (W2.slR.ext u3) (by
      intro r hr u hu;obtain⟨m,_,rfl⟩:=pQ.1 hr;exact sI.isC m u hu) (by rw[bl];simp only[kV];omega) ?_
     intro v4 h4 F4 O4 u4 g4 _;rw[zLU] at O4;have g4':∀b∈F4,h2 b=none:=λb hb=>by
      rcases g4 b hb with e|e
      ·simp only[iC] at e;rw[e];exact f54
      ·exact u3.none e
     have e4:dA h2 h4:=u3.fresh u4 (eD.one f54);simp only[aX8,aXn,cC,reduceIte,cI,Nat.reduceAdd];intro r64 hr64;refine iB ?_
     try rw[cR]
     have Sl:iH (h4.set r64 (.cells #[.int .i64 n,.string (tx s)] dQ)) 2 (.slice (some ⟨r64,0,none⟩) 1 1) [[.int .i64 n,.string (tx s)]]:=(eH.lit (e:=dQ) (size:=2) (rows:=[[.int .i64 n,.string (tx s)]]) (n:=1) (λr hr=>by simp only[iC] at hr;rw[hr];rfl) eN rfl (by decide) rfl).slR;have u5:dA h4 (h4.set r64 (.cells #[.int .i64 n,.string (tx s)] dQ)):=cX.new hr64;generalize h4.set r64 (.cells #[.int .i64 n,.string (tx s)] dQ)=h5 at *;refine lV cT.und cT.und dQ.info dQ.size dQ.bytes dQ.zero rfl (by decide) (O4.ext u5) Sl (by simp[fL]) (by rw[bl];simp only[iU,kV];omega) ?_;intro v6 h6 F6 O6 u6 g6 _;have g6':∀b∈F6,h2 b=none:=λb hb=>by
      rcases g6 b hb with e|e
      ·exact g4' b e
      ·exact(e4.trans u5).none e
     have e6:dA h2 h6:=(e4.trans u5).fresh u6 g4';have en:n=((n.toNat:Nat):Int):=by omega
     have O6:eH h6 dQ 2 v6 ((d.buf++[(n.toNat,s)]).map sI) F6:=by
      rw[xJ];have:sI (n.toNat,s)=[.int .i64 n,.string (tx s)]:=by unfold sI;simp only;rw[←en]
      rw[iG,jB,this];exact O6
     have n6:r∉F6:=λhm=>B2.known (g6' r hm);refine cT.put (B2.ext e6) (o:=3) (by show 3<5;decide) O6.slR.isc λh7 B7 u7=>?_;have ha:=D.arm;refine hk h7 (r::F6) ⟨⟨v6,F6,rfl,B7,O6.upd u7 (kN n6),n6⟩,hok,by show d.arm-1<_;omega⟩ (st2.trans ⟨?_,?_⟩)
     ·rw[eF];exact(e6.upd.trans (u7.mono λb hb=>.inl (by simp only[iC] at hb;simp[hb])))
     ·intro b hb;rw[eF];rcases iW.1 hb with rfl|hb
      ·exact .inl (by simp)
      ·exact .inr (g6' b hb)
   ·have q2:((s.length:Int) !=(d.size:Int))=true:=by rw[bne_iff_ne];omega
    simp only[g,cO.f0,cO.f1,aR.load,L.sectors,L.size,g1,iV,eI,q2,cC,reduceIte,cI,Nat.reduceAdd];exact bad (.inr (.inr c2))
def aU9{st:List Tx}{n size:Nat}{s:Tx}(hx:∀s∈st,s.length=size)(hn:n<st.length)(hs:s.length=size):st.set n (s++(st.getD n []).drop s.length)=st.set n s:=by
 have hl:=hx _ (aHO hn);rw[sQ,kF hn,Option.getD_some,yQ (by omega),zLQ]
def aNS{h:PH}{r:Nat}{d:Dk}{F:List Nat}(D:oF r d h F)(hb:d.buf.length≤1000000){k:cE}(hk:∀h' F',oF r d.fl.1 h' F'->eA h F h' F'->k (.int .i64 d.fl.2) h'):bT PG qW #[pT r 0] h k:=by
 apply nV.call;unfold nV;have hok:=D.ok.fl;have hz:=D.ok.size;unfold gB at hz;unfold Dk.fl at hk hok;refine aO1 D λh1 D1 u1=>?_;have st1:eA h F h1 F:=⟨u1,λb hb=>.inl hb⟩;by_cases c:d.arm=1
 ·rw[if_pos c] at hk;simp only[c,decide_true,cC,reduceIte,cI,Nat.reduceAdd];exact hk h1 F D1 st1
 ·rw[if_neg c] at hk hok;obtain⟨bv,Fb,eF,B,W,n1⟩:=D1.here;have B:Bx h1 r [.int .i64 (d.size:Int),.int .i64 (d.sectors:Int),.string (tx d.st.flatten),bv,.int .i64 ((d.arm-1:Nat):Int)]:=B;have W:eH h1 dQ 2 bv (d.buf.map sI) Fb:=W;simp only[c,decide_false,cC,reduceIte,cI,Nat.reduceAdd];refine⟨λvs h'=>∃i:Nat,i≤d.buf.length∧vs=[pT r 0,.int .i64 (i:Int)]∧Bx h' r [.int .i64 (d.size:Int),.int .i64 (d.sectors:Int),.string (tx (kH d.st (d.buf.take i)).flatten),bv,.int .i64 ((d.arm-1:Nat):Int)]∧cX [r] h1 h',fT d.buf.length 1,⟨0,by omega,rfl,B,cX.refl⟩,?_⟩;rintro ρ h' ⟨i,hi,hvs,B2,w⟩;simp only[iG,jB,kZ,and_true] at hvs;obtain⟨x0,x3⟩:=hvs;unfold aCK;rw[x0,x3];have W2:=W.upd w (kN n1);have cb:cV h' ⟨r,0+3,none⟩=some bv:=B2.cell 3;by_cases hlt:i<d.buf.length
  ·have g:((i:Int)<(d.buf.length:Int))=True:=eq_true (by omega);have gi:=nR (i:=i) (by omega);obtain⟨x,hx⟩:∃x,d.buf[i]? =some x:=⟨_,kF hlt⟩;have hxb:=D.ok.buf x (zX hx);obtain⟨b,o,i1,f0,f1⟩:=aRq W2.slR hx;have ea:∀s∈kH d.st (d.buf.take i),s.length=d.size:=aGY _ _ D.ok.each (λw hw=>(D.ok.buf w (List.mem_of_mem_take hw)).2);have el:(kH d.st (d.buf.take i)).length=d.sectors:=by rw[aAE,D.ok.len]
   have hm:=D.ok.many;simp only[cO.f3,cT.load,cb,aMp W2.slR,g,i1,dQ.f0,dQ.f1,aR.load,aT.load,f0,f1,cC,reduceIte,cI,Nat.reduceAdd];refine aRA B2 ea (by omega) (by omega) hz.2 (by omega) λh3 B3 u3=>?_;rw[aU9 ea (by omega) hxb.2,←aI9 hx] at B3;simp only[gi,cC,reduceIte,cI,Nat.reduceAdd];exact⟨⟨i+1,by omega,rfl,B3,w.trans u3⟩,by simp[fT,x3];omega⟩
  ·have g:((i:Int)<(d.buf.length:Int))=False:=eq_false (by omega);have ei:d.buf.take i=d.buf:=sK (by omega);rw[ei] at B2;simp only[cO.f3,cT.load,cb,aMp W2.slR,g,cC,reduceIte,cI,Nat.reduceAdd];refine cT.put B2 (o:=3) (by show 3<5;decide) rfl λh3 B3 u3=>?_;have ha:=D.arm;refine hk h3 (r::[]) ⟨⟨.slice none 0 0,[],rfl,B3,eH.nil,by simp⟩,hok,by show d.arm-1<_;omega⟩ (st1.trans ⟨?_,?_⟩)
   ·rw[eF];exact(w.trans u3).mono λb hb=>.inl (by simp only[iC] at hb;simp[hb])
   ·intro b hb;rw[eF];simp only[iC] at hb;exact .inl (by simp[hb])
def aXO(vs:List Value)(_:PH):Nat:=match vs[2]? with|some (Value.int _ y)=>(y+1).toNat|_=>0
def aLF{h:PH}{r:Nat}{d:Dk}{F:List Nat}(D:oF r d h F)(n:Int)(hb:d.buf.length≤1000000){k:cE}(hk:k (.tuple #[.string (tx (d.rd n).1),.int .i64 (d.rd n).2]) h):bT PG oW #[pT r 0,.int .i64 n] h k:=by
 apply oJ.call;unfold oJ;obtain⟨bv,Fb,eF,B,W,n1⟩:=id D.here;have L:=DoB.of B;have hz:=D.ok.size;unfold gB at hz;unfold Dk.rd at hk;by_cases c0:n<0
 ·have g:(n<0)=True:=eq_true c0;rw[if_pos (.inl c0)] at hk;simp only[g,cC,reduceIte,cI,Nat.reduceAdd];exact hk
 ·have g:(n<0)=False:=eq_false c0;by_cases c1:(d.sectors:Int)≤n
  ·have g1:((d.sectors:Int)≤n)=True:=eq_true c1;rw[if_pos (.inr c1)] at hk;simp only[g,cO.f1,aR.load,L.sectors,g1,cC,reduceIte,cI,Nat.reduceAdd];exact hk
  ·have g1:((d.sectors:Int)≤n)=False:=eq_false c1;rw[if_neg (by omega)] at hk;have en:n=((n.toNat:Nat):Int):=by omega
   have hn:n.toNat<d.sectors:=by omega
   obtain⟨m,hm⟩:∃m,n.toNat=m:=⟨_,rfl⟩;rw[hm] at en hn hk;subst en;have w1:IntKind.i64.wrap ((d.buf.length:Int)-1)=(d.buf.length:Int)-1:=eB (by omega) (by omega);simp only[g,cO.f1,cO.f3,aR.load,cT.load,L.sectors,L.buf,g1,aMp W.slR,w1,cC,reduceIte,cI,Nat.reduceAdd];refine⟨λvs h'=>∃i:Nat,i≤d.buf.length∧vs=[pT r 0,.int .i64 (m:Int),.int .i64 ((i:Int)-1)]∧h'=h∧∀x∈d.buf.drop i,x.1≠m,aXO,⟨d.buf.length,lM _,rfl,rfl,by simp⟩,?_⟩;rintro ρ h' ⟨i,hi,hvs,rfl,hno⟩;simp only[iG,jB,kZ,and_true] at hvs;obtain⟨x0,x1,x6⟩:=hvs;unfold aCI;rw[x0,x1,x6];have hl:m<d.st.length:=by rw[D.ok.len];exact hn
   by_cases ci:i=0
   ·subst ci;have g2:((0:Int)≤((0:Nat):Int)-1)=False:=eq_false (by decide);have hm4:=D.ok.many;have m1:(m+1)*d.size≤d.sectors*d.size:=zLO _ hn;have m0:m*d.size≤(m+1)*d.size:=zLO _ (aES _);have m2:d.sectors*d.size≤4096*512:=Nat.mul_le_mul hm4 hz.2;have w2:IntKind.i64.wrap ((m:Int)*(d.size:Int))=((m*d.size:Nat):Int):=by rw[←Int.natCast_mul,eB (by omega) (by omega)]
    have w3:=nR (i:=m) (by omega);have w4:IntKind.i64.wrap (((m+1:Nat):Int)*(d.size:Int))=(((m+1)*d.size:Nat):Int):=by rw[←Int.natCast_mul,eB (by omega) (by omega)]
    have fl:=aBx D.ok.each;rw[D.ok.len] at fl;have c:cB PG (Instr.sliceAt aT (.string (tx d.st.flatten)) (some (.int .i64 ((m*d.size:Nat):Int))) (some (.int .i64 (((m+1)*d.size:Nat):Int))) none)=some (.string (tx (d.at m))):=by
     have:=kD (P:=PG) (t:=aT) (l:=d.st.flatten) (i:=m*d.size) (j:=(m+1)*d.size) (lo:=some (.int .i64 ((m*d.size:Nat):Int))) (hi:=some (.int .i64 (((m+1)*d.size:Nat):Int))) aT.und (.inr ⟨_,rfl⟩) (.inr ⟨_,rfl⟩) m0 (by omega);rw[this,zLy,Nat.succ_mul,aCb,aRB D.ok.each hl];unfold Dk.at;rw[aEo _ _ _ (by rw[zLb] at hno;exact hno)]
    simp only[g2,cO.f2,cO.f0,aT.load,aR.load,L.st,L.size,nU,w2,w3,w4,c,cC,reduceIte,cI,Nat.reduceAdd];exact hk
   ·have g2:((0:Int)≤(i:Int)-1)=True:=eq_true (by omega);have ei:(i:Int)-1=((i-1:Nat):Int):=by omega
    obtain⟨x,hx⟩:∃x,d.buf[i-1]? =some x:=⟨_,kF (by omega)⟩;obtain⟨b,o,i1,f0,f1⟩:=aRq W.slR hx;rw[←ei] at i1;by_cases cx:x.1=m
    ·have q:((x.1:Int)==(m:Int))=true:=by simp[cx]
     have ea:d.at m=x.2:=aQd hx cx hl (by rw[Nat.sub_add_cancel (by omega)];exact hno);simp only[g2,cO.f3,cT.load,L.buf,i1,dQ.f0,dQ.f1,aR.load,aT.load,f0,f1,gA,q,cC,reduceIte,cI,Nat.reduceAdd];rw[ea] at hk;exact hk
    ·have q:((x.1:Int)==(m:Int))=false:=by rw[beq_eq_false_iff_ne];omega
     have w2:IntKind.i64.wrap ((i:Int)-1-1)=((i-1:Nat):Int)-1:=by rw[eB (by omega) (by omega)];omega
     simp only[g2,cO.f3,cT.load,L.buf,i1,dQ.f0,aR.load,f0,gA,q,w2,cC,reduceIte,cI,Nat.reduceAdd];refine⟨⟨i-1,by omega,rfl,by first|rfl|trivial,λy hy=>?_⟩,by simp[aXO,x6];omega⟩;rw[aAs (by omega)] at hy;rcases iW.1 hy with e|hy
     ·have:d.buf[i-1]=x:=by rw[kF (by omega)] at hx;simpa using hx
      rw[e,this];exact cx
     ·rw[Nat.sub_add_cancel (by omega)] at hy;exact hno y hy
def aVG{h:PH}{r:Nat}{d:Dk}{F:List Nat}(D:oF r d h F)(n:Int)(hn:n<9223372036854775808){k:cE}(hk:∀h',oF r (d.armed n) h' F->cX F h h'->k (.tuple #[]) h'):bT PG yK #[pT r 0,.int .i64 n] h k:=by
 apply wW.call;unfold wW;obtain⟨bv,Fb,rfl,B,W,n1⟩:=id D.here;simp only[cO.f4,cC,reduceIte,cI,Nat.reduceAdd];refine aR.put B (o:=4) (by show 4<5;decide) rfl λh2 B2 u2=>?_;have fin:∀h3,Bx h3 r [.int .i64 (d.size:Int),.int .i64 (d.sectors:Int),.string (tx d.st.flatten),bv,.int .i64 ((n.toNat:Nat):Int)]->cX [r] h h3->k (.tuple #[]) h3:=λh3 B3 u3=>
  hk h3 ⟨⟨bv,Fb,rfl,B3,W.upd u3 (kN n1),n1⟩,D.ok.armed n,by show n.toNat<_;omega⟩ (u3.mono λb hb=>.inl (by simp only[iC] at hb;simp[hb]))
 by_cases c:n<0
 ·have g:(n<0)=True:=eq_true c;have e0:(0:Int)=((n.toNat:Nat):Int):=by omega
  simp only[g,cO.f4,cC,reduceIte,cI,Nat.reduceAdd];refine aR.put B2 (o:=4) (by show 4<5;decide) rfl λh3 B3 u3=>?_;have B3:Bx h3 r [.int .i64 (d.size:Int),.int .i64 (d.sectors:Int),.string (tx d.st.flatten),bv,.int .i64 0]:=B3;rw[e0] at B3;exact fin h3 B3 (u2.trans u3)
 ·have g:(n<0)=False:=eq_false c;have e0:n=((n.toNat:Nat):Int):=by omega
  simp only[g,cC,reduceIte,cI,Nat.reduceAdd];have B2:Bx h2 r [.int .i64 (d.size:Int),.int .i64 (d.sectors:Int),.string (tx d.st.flatten),bv,.int .i64 n]:=B2;rw[e0] at B2;exact fin h2 B2 u2
def aTB(size n:Nat):kJ (size*n)=(List.replicate n (kJ size)).flatten:=by
 induction n with
 | zero=>rfl
 | succ n ih=>
  rw[List.replicate_succ,aEU,←ih];unfold kJ;rw[Nat.mul_succ,Nat.add_comm,List.replicate_append_replicate]
def aXS(a b:Int)(s:ByteArray):cB PG (build cO #[(0,.int .i64 a),(1,.int .i64 b),(2,.string s)])=some (.agg #[.int .i64 a,.int .i64 b,.string s,.slice none 0 0,.int .i64 0]):=by kernel_rfl
def aUX{h:PH}(size sectors:Nat)(ok:gB size)(h1:1≤sectors)(h2:sectors≤4096){k:cE}(hk:∀h' r F,oF r (Dk.new size sectors) h' F->eD h F->dA h h'->k (pT r 0) h'):bT PG aCX #[.int .i64 (size:Int),.int .i64 (sectors:Int)] h k:=by
 apply aBq.call;unfold aBq;have h64:=ok.1;have h512:=ok.2;have m2:size*sectors≤512*4096:=Nat.mul_le_mul h512 h2;have w1:IntKind.i64.wrap ((size:Int)*(sectors:Int))=((size*sectors:Nat):Int):=by rw[←Int.natCast_mul,eB (by omega) (by omega)]
 obtain⟨zs,hm,hzz⟩:=aFW (P:=PG) (n:=size*sectors) cY.und dM.info dM.size dM.bytes dM.zero rfl (by decide) (by omega) (by omega);simp only[nU,w1,hm,cC,reduceIte,cI,Nat.reduceAdd];intro r2 hr2;refine iB ?_
 try rw[cR]
 have u1:dA h (h.set r2 (.cells zs dM (0,0))):=cX.new hr2;have O1:eH (h.set r2 (.cells zs dM (0,0))) dM 1 (.slice (some ⟨r2,0,none⟩) (size*sectors) (size*sectors)) ((kJ (size*sectors)).map jZ) [r2]:=eH.lit (e:=dM) (size:=1) (n:=size*sectors) (λr hr=>by obtain⟨m,_,rfl⟩:=pQ.1 hr;rfl) eN (by rw[iL,xD]) (by show size*sectors≤xC;exact zLE m2 (by decide)) (by
  rw[hzz];unfold kJ;rw[List.map_replicate];rfl)
 generalize h.set r2 (.cells zs dM (0,0))=h3 at *;have hcv:=aFQ cY.und dM.und aT.und O1.slR;simp only[hcv,aXS,cC,reduceIte,cI,Nat.reduceAdd];intro r8 hr8
 try rw[cR]
 have ef:kJ (size*sectors)=(Dk.new size sectors).st.flatten:=by
  exact aTB size sectors
 rw[ef];have u4:dA h3 (h3.set r8 (.cells (Value.cells (.agg #[.int .i64 (size:Int),.int .i64 (sectors:Int),.string (tx (Dk.new size sectors).st.flatten),.slice none 0 0,.int .i64 0])) cO)):=cX.new hr8;have B4:Bx (h3.set r8 (.cells (Value.cells (.agg #[.int .i64 (size:Int),.int .i64 (sectors:Int),.string (tx (Dk.new size sectors).st.flatten),.slice none 0 0,.int .i64 0])) cO)) r8 [.int .i64 (size:Int),.int .i64 (sectors:Int),.string (tx (Dk.new size sectors).st.flatten),.slice none 0 0,.int .i64 0]:=Bx.new;refine hk _ r8 (r8::[]) ⟨⟨.slice none 0 0,[],rfl,B4,eH.nil,by simp⟩,Dk.new_ok ok h1 h2,by show 0<_;omega⟩ (eD.one (u1.none hr8)) (u1.trans u4)
def aDt{h:PH}(size:Nat){k:cE}(hk:k (.bool (decide (gB size))) h):bT PG nI #[.int .i64 (size:Int)] h k:=by
 apply aAa.call;unfold aAa;by_cases h1:64≤size
 ·have g1:((64:Int)≤(size:Int))=True:=eq_true (by omega);have e:decide ((size:Int)≤512)=decide (gB size):=by
   rw[xF,decide_eq_true_iff,decide_eq_true_iff];unfold gB;omega
  simp only[g1,cC,reduceIte,cI,Nat.reduceAdd];rw[e];exact hk
 ·have g1:((64:Int)≤(size:Int))=False:=eq_false (by omega);have e:decide (gB size)=false:=decide_eq_false (λx=>h1 x.1);rw[e] at hk;simp only[g1,cC,reduceIte,cI,Nat.reduceAdd];exact hk
def cvN(n:Nat)(hn:n<9223372036854775808):cB PG (convert aR cJ (.int .i64 (n:Int)))=some (.int .u64 (n:Int)):=by
 rw[show cB PG (convert aR cJ (.int .i64 (n:Int)))=some (.int .u64 (IntKind.u64.wrap (n:Int))) from by kernel_rfl,kI (by omega) (by omega)]
def aP2{h:PH}(n:Nat)(hn:n≤1000000){k:cE}(hk:∀h',dA h h'->k (.string (tx (kJ n))) h'):
  bY (kC PG (Instr.makeSlice cY (.int .i64 (n:Int)) (.int .i64 (n:Int)))) λx=>∀r,h r=none->bY (cB PG (x.2 r)) λv=>dU (PH.set h r x.1) λh2=>bY (cD PG h2 (convert cY aT v)) λw=>k w h2:=by
 obtain⟨zs,hm,hzz⟩:=aFW (P:=PG) (n:=n) cY.und dM.info dM.size dM.bytes dM.zero rfl (by decide) (by omega) (by omega);rw[hm,iO];intro r2 hr2;refine iB ?_
 try rw[cR]
 have u1:dA h (h.set r2 (.cells zs dM (0,0))):=cX.new hr2;have O1:eH (h.set r2 (.cells zs dM (0,0))) dM 1 (.slice (some ⟨r2,0,none⟩) n n) ((kJ n).map jZ) [r2]:=eH.lit (e:=dM) (size:=1) (n:=n) (λr hr=>by obtain⟨m,_,rfl⟩:=pQ.1 hr;rfl) eN (by rw[iL,xD]) (zLE hn (by decide)) (by
  rw[hzz];unfold kJ;rw[List.map_replicate];rfl)
 have hcv:=aFQ cY.und dM.und aT.und O1.slR;rw[hcv,iO];exact hk _ u1
set_option maxHeartbeats 1000000 in
def aMn{h:PH}(size gen ser part parts:Nat)(s:Tx)(ok:gB size)(g1:gen<18446744073709551616)(g2:ser<18446744073709551616)(g3:part<1000000)(g4:parts<1000000)(hs:s.length+25≤size){k:cE}(hk:∀h',dA h h'->k (.string (tx (nC size gen ser part parts s))) h'):bT PG uW #[.int .i64 (size:Int),.int .u64 (gen:Int),.int .u64 (ser:Int),.int .i64 (part:Int),.int .i64 (parts:Int),.string (tx s)] h k:=by
 apply yZ.call;unfold yZ;have h512:=ok.2;have e82:(⟨#[82]⟩:ByteArray)=tx [82]:=rfl;rw[e82];refine mJ (n:=gen) (c:=8) g1 (by decide) λh1 u1=>?_;have a1:cB PG (binOp .add aT (.string (tx [82])) (.string (tx (be gen 8))))=some (.string (tx ([82]++be gen 8))):=jW (by simp[hY]);simp only[a1,iO,zPP];refine mJ (n:=ser) (c:=8) g2 (by decide) λh2 u2=>?_;have a2:cB PG (binOp .add aT (.string (tx ([82]++be gen 8))) (.string (tx (be ser 8))))=some (.string (tx ([82]++be gen 8++be ser 8))):=jW (by simp[hY]);simp only[a2,cvN part (by omega),iO,zPP];refine mJ (n:=part) (c:=1) (by omega) (by decide) λh3 u3=>?_;have a3:cB PG (binOp .add aT (.string (tx ([82]++be gen 8++be ser 8))) (.string (tx (be part 1))))=some (.string (tx ([82]++be gen 8++be ser 8++be part 1))):=jW (by simp[hY]);simp only[a3,cvN parts (by omega),iO,zPP];refine mJ (n:=parts) (c:=1) (by omega) (by decide) λh4 u4=>?_;have a4:cB PG (binOp .add aT (.string (tx ([82]++be gen 8++be ser 8++be part 1))) (.string (tx (be parts 1))))=some (.string (tx ([82]++be gen 8++be ser 8++be part 1++be parts 1))):=jW (by simp[hY]);simp only[a4,iV,cvN s.length (by omega),iO,zPP];refine mJ (n:=s.length) (c:=2) (by omega) (by decide) λh5 u5=>?_;have a5:cB PG (binOp .add aT (.string (tx ([82]++be gen 8++be ser 8++be part 1++be parts 1))) (.string (tx (be s.length 2))))=some (.string (tx ([82]++be gen 8++be ser 8++be part 1++be parts 1++be s.length 2))):=jW (by simp[hY]);have a6:cB PG (binOp .add aT (.string (tx ([82]++be gen 8++be ser 8++be part 1++be parts 1++be s.length 2))) (.string (tx s)))=some (.string (tx ([82]++be gen 8++be ser 8++be part 1++be parts 1++be s.length 2++s))):=jW (by simp[hY];omega);have hl:([82]++be gen 8++be ser 8++be part 1++be parts 1++be s.length 2++s).length=21+s.length:=by simp[hY];omega
 have w1:IntKind.i64.wrap ((size:Int)-4)=(size:Int)-4:=eB (by omega) (by omega);have w2:IntKind.i64.wrap ((size:Int)-4-((21+s.length:Nat):Int))=((size-25-s.length:Nat):Int):=by rw[eB (by omega) (by omega)];omega
 simp only[a5,a6,aKv,w1,iV,hl,w2,iO,zPP];refine aP2 (size-25-s.length) (by omega) λh6 u6=>?_;have eb: [82]++be gen 8++be ser 8++be part 1++be parts 1++be s.length 2++s++kJ (size-25-s.length)=mX size gen ser part parts s:=by
  unfold mX;simp only[uS]
 have a7:cB PG (binOp .add aT (.string (tx ([82]++be gen 8++be ser 8++be part 1++be parts 1++be s.length 2++s))) (.string (tx (kJ (size-25-s.length)))))=some (.string (tx (mX size gen ser part parts s))):=by
  rw[←eb];exact jW (by rw[hl,xD];omega)
 simp only[a7,iO,zPP];refine aMP _ (by rw[aGe hs];omega) λh7 u7=>?_;exact hk h7 ((((((u1.trans u2).trans u3).trans u4).trans u5).trans u6).trans u7)
def aSI{size n:Nat}(ok:gB size)(h:n≤4096):dL size n=if size-25<n then 1+dL size (n-(size-25)) else 1:=by
 have h64:=ok.1;obtain⟨room,hr⟩:∃room,size-25=room:=⟨_,rfl⟩;have e:∀m,m≤4096->dL size m=max 1 ((m+room-1)/room):=λm hm=>by unfold dL;rw[if_pos ⟨ok,hm⟩,hr]
 rw[e n h,hr];have hroom:0<room:=by omega
 by_cases c:room<n
 ·rw[if_pos c,e _ (by omega)];have h1:(n+room-1)/room=(n-room+room-1)/room+1:=by
   rw[show n+room-1=(n-room+room-1)+room by omega,Nat.add_div_right _ hroom]
  have h2:1≤(n-room+room-1)/room:=by
   rw[Nat.le_div_iff_mul_le hroom];omega
  rw[h1];omega
 ·rw[if_neg c];have:(n+room-1)/room≤1:=by
   have:(n+room-1)/room<2:=by rw[Nat.div_lt_iff_lt_mul hroom];omega
   omega
  omega
def aXk(vs:List Value)(_:PH):Nat:=match vs[1]? with|some (Value.int _ y)=>y.toNat|_=>0
def aKu{h:PH}(size n:Nat)(hn:n<1000000000){k:cE}(hk:k (.int .i64 (dL size n:Int)) h):bT PG rR #[.int .i64 (size:Int),.int .i64 (n:Int)] h k:=by
 apply aAh.call;unfold aAh;refine aDt size ?_;by_cases ok:gB size
 ·have h64:=ok.1;have h512:=ok.2;have g1:((n:Int)<0)=False:=eq_false (by omega);by_cases c:4096<n
  ·have g2:((4096:Int)<(n:Int))=True:=eq_true (by omega);have e:dL size n=0:=(qX ok).2 c;rw[e] at hk;simp only[ok,decide_true,g1,g2,cC,reduceIte,cI,Nat.reduceAdd];exact hk
  ·have g2:((4096:Int)<(n:Int))=False:=eq_false (by omega);simp only[ok,decide_true,g1,g2,cC,reduceIte,cI,Nat.reduceAdd];refine⟨λvs h'=>∃m i:Nat,m≤n∧i+n≤5000+n∧vs=[.int .i64 (size:Int),.int .i64 (m:Int),.int .i64 (i:Int)]∧h'=h∧dL size n+1=dL size m+i∧1≤i∧i+m≤n+1,aXk,⟨n,1,lM _,by omega,rfl,rfl,by omega,by omega,by omega⟩,?_⟩;rintro ρ h' ⟨m,i,hm,hi0,hvs,rfl,hp,hi,him⟩;simp only[iG,jB,kZ,and_true] at hvs;obtain⟨x0,x1,x5⟩:=hvs;unfold aDr;rw[x0,x1,x5];have w1:IntKind.i64.wrap ((size:Int)-25)=((size-25:Nat):Int):=by rw[eB (by omega) (by omega)];omega
   have hst:=aSI (n:=m) ok (by omega);by_cases cm:size-25<m
   ·have g3:(((size-25:Nat):Int)<(m:Int))=True:=eq_true (by omega);have w2:=nR (i:=i) (by omega);have w3:IntKind.i64.wrap ((m:Int)-((size-25:Nat):Int))=((m-(size-25):Nat):Int):=by rw[eB (by omega) (by omega)];omega
    rw[if_pos cm] at hst;simp only[w1,g3,w2,w3,cC,reduceIte,cI,Nat.reduceAdd];exact⟨⟨m-(size-25),i+1,by omega,by omega,rfl,by first|rfl|trivial,by omega,by omega,by omega⟩,by simp[aXk,x1];omega⟩
   ·have g3:(((size-25:Nat):Int)<(m:Int))=False:=eq_false (by omega);rw[if_neg cm] at hst;have:i=dL size n:=by omega
    simp only[w1,g3,cC,reduceIte,cI,Nat.reduceAdd];rw[this];exact hk
 ·have e:dL size n=0:=by unfold dL;rw[if_neg (λx=>ok x.1)]
  rw[e] at hk;simp only[ok,decide_false,cC,reduceIte,cI,Nat.reduceAdd];exact hk
def aOT{h:PH}(size gen ser:Nat)(s:Tx)(ok:gB size)(g1:gen<18446744073709551616)(g2:ser<18446744073709551616)(hl:s.length≤1000000){k:cE}
  (hk:∀h' v F,eH h' aT 1 v ((fR size gen ser s).map jI) F->eD h F->dA h h'->k (.tuple #[v,.int .i64 (if dL size s.length=0 then 1 else 0)]) h'):bT PG wM #[.int .i64 (size:Int),.int .u64 (gen:Int),.int .u64 (ser:Int),.string (tx s)] h k:=by
 apply aAF.call;unfold aAF;have h64:=ok.1;have h512:=ok.2;simp only[iV,cC,reduceIte,cI,Nat.reduceAdd];refine aKu size s.length (by omega) ?_;by_cases c0:dL size s.length=0
 ·have q0:(((dL size s.length:Nat):Int)==0)=true:=by rw[c0];rfl
  simp only[gA,q0,cC,reduceIte,cI,Nat.reduceAdd];have:=hk h (.slice none 0 0) [] (by
   have:fR size gen ser s=[]:=by unfold fR;rw[c0];rfl
   rw[this];exact eH.nil) (λb hb=>by cases hb) cX.refl
  rw[if_pos c0] at this;exact this
 ·have q0:(((dL size s.length:Nat):Int)==0)=false:=by rw[beq_eq_false_iff_ne];omega
  have hs:s.length≤4096:=by
   have:=(qX (n:=s.length) ok).2;omega
  rw[if_neg c0] at hk;simp only[gA,q0,cC,reduceIte,cI,Nat.reduceAdd];refine⟨λvs h'=>∃(i:Nat) (v:Value) (G:List Nat),i≤dL size s.length∧vs=[.int .i64 (size:Int),.int .u64 (gen:Int),.int .u64 (ser:Int),.string (tx s),.int .i64 (dL size s.length:Int),v,.int .i64 (i:Int)]∧eH h' aT 1 v (((fR size gen ser s).take i).map jI) G∧eD h G∧dA h h',fT (dL size s.length) 6,⟨0,.slice none 0 0,[],by omega,rfl,eH.nil,(λb hb=>by cases hb),cX.refl⟩,?_⟩;rintro ρ h' ⟨i,v,G,hi,hvs,O,fG,w⟩;simp only[iG,jB,kZ,and_true] at hvs;obtain⟨x0,x1,x2,x3,x10,x11,x12⟩:=hvs;unfold aEi;rw[x0,x1,x2,x3,x10,x11,x12];have hpm:dL size s.length≤5000:=by
   unfold dL;split
   ·have:(s.length+(size-25)-1)/(size-25)≤s.length+(size-25)-1:=Nat.div_le_self _ _;omega
   ·omega
  by_cases hlt:i<dL size s.length
  ·have g:((i:Int)<(dL size s.length:Int))=True:=eq_true (by omega);have him:i*(size-25)≤5000*512:=Nat.mul_le_mul (by omega) (by omega);have him1:(i+1)*(size-25)≤5001*512:=Nat.mul_le_mul (by omega) (by omega);have hsm:(i+1)*(size-25)=i*(size-25)+(size-25):=Nat.succ_mul _ _;have w1:IntKind.i64.wrap ((size:Int)-25)=((size-25:Nat):Int):=by rw[eB (by omega) (by omega)];omega
   have w2:IntKind.i64.wrap ((i:Int)*((size-25:Nat):Int))=((i*(size-25):Nat):Int):=by rw[←Int.natCast_mul,eB (by omega) (by omega)]
   have w3:=nR (i:=i) (by omega);have w4:IntKind.i64.wrap (((i+1:Nat):Int)*((size-25:Nat):Int))=(((i+1)*(size-25):Nat):Int):=by rw[←Int.natCast_mul,eB (by omega) (by omega)]
   have hfront:i*(size-25)≤s.length:=by
    by_cases c:i=0
    ·subst c;omega
    ·have:=aDQ (k:=i-1) ok hs (by omega);rw[Nat.sub_add_cancel (by omega)] at this;omega
   have hfr:(fR size gen ser s)[i]? =some (nC size gen ser i (dL size s.length) (jJ (size-25) s i)):=by
    unfold fR;rw[wG,List.getElem?_range hlt];rfl
   have hpl:=(aGg ok hs hlt).1;have tail:∀m:Nat,i*(size-25)≤m->m≤s.length->(s.take m).drop (i*(size-25))=jJ (size-25) s i->vA k (λvs h'=>(∃(i:Nat) (v:Value) (G:List Nat),i≤dL size s.length∧vs=[.int .i64 (size:Int),.int .u64 (gen:Int),.int .u64 (ser:Int),.string (tx s),.int .i64 (dL size s.length:Int),v,.int .i64 (i:Int)]∧eH h' aT 1 v (((fR size gen ser s).take i).map jI) G∧eD h G∧dA h h')∧fT (dL size s.length) 6 vs h'<fT (dL size s.length) 6 ([0,1,2,3,10,11,12].map ρ) h') (.int .i64 (size:Int)) (.int .u64 (gen:Int)) (.int .u64 (ser:Int)) (.string (tx s)) (.int .i64 (dL size s.length:Int)) v (.int .i64 (i:Int)) (.int .i64 ((i*(size-25):Nat):Int)) (.int .i64 (m:Int)) h':=by
    intro m hm1 hm2 hm3;unfold vA;have c1:cB PG (Instr.sliceAt aT (.string (tx s)) (some (.int .i64 ((i*(size-25):Nat):Int))) (some (.int .i64 (m:Int))) none)=some (.string (tx (jJ (size-25) s i))):=by
     have:=kD (P:=PG) (t:=aT) (l:=s) (i:=i*(size-25)) (j:=m) (lo:=some (.int .i64 ((i*(size-25):Nat):Int))) (hi:=some (.int .i64 (m:Int))) aT.und (.inr ⟨_,rfl⟩) (.inr ⟨_,rfl⟩) hm1 hm2;rw[this,hm3]
    simp only[c1,cC,reduceIte,cI,Nat.reduceAdd];refine aMn size gen ser i (dL size s.length) _ ok g1 g2 (by omega) (by omega) hpl λh2 u2=>?_;simp only[aGX,cC,reduceIte,cI,Nat.reduceAdd];intro r20 hr20;refine iB ?_
    try rw[cR]
    have O3:=aGb (h:=h2) (r:=r20) (nC size gen ser i (dL size s.length) (jJ (size-25) s i));have u3:dA h2 (h2.set r20 (.cells #[.string (tx (nC size gen ser i (dL size s.length) (jJ (size-25) s i)))] aT)):=cX.new hr20;generalize h2.set r20 (.cells #[.string (tx (nC size gen ser i (dL size s.length) (jJ (size-25) s i)))] aT)=h3 at *;have fl:=iN size gen ser s;refine lV dD.und dD.und aT.info aT.size aT.bytes aT.zero rfl (by decide) ((O.ext u2).ext u3) O3.slR (by simp[jI,fL]) (by rw[iL,lU];simp only[iU,kV,iL];omega) ?_;intro v4 h4 G4 O4 u4 g4 _;simp only[w3,cC,reduceIte,cI,Nat.reduceAdd];have e3:=(w.trans u2).trans u3;refine⟨⟨i+1,v4,G4,by omega,rfl,?_,λb hb=>?_,e3.fresh u4 fG⟩,by simp[fT,x12];omega⟩
    ·rw[zLR,hfr,xJ];exact O4
    ·rcases g4 b hb with e|e
     ·exact fG b e
     ·exact e3.none e
   by_cases cc:s.length<(i+1)*(size-25)
   ·have g2:((s.length:Int)<(((i+1)*(size-25):Nat):Int))=True:=eq_true (by omega);simp only[g,w1,nU,w2,w3,w4,iV,g2,cC,reduceIte,cI,Nat.reduceAdd];refine tail s.length hfront (lM _) ?_;unfold jJ;rw[zLJ,sK (by rw[jC];omega)]
   ·have g2:((s.length:Int)<(((i+1)*(size-25):Nat):Int))=False:=eq_false (by omega);simp only[g,w1,nU,w2,w3,w4,iV,g2,cC,reduceIte,cI,Nat.reduceAdd];refine tail _ (by omega) (by omega) ?_;unfold jJ;rw[zLy,hsm,aCb]
  ·have g:((i:Int)<(dL size s.length:Int))=False:=eq_false (by omega);have et:(fR size gen ser s).take i=fR size gen ser s:=sK (by rw[iN];omega);rw[et] at O;simp only[g,cC,reduceIte,cI,Nat.reduceAdd];exact hk h' v G O fG w
def aDS:cB PG (build cH #[])=some kK.zero.v:=by kernel_rfl
def aXs(a b c d:Int):cB PG (build cH #[(0,.int .u64 a),(1,.int .u64 b),(2,.int .i64 c),(3,.int .i64 d)])=some (.agg #[.int .u64 a,.int .u64 b,.int .i64 c,.int .i64 d,.string (tx [])]):=by kernel_rfl
def aNe{h:PH}{r:Nat}{x:kK}(B:Bx h r x.cells):cD PG h (loadAt cH (pT r 0))=some x.v:=cH.agg B (by show 0+5≤5;decide)
def aJt{s:Tx}{n:Nat}{b:UInt8}(h:s[n]? =some b):lG ((s.drop n).take 1)=b.toNat:=by
 have:(s.drop n).take 1=[b]:=by
  obtain⟨hl,e⟩:=zLA.1 h;rw[aAs hl,e];rfl
 rw[this];simp[lG]
def aT5{s:Tx}{n:Nat}{a b:UInt8}(h:s[n]? =some a)(h2:s[n+1]? =some b):lG ((s.drop n).take 2)=a.toNat*256+b.toNat:=by
 have:(s.drop n).take 2=[a,b]:=by
  obtain⟨hl,e⟩:=zLA.1 h;obtain⟨hl2,e2⟩:=zLA.1 h2;rw[aAs hl,e,aAs hl2,e2];rfl
 rw[this];simp[lG]
def aHJ(b:UInt8):cB PG (convert dM aR (.int .u8 (b.toNat:Int)))=some (.int .i64 (b.toNat:Int)):=by
 rw[show cB PG (convert dM aR (.int .u8 (b.toNat:Int)))=some (.int .i64 (IntKind.i64.wrap (b.toNat:Int))) from by kernel_rfl];have:=b.toNat_lt;rw[eB (by omega) (by omega)]
def kK.noB(f:kK):kK:=⟨f.gen,f.ser,f.part,f.parts,[]⟩
def aRH(s:Tx)(i:Nat):lG ((s.drop i).take 8)<18446744073709551616:=by
 have:=aJY ((s.drop i).take 8);have h2:((s.drop i).take 8).length≤8:=by rw[lU];omega
 have h3:256^((s.drop i).take 8).length≤256^8:=aNb (by decide) h2;omega
def aOd{h0 h:PH}{r1 r34:Nat}{size least:Nat}{s:Tx}(ok:gB size)(hl:s.length=size)(hs:oE s=true)(h1:¬(size-25<kG s∨iA s≤jL s))(h2:¬aGI size (pZ s))(hle:least=aFY size (pZ s))(Z1:Bx h r1 kK.zero.cells)(B:Bx h r34 (pZ s).cells)(hp:iA s<256)(htl:(mK s).length=kG s)(w:dA h0 h)(f1:h0 r1=none){k:cE}
  (hk:∀h',dA h0 h'->k (.tuple #[(vV size s).1.v,.int .i64 (vV size s).2]) h'):oI k (.int .i64 (size:Int)) (.string (tx s)) (pT r1 0) (pT r34 0) (.int .i64 (least:Int)) h:=by
 unfold oI;have h512:=ok.2;have er:vV size s=if 4096<aFY size (pZ s)∨nC size (yU s) (aBS s) (jL s) (iA s) (mK s)≠s then(kK.zero,5) else(pZ s,0):=by
  unfold vV;rw[if_neg (by simpa using ok),if_neg (by simpa using hl),if_neg (by rw[hs];decide),if_neg h1,if_neg h2]
 rw[er,←hle] at hk;have fin:∀{h':PH} (f:kK) (e:Int),(∀h',dA h0 h'->k (.tuple #[f.v,.int .i64 e]) h')->Bx h' r1 kK.zero.cells->dA h0 h'->cN PG (cP cH (pT r1 0) f.v) h' λ_ h8=>bY (cD PG h8 (loadAt cH (pT r1 0))) λv9=>k (.tuple #[v9,.int .i64 e]) h8:=by
  intro h' f e hk B w;refine cH.put B (vs:=f.cells) (o:=0) rfl (by show 0+5≤5;decide) f.isC λh2 B2 u2=>?_;have B2:Bx h2 r1 f.cells:=B2;simp only[aNe B2,iO,zPP];exact hk h2 (w.fresh u2 (eD.one f1))
 by_cases c1:4096<least
 ·have g1:((4096:Int)<(least:Int))=True:=eq_true (by omega);rw[if_pos (.inl c1)] at hk;simp only[g1,aDS,cC,reduceIte,cI,Nat.reduceAdd];exact fin kK.zero 5 hk Z1 w
 ·have g1:((4096:Int)<(least:Int))=False:=eq_false (by omega);have b0:cV h ⟨r34,0,none⟩=some (.int .u64 (yU s:Int)):=B.cell 0;have b1:cV h ⟨r34,0+1,none⟩=some (.int .u64 (aBS s:Int)):=B.cell 1;have b2:cV h ⟨r34,0+2,none⟩=some (.int .i64 (jL s:Int)):=B.cell 2;have b3:cV h ⟨r34,0+3,none⟩=some (.int .i64 (iA s:Int)):=B.cell 3;have b4:cV h ⟨r34,0+4,none⟩=some (.string (tx (mK s))):=B.cell 4;simp only[g1,cH.f0,cH.f1,cH.f2,cH.f3,cH.f4,cJ.load,aR.load,aT.load,b0,b1,b2,b3,b4,cC,reduceIte,cI,Nat.reduceAdd];have h64:=ok.1;refine aMn size (yU s) (aBS s) (jL s) (iA s) (mK s) ok (aRH s 1) (aRH s 9) (by omega) (by omega) (by omega) λh2 u2=>?_;by_cases c2:nC size (yU s) (aBS s) (jL s) (iA s) (mK s)=s
  ·have q:decide (nC size (yU s) (aBS s) (jL s) (iA s) (mK s)=s)=true:=decide_eq_true c2;rw[if_neg (by rintro(a|a);exact c1 a;exact a c2)] at hk;simp only[aLd,q,aNe (B.ext u2),cC,reduceIte,cI,Nat.reduceAdd];exact fin (pZ s) 0 hk (Z1.ext u2) (w.trans u2)
  ·have q:decide (nC size (yU s) (aBS s) (jL s) (iA s) (mK s)=s)=false:=decide_eq_false c2;rw[if_pos (.inr c2)] at hk;simp only[aLd,q,aDS,cC,reduceIte,cI,Nat.reduceAdd];exact fin kK.zero 5 hk (Z1.ext u2) (w.trans u2)
def aT9{h:PH}(size:Nat)(s:Tx)(hs:s.length≤1000000){k:cE}(hk:∀h',dA h h'->k (.tuple #[(vV size s).1.v,.int .i64 (vV size s).2]) h'):bT PG aBo #[.int .i64 (size:Int),.string (tx s)] h k:=by
 apply tE.call;unfold tE;intro r1 hr1
 try rw[cR]
 have Z1:Bx (h.set r1 (.cells (dJ PG cH) cH)) r1 kK.zero.cells:=cH.zbox;have u1:dA h (h.set r1 (.cells (dJ PG cH) cH)):=cX.new hr1;generalize h.set r1 (.cells (dJ PG cH) cH)=h1 at *;have fin:∀{h':PH} (e:Int),vV size s=(kK.zero,e)->Bx h' r1 kK.zero.cells->dA h h'->cN PG (cP cH (pT r1 0) kK.zero.v) h' λ_ h8=>bY (cD PG h8 (loadAt cH (pT r1 0))) λv9=>k (.tuple #[v9,.int .i64 e]) h8:=by
  intro h' e he B w;refine cH.put B (vs:=kK.zero.cells) (o:=0) rfl (by show 0+5≤5;decide) kK.zero.isC λh2 B2 u2=>?_;have B2:Bx h2 r1 kK.zero.cells:=B2;simp only[aNe B2,iO,zPP];have:=hk h2 (w.fresh u2 (eD.one hr1));rw[he] at this;exact this
 refine aDt size ?_;by_cases ok:gB size
 ·have h64:=ok.1;have h512:=ok.2;by_cases hl:s.length=size
  ·have q:((s.length:Int) !=(size:Int))=false:=by simp[hl]
   simp only[ok,decide_true,iV,eI,q,cC,reduceIte,cI,Nat.reduceAdd];refine aOz s hs λh4 u4=>?_;have e4:=u1.trans u4;cases hsl:oE s with
   | false=>
    have er:vV size s=(kK.zero,8):=by unfold vV;rw[if_neg (by simpa using ok),if_neg (by simpa using hl),if_pos hsl]
    simp only[aDS,cC,reduceIte,cI,Nat.reduceAdd];exact fin 8 er (Z1.ext u4) e4
   | true=>
    have c1:cB PG (Instr.sliceAt aT (.string (tx s)) (some (.int .i64 1)) (some (.int .i64 9)) none)=some (.string (tx ((s.drop 1).take 8))):=by
     have:=kD (P:=PG) (t:=aT) (l:=s) (i:=1) (j:=9) (lo:=some (.int .i64 1)) (hi:=some (.int .i64 9)) aT.und (.inr ⟨_,rfl⟩) (.inr ⟨_,rfl⟩) (by omega) (by omega);rw[this,zLy]
    have c2:cB PG (Instr.sliceAt aT (.string (tx s)) (some (.int .i64 9)) (some (.int .i64 17)) none)=some (.string (tx ((s.drop 9).take 8))):=by
     have:=kD (P:=PG) (t:=aT) (l:=s) (i:=9) (j:=17) (lo:=some (.int .i64 9)) (hi:=some (.int .i64 17)) aT.und (.inr ⟨_,rfl⟩) (.inr ⟨_,rfl⟩) (by omega) (by omega);rw[this,zLy]
    obtain⟨b17,hb17⟩:∃b,s[17]? =some b:=⟨_,kF (by omega)⟩;obtain⟨b18,hb18⟩:∃b,s[18]? =some b:=⟨_,kF (by omega)⟩;obtain⟨b19,hb19⟩:∃b,s[19]? =some b:=⟨_,kF (by omega)⟩;obtain⟨b20,hb20⟩:∃b,s[20]? =some b:=⟨_,kF (by omega)⟩;have i17:cB PG (Instr.index aT (.string (tx s)) (.int .i64 17))=some (.int .u8 b17.toNat):=oB (j:=17) aT.und hb17;have i18:cB PG (Instr.index aT (.string (tx s)) (.int .i64 18))=some (.int .u8 b18.toNat):=oB (j:=18) aT.und hb18;have i19:cB PG (Instr.index aT (.string (tx s)) (.int .i64 19))=some (.int .u8 b19.toNat):=oB (j:=19) aT.und hb19;have i20:cB PG (Instr.index aT (.string (tx s)) (.int .i64 20))=some (.int .u8 b20.toNat):=oB (j:=20) aT.und hb20;have d17:jL s=b17.toNat:=aJt hb17;have d18:iA s=b18.toNat:=aJt hb18;have d19:kG s=b19.toNat*256+b20.toNat:=aT5 hb19 hb20;have l17:=b17.toNat_lt;have l18:=b18.toNat_lt;have l19:=b19.toNat_lt;have l20:=b20.toNat_lt;have w1:IntKind.i64.wrap ((b19.toNat:Int)*256)=((b19.toNat*256:Nat):Int):=by rw[eB (by omega) (by omega)];omega
    have w2:IntKind.i64.wrap (((b19.toNat*256:Nat):Int)+(b20.toNat:Int))=(kG s:Int):=by rw[eB (by omega) (by omega)];omega
    have w3:IntKind.i64.wrap ((size:Int)-25)=((size-25:Nat):Int):=by rw[eB (by omega) (by omega)];omega
    simp only[c1,c2,i17,i18,aHJ,cC,reduceIte,cI,Nat.reduceAdd];refine aCF (by rw[lU];omega) ?_;refine aCF (by rw[lU];omega) ?_;rw[←d17,←d18];show bY (cB PG (build cH #[(0,.int .u64 (yU s:Int)),(1,.int .u64 (aBS s:Int)),(2,.int .i64 (jL s:Int)),(3,.int .i64 (iA s:Int))])) _;simp only[aXs,iO,zPP];intro r34 hr34
    try rw[cR]
    refine cH.fill (vs:=(pZ s).noB.cells) hr34 rfl (pZ s).noB.isC λh5 B5 u5=>?_;have e5:=e4.trans u5;have Z5:=(Z1.ext u4).ext u5;have n1:r34≠r1:=λe=>(Z1.ext u4).known (e▸hr34);have b2:cV h5 ⟨r34,0+2,none⟩=some (.int .i64 (jL s:Int)):=B5.cell 2;have b3:cV h5 ⟨r34,0+3,none⟩=some (.int .i64 (iA s:Int)):=B5.cell 3;have er1:vV size s=if size-25<kG s∨iA s≤jL s then(kK.zero,5)
      else if aGI size (pZ s) then(kK.zero,5)
      else if 4096<aFY size (pZ s)∨nC size (yU s) (aBS s) (jL s) (iA s) (mK s)≠s then(kK.zero,5)
      else(pZ s,0):=by
     unfold vV;rw[if_neg (by simpa using ok),if_neg (by simpa using hl),if_neg (by rw[hsl];decide)]
    by_cases k1:size-25<kG s
    ·have g1:(((size-25:Nat):Int)<(kG s:Int))=True:=eq_true (by omega);rw[if_pos (.inl k1)] at er1;simp only[i19,i20,aHJ,nU,w1,w2,w3,g1,aDS,cC,reduceIte,cI,Nat.reduceAdd];exact fin 5 er1 Z5 e5
    ·have g1:(((size-25:Nat):Int)<(kG s:Int))=False:=eq_false (by omega);by_cases k2:iA s≤jL s
     ·have g2:((iA s:Int)≤(jL s:Int))=True:=eq_true (by omega);rw[if_pos (.inr k2)] at er1;simp only[i19,i20,aHJ,nU,w1,w2,w3,g1,cH.f2,cH.f3,aR.load,b2,b3,g2,aDS,cC,reduceIte,cI,Nat.reduceAdd];exact fin 5 er1 Z5 e5
     ·have g2:((iA s:Int)≤(jL s:Int))=False:=eq_false (by omega);rw[if_neg (by omega)] at er1;have w4:IntKind.i64.wrap ((21:Int)+(kG s:Int))=((21+kG s:Nat):Int):=by rw[eB (by omega) (by omega)];omega
      have c3:cB PG (Instr.sliceAt aT (.string (tx s)) (some (.int .i64 21)) (some (.int .i64 ((21+kG s:Nat):Int))) none)=some (.string (tx (mK s))):=by
       have:=kD (P:=PG) (t:=aT) (l:=s) (i:=21) (j:=21+kG s) (lo:=some (.int .i64 21)) (hi:=some (.int .i64 ((21+kG s:Nat):Int))) aT.und (.inr ⟨_,rfl⟩) (.inr ⟨_,rfl⟩) (by omega) (by omega);rw[this,zLy,aCb];rfl
      have htl:(mK s).length=kG s:=by unfold mK;rw[lU,jC];omega
      simp only[i19,i20,aHJ,nU,w1,w2,w3,g1,cH.f2,cH.f3,cH.f4,aR.load,b2,b3,g2,w4,c3,cC,reduceIte,cI,Nat.reduceAdd];refine aT.put B5 (o:=4) (by show 4<5;decide) rfl λh6 B6 u6=>?_;have B6:Bx h6 r34 (pZ s).cells:=B6;have Z6:=Z5.upd u6 (by simpa using λe=>n1 e.symm);have e6:dA h h6:=e5.fresh u6 (eD.one (e4.none hr34));have c2':cV h6 ⟨r34,0+2,none⟩=some (.int .i64 (jL s:Int)):=B6.cell 2;have c3':cV h6 ⟨r34,0+3,none⟩=some (.int .i64 (iA s:Int)):=B6.cell 3;have w5:IntKind.i64.wrap ((iA s:Int)-1)=((iA s-1:Nat):Int):=by rw[eB (by omega) (by omega)];omega
      have wm:∀z:Nat,z≤1000->IntKind.i64.wrap (((iA s-1:Nat):Int)*((size-25:Nat):Int))=(((iA s-1)*(size-25):Nat):Int)∧IntKind.i64.wrap ((((iA s-1)*(size-25):Nat):Int)+(z:Int))=(((iA s-1)*(size-25)+z:Nat):Int):=λz hz=>by
       have:(iA s-1)*(size-25)≤256*512:=Nat.mul_le_mul (by omega) (by omega);refine⟨by rw[←Int.natCast_mul,eB (by omega) (by omega)],by rw[eB (by omega) (by omega)];omega⟩
      -- the bad lengths
      have nb:¬(size-25<kG s∨iA s≤jL s):=by omega
      have last:¬aGI size (pZ s)->(bY (cD PG h6 (fV BinOp.eql aR (.tmp 90) (.tmp 93) (.int .i64 (jL s:Int)) (.int .i64 ((iA s-1:Nat):Int)))) λv139=>cQ v139 (oI k (.int .i64 (size:Int)) (.string (tx s)) (pT r1 0) (pT r34 0) (.int .i64 (((iA s-1)*(size-25)+kG s:Nat):Int)) h6) (oI k (.int .i64 (size:Int)) (.string (tx s)) (pT r1 0) (pT r34 0) (.int .i64 (((iA s-1)*(size-25)+1:Nat):Int)) h6)):=by
       intro hbad;by_cases cl:jL s+1=iA s
       ·have ql:((jL s:Int)==((iA s-1:Nat):Int))=true:=by rw[beq_iff_eq];omega
        simp only[gA,ql,cC,reduceIte,cI,Nat.reduceAdd];refine aOd ok hl hsl nb hbad ?_ Z6 B6 (by omega) htl e6 hr1 hk;unfold aFY;rw[if_pos (show(pZ s).part+1=(pZ s).parts from cl)];show _=(iA s-1)*(size-25)+(mK s).length;rw[htl]
       ·have ql:((jL s:Int)==((iA s-1:Nat):Int))=false:=by rw[beq_eq_false_iff_ne];omega
        simp only[gA,ql,cC,reduceIte,cI,Nat.reduceAdd];refine aOd ok hl hsl nb hbad ?_ Z6 B6 (by omega) htl e6 hr1 hk;unfold aFY;rw[if_neg (show ¬(pZ s).part+1=(pZ s).parts from cl)];rfl
      have dB:aGI size (pZ s)↔(jL s+1<iA s∧kG s≠size-25)∨(0<jL s∧kG s=0):=by
       rw[←htl];exact Iff.rfl
      have er2:aGI size (pZ s)->vV size s=(kK.zero,5):=λhb=>by rw[er1,if_pos hb]
      have wz:=wm (kG s) (by omega);have wo:=wm 1 (by omega);have wo2:IntKind.i64.wrap ((((iA s-1)*(size-25):Nat):Int)+1)=(((iA s-1)*(size-25)+1:Nat):Int):=wo.2;by_cases k3:jL s<iA s-1
      ·have g3:((jL s:Int)<((iA s-1:Nat):Int))=True:=eq_true (by omega);by_cases k4:kG s=size-25
       ·have q4:((kG s:Int) !=((size-25:Nat):Int))=false:=by simp[k4]
        by_cases k5:0<jL s
        ·have g5:((0:Int)<(jL s:Int))=True:=eq_true (by omega);have q6:((kG s:Int)==0)=false:=by rw[beq_eq_false_iff_ne];omega
         simp only[cH.f2,cH.f3,aR.load,c2',c3',w5,g3,w3,eI,q4,g5,gA,q6,nU,wz.1,wo2,wz.2,cC,reduceIte,cI,Nat.reduceAdd];have:=last (by rw[dB];omega);simp only[gA,cC,reduceIte,cI,Nat.reduceAdd] at this;exact this
        ·have g5:((0:Int)<(jL s:Int))=False:=eq_false (by omega);simp only[cH.f2,cH.f3,aR.load,c2',c3',w5,g3,w3,eI,q4,g5,gA,nU,wz.1,wo2,wz.2,cC,reduceIte,cI,Nat.reduceAdd];have:=last (by rw[dB];omega);simp only[gA,cC,reduceIte,cI,Nat.reduceAdd] at this;exact this
       ·have q4:((kG s:Int) !=((size-25:Nat):Int))=true:=by rw[bne_iff_ne];omega
        simp only[cH.f2,cH.f3,aR.load,c2',c3',w5,g3,w3,eI,q4,aDS,cC,reduceIte,cI,Nat.reduceAdd];exact fin 5 (er2 (by rw[dB];omega)) Z6 e6
      ·have g3:((jL s:Int)<((iA s-1:Nat):Int))=False:=eq_false (by omega);by_cases k5:0<jL s
       ·have g5:((0:Int)<(jL s:Int))=True:=eq_true (by omega);by_cases k6:kG s=0
        ·have q6:((kG s:Int)==0)=true:=by simp[k6]
         simp only[cH.f2,cH.f3,aR.load,c2',c3',w5,g3,g5,gA,q6,aDS,cC,reduceIte,cI,Nat.reduceAdd];exact fin 5 (er2 (by rw[dB];omega)) Z6 e6
        ·have q6:((kG s:Int)==0)=false:=by rw[beq_eq_false_iff_ne];omega
         simp only[cH.f2,cH.f3,aR.load,c2',c3',w5,w3,g3,g5,gA,q6,nU,wz.1,wo2,wz.2,cC,reduceIte,cI,Nat.reduceAdd];have:=last (by rw[dB];omega);simp only[gA,cC,reduceIte,cI,Nat.reduceAdd] at this;exact this
       ·have g5:((0:Int)<(jL s:Int))=False:=eq_false (by omega);simp only[cH.f2,cH.f3,aR.load,c2',c3',w5,w3,g3,g5,gA,nU,wz.1,wo2,wz.2,cC,reduceIte,cI,Nat.reduceAdd];have:=last (by rw[dB];omega);simp only[gA,cC,reduceIte,cI,Nat.reduceAdd] at this;exact this
  ·have q:((s.length:Int) !=(size:Int))=true:=by rw[bne_iff_ne];omega
   have er:vV size s=(kK.zero,6):=by unfold vV;rw[if_neg (by simpa using ok),if_pos hl]
   simp only[ok,decide_true,iV,eI,q,aDS,cC,reduceIte,cI,Nat.reduceAdd];exact fin 6 er Z1 u1
 ·have er:vV size s=(kK.zero,1):=by unfold vV;rw[if_pos ok]
  simp only[ok,decide_false,aDS,cC,reduceIte,cI,Nat.reduceAdd];exact fin 1 er Z1 u1
def aWq{size:Nat}{x:Tx}(h:(fW size x).2=0):(fW size x).1.part<(fW size x).1.parts:=by
 unfold fW at h ⊢;split at h
 ·cases h
 ·rename_i a;split at h
  ·cases h
  ·rename_i b;split at h
   ·cases h
   ·rename_i c;split at h
    ·rename_i d;rw[if_neg a,if_neg b,if_neg c,if_pos d];exact d.1.2.2.2
    ·cases h
def aTe(size gen ser:Nat)(xs:List Tx)(p q:Nat)(t:Tx):iY size gen ser xs 0 p t=iY size gen ser xs 0 q t:=by
 cases xs with
 | nil=>rfl
 | cons x xs=>
  rw[aFc,aFc];simp only[if_true]
def aSm{h:PH}{size gen ser:Nat}{xs:List Tx}(hsz:size≤1000)(h1:1≤size)(hx:∀s∈xs,s.length=size)(hl:xs.length≤5000){k:cE}
  (hk:∀h',dA h h'->k (.tuple #[.string (tx (iY size gen ser xs 0 0 []).1),.int .i64 ((iY size gen ser xs 0 0 []).2:Int)]) h'):bT PG aAo #[.int .i64 (size:Int),.int .u64 (gen:Int),.int .u64 (ser:Int),.string (tx xs.flatten)] h k:=by
 apply zP.call;unfold zP;obtain⟨T,hT⟩:∃T,iY size gen ser xs 0 0 []=T:=⟨_,rfl⟩;rw[hT] at hk;have fl:=aBx hx;have flb:xs.length*size≤5000*1000:=Nat.mul_le_mul hl hsz;refine⟨λvs h'=>∃(n parts:Nat) (t:Tx),n≤xs.length∧vs=[.int .i64 (size:Int),.int .u64 (gen:Int),.int .u64 (ser:Int),.string (tx xs.flatten),.string (tx t),.int .i64 (parts:Int),.int .i64 (n:Int)]∧dA h h'∧t.length≤n*1000∧parts<256∧n≤parts∧(if n=parts then T=(t,parts) else T=iY size gen ser (xs.drop n) n parts t),fT xs.length 6,⟨0,1,[],by omega,rfl,cX.refl,by simp,by omega,by omega,by rw[if_neg (by decide),zLb,aTe size gen ser xs 1 0];exact hT.symm⟩,?_⟩;rintro ρ h' ⟨n,parts,t,hn,hvs,w,ht,hp,hnp,hr⟩;simp only[iG,jB,kZ,and_true] at hvs;obtain⟨x0,x1,x2,x3,x10,x11,x12⟩:=hvs;unfold aDw;rw[x0,x1,x2,x3,x10,x11,x12];by_cases he:n=parts
 ·have g0:((n:Int)<(parts:Int))=False:=eq_false (by omega);rw[if_pos he] at hr;simp only[g0,cC,reduceIte,cI,Nat.reduceAdd];have:=hk h' w;rw[hr] at this;exact this
 ·have g0:((n:Int)<(parts:Int))=True:=eq_true (by omega);rw[if_neg he] at hr;have g1:=nR (i:=n) (by omega);have hm1:(n+1)*size≤5001*1000:=Nat.mul_le_mul (by omega) hsz;have hm0:n*size≤5001*1000:=Nat.mul_le_mul (by omega) hsz;have g2:IntKind.i64.wrap (((n+1:Nat):Int)*(size:Int))=(((n+1)*size:Nat):Int):=by rw[←Int.natCast_mul,eB (by omega) (by omega)]
  have g3:IntKind.i64.wrap ((n:Int)*(size:Int))=((n*size:Nat):Int):=by rw[←Int.natCast_mul,eB (by omega) (by omega)]
  by_cases hlt:n<xs.length
  ·have hle:(n+1)*size≤xs.length*size:=zLO _ hlt;have gl:((xs.flatten.length:Int)<(((n+1)*size:Nat):Int))=False:=eq_false (by omega);obtain⟨x,hxx⟩:∃x,xs[n]? =some x:=⟨_,kF hlt⟩;have hxl:=hx x (zX hxx);have hms:n*size≤(n+1)*size:=zLO _ (aES _);have c:cB PG (Instr.sliceAt aT (.string (tx xs.flatten)) (some (.int .i64 ((n*size:Nat):Int))) (some (.int .i64 (((n+1)*size:Nat):Int))) none)=some (.string (tx x)):=by
    have:=kD (P:=PG) (t:=aT) (l:=xs.flatten) (i:=n*size) (j:=(n+1)*size) (lo:=some (.int .i64 ((n*size:Nat):Int))) (hi:=some (.int .i64 (((n+1)*size:Nat):Int))) aT.und (.inr ⟨_,rfl⟩) (.inr ⟨_,rfl⟩) hms (by omega);rw[this,aPn hx hxx]
   have ed:xs.drop n=x::xs.drop (n+1):=by
    rw[aAs hlt];have:xs[n]=x:=by rw[kF hlt] at hxx;simpa using hxx
    rw[this]
   rw[ed,aFc] at hr;obtain⟨rf1,rf2⟩:=aMU size x;simp only[g0,g1,nU,g2,iV,gl,g3,c,cC,reduceIte,cI,Nat.reduceAdd];refine aT9 size x (by omega) λh2 u2=>?_;rw[aMc];simp only[cC,reduceIte,cI,Nat.reduceAdd];intro r16 hr16
   try rw[cR]
   refine cH.fill (vs:=(fW size x).1.cells) hr16 rfl (fW size x).1.isC λh3 B3 u3=>?_;have e3:=(w.trans u2).trans u3;have b0:cV h3 ⟨r16,0,none⟩=some (.int .u64 ((fW size x).1.gen:Int)):=B3.cell 0;have b1:cV h3 ⟨r16,0+1,none⟩=some (.int .u64 ((fW size x).1.ser:Int)):=B3.cell 1;have b2:cV h3 ⟨r16,0+2,none⟩=some (.int .i64 ((fW size x).1.part:Int)):=B3.cell 2;have b3:cV h3 ⟨r16,0+3,none⟩=some (.int .i64 ((fW size x).1.parts:Int)):=B3.cell 3;have b4:cV h3 ⟨r16,0+4,none⟩=some (.string (tx (fW size x).1.b)):=B3.cell 4;have nq:∀{a b:Nat},a=b->((a:Int) !=(b:Int))=false:=λe=>by simp[e]
   have nn:∀{a b:Nat},a≠b->((a:Int) !=(b:Int))=true:=λe=>by rw[bne_iff_ne];omega
   have fail:aGd gen ser n (if n=0 then(fW size x).1.parts else parts) (fW size x)->k (.tuple #[.string {data:=#[]},.int .i64 0]) h3:=λhb=>by
    rw[if_pos hb] at hr;have:=hk h3 e3;rw[hr] at this;exact this
   by_cases c1:(fW size x).2=0
   ·have q1:((fW size x).2 !=0)=false:=by rw[c1];rfl
    have hlt2:=aWq c1;by_cases c2:(fW size x).1.gen=gen
    ·by_cases c3:(fW size x).1.ser=ser
     ·by_cases c4:(fW size x).1.part=n
      ·have ea:cB PG (binOp .add aT (.string (tx t)) (.string (tx (fW size x).1.b)))=some (.string (tx (t++(fW size x).1.b))):=jW (by omega);have goal:¬aGd gen ser n (if n=0 then(fW size x).1.parts else parts) (fW size x)->(∃(n' parts':Nat) (t':Tx),n'≤xs.length∧[.int .i64 (size:Int),.int .u64 (gen:Int),.int .u64 (ser:Int),.string (tx xs.flatten),.string (tx (t++(fW size x).1.b)),.int .i64 ((fW size x).1.parts:Int),.int .i64 ((n+1:Nat):Int)]=[Value.int .i64 (size:Int),.int .u64 (gen:Int),.int .u64 (ser:Int),.string (tx xs.flatten),.string (tx t'),.int .i64 (parts':Int),.int .i64 (n':Int)]∧dA h h3∧t'.length≤n'*1000∧parts'<256∧n'≤parts'∧(if n'=parts' then T=(t',parts') else T=iY size gen ser (xs.drop n') n' parts' t')):=by
        intro hb;rw[if_neg hb] at hr;refine⟨n+1,(fW size x).1.parts,_,by omega,rfl,e3,by rw[jM];omega,rf1,by omega,?_⟩;by_cases c6:n+1=(fW size x).1.parts
        ·rw[if_pos c6] at hr ⊢;exact hr
        ·rw[if_neg c6] at hr ⊢;have:(if n=0 then(fW size x).1.parts else parts)=(fW size x).1.parts:=by
          split
          ·rfl
          ·rename_i h0;have h5:(fW size x).1.parts=parts:=Classical.byContradiction λe=>hb (.inr (.inr (.inr (.inr (by rw[if_neg h0];exact e)))));exact h5.symm
         rw[this] at hr;exact hr
       by_cases hn0:n=0
       ·have gz:((0:Int)<(n:Int))=False:=eq_false (by omega);simp only[eI,q1,cH.f0,cH.f1,cH.f2,cH.f3,cH.f4,cJ.load,aR.load,aT.load,b0,b1,b2,b3,b4,nq c2,nq c3,nq c4,gz,ea,g1,cC,reduceIte,cI,Nat.reduceAdd];exact⟨goal (by
         rintro(a|a|a|a|a)
         ·exact a c1
         ·exact a c2
         ·exact a c3
         ·exact a c4
         ·rw[if_pos hn0] at a;exact a rfl),by simp[fT,x12];omega⟩
       ·have gz:((0:Int)<(n:Int))=True:=eq_true (by omega);by_cases c5:(fW size x).1.parts=parts
        ·simp only[eI,q1,cH.f0,cH.f1,cH.f2,cH.f3,cH.f4,cJ.load,aR.load,aT.load,b0,b1,b2,b3,b4,nq c2,nq c3,nq c4,gz,nq c5,ea,g1,cC,reduceIte,cI,Nat.reduceAdd];exact⟨goal (by
          rintro(a|a|a|a|a)
          ·exact a c1
          ·exact a c2
          ·exact a c3
          ·exact a c4
          ·rw[if_neg hn0] at a;exact a c5),by simp[fT,x12];omega⟩
        ·simp only[eI,q1,cH.f0,cH.f1,cH.f2,cH.f3,cJ.load,aR.load,b0,b1,b2,b3,nq c2,nq c3,nq c4,gz,nn c5,cC,reduceIte,cI,Nat.reduceAdd];exact fail (.inr (.inr (.inr (.inr (by rw[if_neg hn0];exact c5)))))
      ·simp only[eI,q1,cH.f0,cH.f1,cH.f2,cJ.load,aR.load,b0,b1,b2,nq c2,nq c3,nn c4,cC,reduceIte,cI,Nat.reduceAdd];exact fail (.inr (.inr (.inr (.inl c4))))
     ·simp only[eI,q1,cH.f0,cH.f1,cJ.load,aR.load,b0,b1,nq c2,nn c3,cC,reduceIte,cI,Nat.reduceAdd];exact fail (.inr (.inr (.inl c3)))
    ·simp only[eI,q1,cH.f0,cJ.load,aR.load,b0,nn c2,cC,reduceIte,cI,Nat.reduceAdd];exact fail (.inr (.inl c2))
   ·have q1:((fW size x).2 !=0)=true:=bne_iff_ne.2 c1;simp only[eI,q1,cC,reduceIte,cI,Nat.reduceAdd];exact fail (.inl c1)
  ·have gl:((xs.flatten.length:Int)<(((n+1)*size:Nat):Int))=True:=by
    have:n=xs.length:=by omega
    have hms:(n+1)*size=n*size+size:=Nat.succ_mul _ _;rw[this] at hms;exact eq_true (by rw[this];omega)
   rw[yQ (by omega)] at hr;simp only[g0,g1,nU,g2,iV,gl,cC,reduceIte,cI,Nat.reduceAdd];have:=hk h' w;rw[hr] at this;exact this
def aUd{h:PH}{size gen:Nat}{xs:List Tx}(ok:gB size)(hx:∀s∈xs,s.length=size)(hl:xs.length≤5000){k:cE}
  (hk:∀h' v F,eH h' aT 1 v ((jD size gen (xs.length+1) xs 0).1.map jI) F->eD h F->dA h h'->k (.tuple #[v,.int .i64 ((jD size gen (xs.length+1) xs 0).2:Int)]) h'):bT PG aBj #[.int .i64 (size:Int),.int .u64 (gen:Int),.string (tx xs.flatten)] h k:=by
 apply aA5.call;unfold aA5;obtain⟨T,hT⟩:∃T,jD size gen (xs.length+1) xs 0=T:=⟨_,rfl⟩;rw[hT] at hk;have h64:=ok.1;have h512:=ok.2;have fl:=aBx hx;have flb:xs.length*size≤5000*512:=Nat.mul_le_mul hl h512;refine aDt size ?_;simp only[ok,decide_true,cC,reduceIte,cI,Nat.reduceAdd];refine⟨λvs h'=>∃(used ser f:Nat) (v:Value) (out:List Tx) (F:List Nat),used≤xs.length∧ser≤used∧out.length=ser∧xs.length<f+used∧vs=[.int .i64 (size:Int),.int .u64 (gen:Int),.string (tx xs.flatten),v,.int .i64 (used:Int)]∧eH h' aT 1 v (out.map jI) F∧eD h F∧dA h h'∧T=(out++(jD size gen f (xs.drop used) ser).1,used+(jD size gen f (xs.drop used) ser).2),fT xs.length 4,⟨0,0,xs.length+1,.slice none 0 0,[],[],by omega,by omega,rfl,by omega,rfl,eH.nil,(λb hb=>by cases hb),cX.refl,by rw[zLb,hT,zLU,iZ]⟩,?_⟩;rintro ρ h' ⟨used,ser,f,v,out,F,hu,hs,ho,hf,hvs,O,fF,w,hr⟩;simp only[iG,jB,kZ,and_true] at hvs;obtain⟨x0,x1,x2,x8,x9⟩:=hvs;unfold aFO;rw[x0,x1,x2,x8,x9];have hm0:used*size≤xs.length*size:=zLO _ hu;have g3:IntKind.i64.wrap ((used:Int)*(size:Int))=((used*size:Nat):Int):=by rw[←Int.natCast_mul,eB (by omega) (by omega)]
 have c:cB PG (Instr.sliceAt aT (.string (tx xs.flatten)) (some (.int .i64 ((used*size:Nat):Int))) none none)=some (.string (tx (xs.drop used).flatten)):=by
  have:=kD (P:=PG) (t:=aT) (l:=xs.flatten) (i:=used*size) (j:=xs.flatten.length) (lo:=some (.int .i64 ((used*size:Nat):Int))) (hi:=none) aT.und (.inr ⟨_,rfl⟩) (.inl ⟨rfl,rfl⟩) (by omega) (lM _);rw[this,zLJ,aG2 hx]
 obtain⟨f,rfl⟩:∃g,f=g+1:=⟨f-1,by omega⟩;have hle:=aNL (size:=size) (gen:=gen) (ser:=ser) (xs.drop used) 0 0 [];rw[jC] at hle;simp only[aAK O.slR,ho,cvN ser (by omega),nU,g3,c,cC,reduceIte,cI,Nat.reduceAdd];refine aSm (by omega) (by omega) (λs hs=>hx s (List.mem_of_mem_drop hs)) (by rw[jC];omega) λh2 u2=>?_;unfold jD at hr;by_cases c0:(iY size gen ser (xs.drop used) 0 0 []).2=0
 ·rw[if_pos c0,zLQ,zLP] at hr;have q0:(((iY size gen ser (xs.drop used) 0 0 []).2:Int)==0)=true:=by simp[c0]
  simp only[gA,q0,cC,reduceIte,cI,Nat.reduceAdd];have:=hk h2 v F;have hr':T=(out,used):=hr;rw[hr'] at this;exact this (O.ext u2) fF (w.trans u2)
 ·rw[if_neg c0] at hr;have q0:(((iY size gen ser (xs.drop used) 0 0 []).2:Int)==0)=false:=by rw[beq_eq_false_iff_ne];omega
  simp only[gA,q0,aGX,cC,reduceIte,cI,Nat.reduceAdd];intro r13 hr13;refine iB ?_
  try rw[cR]
  have S1:=(aGE (h:=h2) (r:=r13) (iY size gen ser (xs.drop used) 0 0 []).1).slR;have u3:dA h2 (h2.set r13 (.cells #[.string (tx (iY size gen ser (xs.drop used) 0 0 []).1)] aT)):=cX.new hr13;refine lV dD.und dD.und aT.info aT.size aT.bytes aT.zero rfl (by decide) ((O.ext u2).ext u3) S1 (by simp[fL]) (by simp only[iL,iU,kV];omega) ?_;intro v4 h4 F4 O4 u4 g4 _;have O4:eH h4 aT 1 v4 ((out++[(iY size gen ser (xs.drop used) 0 0 []).1]).map jI) F4:=by rw[xJ];exact O4
  have gu:IntKind.i64.wrap ((used:Int)+((iY size gen ser (xs.drop used) 0 0 []).2:Int))=((used+(iY size gen ser (xs.drop used) 0 0 []).2:Nat):Int):=by rw[eB (by omega) (by omega)];omega
  have e3:=(w.trans u2).trans u3;simp only[gu,cC,reduceIte,cI,Nat.reduceAdd];rw[qK] at hr;refine⟨⟨used+(iY size gen ser (xs.drop used) 0 0 []).2,ser+1,f,v4,_,F4,by omega,by omega,by rw[jM,ho];rfl,by omega,rfl,O4,fF.grow e3 g4,e3.fresh u4 fF,?_⟩,by simp[fT,x9];omega⟩;rw[hr,uS,Nat.add_assoc];rfl
def aHv:cB PG (build cA #[])=some Hd.zero.v:=by kernel_rfl
def aPg(a b:Int):cB PG (build cA #[(0,.int .u64 a),(1,.int .i64 b)])=some (.agg #[.int .u64 a,.int .i64 b]):=by kernel_rfl
def aWo(a:Int):cB PG (build cA #[(0,.int .u64 a)])=some (.agg #[.int .u64 a,.int .i64 0]):=by kernel_rfl
def aBT{h:PH}{r:Nat}{x:Hd}(B:Bx h r x.cells):cD PG h (loadAt cA (pT r 0))=some x.v:=cA.agg B (by show 0+2≤2;decide)
def aRK{h:PH}(size:Nat)(x:Hd)(hg:x.gen<18446744073709551616)(hs:x.seg<1000000){k:cE}(hk:∀h',dA h h'->k (.tuple #[.string (tx (fO size x).1),.int .i64 (fO size x).2]) h'):bT PG zK #[.int .i64 (size:Int),x.v] h k:=by
 apply uL.call;unfold uL;intro r1 hr1
 try rw[cR]
 have u1:dA h (h.set r1 (.cells (Value.cells x.v) cA)):=cX.new hr1;have B1:Bx (h.set r1 (.cells (Value.cells x.v) cA)) r1 x.cells:=Bx.new;generalize h.set r1 (.cells (Value.cells x.v) cA)=h1 at *;have bad:(¬gB size∨x.gen=0∨1<x.seg)->k (.tuple #[.string {data:=#[]},.int .i64 1]) h1:=λc=>by
  have e:fO size x=([],1):=by unfold fO;rw[if_pos c]
  have:=hk h1 u1;rw[e] at this;exact this
 refine aDt size ?_;have b0:cV h1 ⟨r1,0,none⟩=some (.int .u64 (x.gen:Int)):=B1.cell 0;have b1:cV h1 ⟨r1,0+1,none⟩=some (.int .i64 (x.seg:Int)):=B1.cell 1;by_cases c1:gB size
 ·have h64:=c1.1;have h512:=c1.2;by_cases c2:x.gen=0
  ·have g2:((x.gen:Int)<1)=True:=eq_true (by omega);simp only[c1,decide_true,cA.f0,cJ.load,b0,g2,cC,reduceIte,cI,Nat.reduceAdd];exact bad (.inr (.inl c2))
  ·have g2:((x.gen:Int)<1)=False:=eq_false (by omega);have go:x.seg≤1->bY (cB PG (convert aR cJ (.int .i64 (x.seg:Int)))) λv55=>
     bT PG gF #[.int .u64 (x.gen:Int),.int .i64 8] h1 λv56 h57=>
     cD PG h57 (loadAt aR (pT r1 (0+1)))=some (.int .i64 (x.seg:Int))∧(bY (cB PG (binOp BinOp.add aT (Value.string {data:=#[72]}) v56)) λv58=>
     bT PG gF #[v55,(Value.int IntKind.i64 1)] h57 λv59 h60=>
     (bY (cB PG (binOp BinOp.add aT v58 v59)) λv61=>
     bY (cB PG (binOp BinOp.sub aR (.int .i64 (size:Int)) (Value.int IntKind.i64 4))) λv62=>
     bY (cB PG (Builtin.len_ #[aT] aR #[v61])) λv63=>
     bY (cB PG (binOp BinOp.sub aR v62 v63)) λv64=>
     bY (kC PG (Instr.makeSlice cY v64 v64)) λx66=>∀r65,h60 r65=none->bY (cB PG (x66.2 r65)) λv67=>dU (PH.set h60 r65 x66.1) λh68=>
     bY (cD PG h68 (convert cY aT v67)) λv69=>
     bY (cB PG (binOp BinOp.add aT v61 v69)) λv70=>
     bT PG pX #[v70] h68 λv71 h72=>
     k (Value.tuple #[v71,(Value.int IntKind.i64 0)]) h72)):=by
    intro c3;have e:fO size x=(mQ (nM size x),0):=by unfold fO;rw[if_neg (by rintro(a|a|a);exact a c1;exact c2 a;omega)]
    rw[e] at hk;have e72:(⟨#[72]⟩:ByteArray)=tx [72]:=rfl;rw[e72];simp only[cvN x.seg (by omega),iO,zPP];refine mJ (n:=x.gen) (c:=8) hg (by decide) λh2 u2=>?_;have a1:cB PG (binOp .add aT (.string (tx [72])) (.string (tx (be x.gen 8))))=some (.string (tx ([72]++be x.gen 8))):=jW (by simp[hY]);have b1':cV h2 ⟨r1,0+1,none⟩=some (.int .i64 (x.seg:Int)):=(B1.ext u2).cell 1;refine⟨by rw[aR.load];exact b1',?_⟩;simp only[a1,iO,zPP];refine mJ (n:=x.seg) (c:=1) (by omega) (by decide) λh3 u3=>?_;have a2:cB PG (binOp .add aT (.string (tx ([72]++be x.gen 8))) (.string (tx (be x.seg 1))))=some (.string (tx ([72]++be x.gen 8++be x.seg 1))):=jW (by simp[hY]);have hl:([72]++be x.gen 8++be x.seg 1).length=10:=by simp[hY]
    have w1:IntKind.i64.wrap ((size:Int)-4)=(size:Int)-4:=eB (by omega) (by omega);have w2:IntKind.i64.wrap ((size:Int)-4-((10:Nat):Int))=((size-14:Nat):Int):=by rw[eB (by omega) (by omega)];omega
    simp only[a2,aKv,w1,iV,hl,w2,iO,zPP];refine aP2 (size-14) (by omega) λh4 u4=>?_;have eb: [72]++be x.gen 8++be x.seg 1++kJ (size-14)=nM size x:=by unfold nM;simp only[uS]
    have a3:cB PG (binOp .add aT (.string (tx ([72]++be x.gen 8++be x.seg 1))) (.string (tx (kJ (size-14)))))=some (.string (tx (nM size x))):=by
     rw[←eb];exact jW (by rw[hl,xD];omega)
    simp only[a3,iO,zPP];refine aMP _ (by rw[←eb,jM,hl,xD];omega) λh5 u5=>?_;exact hk h5 ((((u1.trans u2).trans u3).trans u4).trans u5)
   by_cases c3:x.seg=0
   ·have q3:((x.seg:Int) !=0)=false:=by simp[c3]
    simp only[c1,decide_true,cA.f0,cA.f1,cJ.load,aR.load,b0,b1,g2,eI,q3,cC,reduceIte,cI,Nat.reduceAdd];have:=go (by omega);simp only[aR.load,iZ] at this;exact this
   ·have q3:((x.seg:Int) !=0)=true:=by rw[bne_iff_ne];omega
    by_cases c4:x.seg=1
    ·have q4:((x.seg:Int) !=1)=false:=by simp[c4]
     simp only[c1,decide_true,cA.f0,cA.f1,cJ.load,aR.load,b0,b1,g2,eI,q3,q4,cC,reduceIte,cI,Nat.reduceAdd];have:=go (by omega);simp only[aR.load,iZ] at this;exact this
    ·have q4:((x.seg:Int) !=1)=true:=by rw[bne_iff_ne];omega
     simp only[c1,decide_true,cA.f0,cA.f1,cJ.load,aR.load,b0,b1,g2,eI,q3,q4,cC,reduceIte,cI,Nat.reduceAdd];exact bad (.inr (.inr (by omega)))
 ·simp only[c1,decide_false,cC,reduceIte,cI,Nat.reduceAdd];exact bad (.inl c1)
def hdz(s:Tx)(i:Nat):Bool:=((s.take i).drop 10).all (· == 0)
def aWf{h:PH}(size:Nat)(s:Tx)(hs:s.length≤1000000){k:cE}(hk:∀h',dA h h'->k (.tuple #[(fI size s).1.v,.int .i64 (fI size s).2]) h'):bT PG aCa #[.int .i64 (size:Int),.string (tx s)] h k:=by
 rw[←aQw] at hk;apply uF.call;unfold uF;intro r1 hr1
 try rw[cR]
 have Z1:Bx (h.set r1 (.cells (dJ PG cA) cA)) r1 Hd.zero.cells:=cA.zbox;have u1:dA h (h.set r1 (.cells (dJ PG cA) cA)):=cX.new hr1;generalize h.set r1 (.cells (dJ PG cA) cA)=h1 at *;have fin:∀{h':PH} (f:Hd) (e:Int),aG4 size s=(f,e)->Bx h' r1 Hd.zero.cells->dA h h'->cN PG (cP cA (pT r1 0) f.v) h' λ_ h8=>bY (cD PG h8 (loadAt cA (pT r1 0))) λv9=>k (.tuple #[v9,.int .i64 e]) h8:=by
  intro h' f e he B w;refine cA.put B (vs:=f.cells) (o:=0) rfl (by show 0+2≤2;decide) f.isC λh2 B2 u2=>?_;have B2:Bx h2 r1 f.cells:=B2;simp only[aBT B2,iO,zPP];have:=hk h2 (w.fresh u2 (eD.one hr1));rw[he] at this;exact this
 refine aDt size ?_;by_cases ok:gB size
 ·have h64:=ok.1;have h512:=ok.2;by_cases hl:s.length=size
  ·have q:((s.length:Int) !=(size:Int))=false:=by simp[hl]
   simp only[ok,decide_true,iV,eI,q,cC,reduceIte,cI,Nat.reduceAdd];refine aOz s hs λh4 u4=>?_;have e4:=u1.trans u4;cases hsl:oE s with
   | false=>
    have er:aG4 size s=(Hd.zero,8):=by unfold aG4;rw[if_neg (by simpa using ok),if_neg (by simpa using hl),if_pos hsl]
    simp only[aHv,cC,reduceIte,cI,Nat.reduceAdd];exact fin Hd.zero 8 er (Z1.ext u4) e4
   | true=>
    have er:aG4 size s=if aGN size s then(qT s,0) else(Hd.zero,5):=by unfold aG4;rw[if_neg (by simpa using ok),if_neg (by simpa using hl),if_neg (by rw[hsl];decide)]
    have c1:cB PG (Instr.sliceAt aT (.string (tx s)) (some (.int .i64 1)) (some (.int .i64 9)) none)=some (.string (tx ((s.drop 1).take 8))):=by
     have:=kD (P:=PG) (t:=aT) (l:=s) (i:=1) (j:=9) (lo:=some (.int .i64 1)) (hi:=some (.int .i64 9)) aT.und (.inr ⟨_,rfl⟩) (.inr ⟨_,rfl⟩) (by omega) (by omega);rw[this,zLy]
    obtain⟨b9,hb9⟩:∃b,s[9]? =some b:=⟨_,kF (by omega)⟩;obtain⟨b0,hb0⟩:∃b,s[0]? =some b:=⟨_,kF (by omega)⟩;have i9:cB PG (Instr.index aT (.string (tx s)) (.int .i64 9))=some (.int .u8 b9.toNat):=oB (j:=9) aT.und hb9;have i0:cB PG (Instr.index aT (.string (tx s)) (.int .i64 0))=some (.int .u8 b0.toNat):=oB (j:=0) aT.und hb0;have d9:(qT s).seg=b9.toNat:=aJt hb9;have l9:=b9.toNat_lt;have t1:s.take 1=[72]↔b0=72:=by
     have:s.take 1=[b0]:=by
      obtain⟨hl0,e⟩:=zLA.1 hb0;cases s with
      | nil=>cases hl0
      | cons y s=>simp at e;simp[e]
     rw[this];simp
    simp only[c1,i9,aHJ,cC,reduceIte,cI,Nat.reduceAdd];refine aCF (by rw[lU];omega) ?_;rw[←d9];show bY (cB PG (build cA #[(0,.int .u64 ((qT s).gen:Int)),(1,.int .i64 ((qT s).seg:Int))])) _;simp only[aPg,iO,zPP];intro r29 hr29
    try rw[cR]
    refine cA.fill (vs:=(qT s).cells) hr29 rfl (qT s).isC λh5 B5 u5=>?_;have e5:=e4.trans u5;have Z5:=(Z1.ext u4).ext u5;have bg:cV h5 ⟨r29,0,none⟩=some (.int .u64 ((qT s).gen:Int)):=B5.cell 0;have bs:cV h5 ⟨r29,0+1,none⟩=some (.int .i64 ((qT s).seg:Int)):=B5.cell 1;have q0:((b0.toNat:Int)==72)=decide (b0=72):=by
     rw[xF,beq_iff_eq,decide_eq_true_iff];constructor
     ·intro e;apply UInt8.toNat_inj.1;have:b0.toNat=72:=by omega
      rw[this];rfl
     ·intro e;rw[e];rfl
    have loop:∀b:Bool,b=decide (b0=72∧(qT s).gen≠0∧(qT s).seg<2)->hC [0,1,4,6,7,8] (λn61 ρ h=>aBz k n61 (ρ 0) (ρ 1) (ρ 4) (ρ 6) (ρ 7) (ρ 8) h) [.int .i64 (size:Int),.string (tx s),pT r1 0,pT r29 0,.bool b,.int .i64 10] h5:=by
     intro b hb;refine⟨λvs h'=>∃i:Nat,10≤i∧i≤size-4∧vs=[.int .i64 (size:Int),.string (tx s),pT r1 0,pT r29 0,.bool (decide (b0=72∧(qT s).gen≠0∧(qT s).seg<2)&&hdz s i),.int .i64 (i:Int)]∧h'=h5,fT size 5,⟨10,by omega,by omega,?_,rfl⟩,?_⟩
     ·have:(s.take 10).drop 10=[]:=yQ (by rw[lU];omega);unfold hdz;rw[this,hb];simp
     rintro ρ h' ⟨i,hi,hi2,hvs,rfl⟩;simp only[iG,jB,kZ,and_true] at hvs;obtain⟨x0,x1,x4,x6,x7,x8⟩:=hvs;unfold aBz;rw[x0,x1,x4,x6,x7,x8];have w4:IntKind.i64.wrap ((size:Int)-4)=((size-4:Nat):Int):=by rw[eB (by omega) (by omega)];omega
     by_cases hlt:i<size-4
     ·have g:((i:Int)<((size-4:Nat):Int))=True:=eq_true (by omega);have gi:=nR (i:=i) (by omega);obtain⟨y,hy⟩:∃y,s[i]? =some y:=⟨_,kF (by omega)⟩;have iy:cB PG (Instr.index aT (.string (tx s)) (.int .i64 (i:Int)))=some (.int .u8 y.toNat):=oB (j:=i) aT.und hy;have et:(s.take (i+1)).drop 10=(s.take i).drop 10++[y]:=by
       rw[zLR,hy,List.drop_append_of_le_length (by rw[lU];omega)];rfl
      have qy:((y.toNat:Int)==0)=decide (y=0):=by
       rw[xF,beq_iff_eq,decide_eq_true_iff];constructor
       ·intro e;apply UInt8.toNat_inj.1;have:y.toNat=0:=by omega
        rw[this];rfl
       ·intro e;rw[e];rfl
      have en:(decide (b0=72∧(qT s).gen≠0∧(qT s).seg<2)&&hdz s (i+1))=((decide (b0=72∧(qT s).gen≠0∧(qT s).seg<2)&&hdz s i)&&decide (y=0)):=by
       have:hdz s (i+1)=(hdz s i&&decide (y=0)):=by
        have e0:(y==0)=decide (y=0):=by rw[xF,beq_iff_eq,decide_eq_true_iff]
        unfold hdz;rw[et,List.all_append,List.all_cons,List.all_nil,Bool.and_true,e0]
       rw[this,Bool.and_assoc]
      cases cb:(decide (b0=72∧(qT s).gen≠0∧(qT s).seg<2)&&hdz s i) with
      | true=>
       rw[cb,zLo] at en;simp only[w4,g,iy,gA,qy,gi,cC,reduceIte,cI,Nat.reduceAdd];exact⟨⟨i+1,by omega,by omega,by rw[en],by first|rfl|trivial⟩,by simp[fT,x8];omega⟩
      | false=>
       rw[cb,zLn] at en;simp only[w4,g,gi,cC,reduceIte,cI,Nat.reduceAdd];exact⟨⟨i+1,by omega,by omega,by rw[en],by first|rfl|trivial⟩,by simp[fT,x8];omega⟩
     ·have g:((i:Int)<((size-4:Nat):Int))=False:=eq_false (by omega);obtain rfl:i=size-4:=by omega
      have ed:(decide (b0=72∧(qT s).gen≠0∧(qT s).seg<2)&&hdz s (size-4))=decide (aGN size s):=by
       rw[xF,sU,decide_eq_true_iff,decide_eq_true_iff];unfold aGN hdz;rw[t1,aKA];simp only[beq_iff_eq];exact⟨λ⟨⟨a,b,c⟩,d⟩=>⟨a,b,c,d⟩,λ⟨a,b,c,d⟩=>⟨⟨a,b,c⟩,d⟩⟩
      rw[ed];by_cases cd:aGN size s
      ·rw[if_pos cd] at er;simp only[w4,g,cd,decide_true,aBT B5,cC,reduceIte,cI,Nat.reduceAdd];exact fin (qT s) 0 er Z5 e5
      ·rw[if_neg cd] at er;simp only[w4,g,cd,decide_false,aHv,cC,reduceIte,cI,Nat.reduceAdd];exact fin Hd.zero 5 er Z5 e5
    by_cases k0:b0=72
    ·have g0:decide (b0=72)=true:=decide_eq_true k0;by_cases k1:(qT s).gen=0
     ·have g1:((0:Int)<((qT s).gen:Int))=False:=eq_false (by omega);simp only[i0,gA,q0,g0,cA.f0,cJ.load,bg,g1,cC,reduceIte,cI,Nat.reduceAdd];exact loop false (by rw[eq_comm];exact decide_eq_false (λx=>x.2.1 k1))
     ·have g1:((0:Int)<((qT s).gen:Int))=True:=eq_true (by omega);have e2:decide (((qT s).seg:Int)<2)=decide (b0=72∧(qT s).gen≠0∧(qT s).seg<2):=by
       rw[xF,decide_eq_true_iff,decide_eq_true_iff];exact⟨λh=>⟨k0,k1,by omega⟩,λh=>by omega⟩
      simp only[i0,gA,q0,g0,cA.f0,cA.f1,cJ.load,aR.load,bg,g1,bs,cC,reduceIte,cI,Nat.reduceAdd];exact loop _ e2
    ·have g0:decide (b0=72)=false:=decide_eq_false k0;simp only[i0,gA,q0,g0,cC,reduceIte,cI,Nat.reduceAdd];exact loop false (by rw[eq_comm];exact decide_eq_false (λx=>k0 x.1))
  ·have q:((s.length:Int) !=(size:Int))=true:=by rw[bne_iff_ne];omega
   have er:aG4 size s=(Hd.zero,6):=by unfold aG4;rw[if_neg (by simpa using ok),if_pos hl]
   simp only[ok,decide_true,iV,eI,q,aHv,cC,reduceIte,cI,Nat.reduceAdd];exact fin Hd.zero 6 er Z1 u1
 ·have er:aG4 size s=(Hd.zero,1):=by unfold aG4;rw[if_pos ok]
  simp only[ok,decide_false,aHv,cC,reduceIte,cI,Nat.reduceAdd];exact fin Hd.zero 1 er Z1 u1
def xQ(size:Nat)(x y:Tx):Nat->Hd×Int
 | 0=>(Hd.zero,-1)
 | 1=>aAY (Hd.zero,-1) 0 (fI size x)
 | _=>aAY (aAY (Hd.zero,-1) 0 (fI size x)) 1 (fI size y)
def aR6{h:PH}{v:Value}(size:Nat)(x y:Tx)(S:iH h 1 v ([x,y].map jI))(hx:x.length≤1000000)(hy:y.length≤1000000){k:cE}(hk:∀h',dA h h'->k (.tuple #[(jX size x y).1.v,.int .i64 (jX size x y).2]) h'):bT PG aAu #[.int .i64 (size:Int),v] h k:=by
 rw[←aSk] at hk;apply zD.call;unfold zD;intro r1 hr1
 try rw[cR]
 have Z1:Bx (h.set r1 (.cells (dJ PG cA) cA)) r1 Hd.zero.cells:=cA.zbox;have u1:dA h (h.set r1 (.cells (dJ PG cA) cA)):=cX.new hr1;generalize h.set r1 (.cells (dJ PG cA) cA)=h1 at *;simp only[aHv,cC,reduceIte,cI,Nat.reduceAdd];intro r4 hr4
 try rw[cR]
 refine cA.fill (vs:=Hd.zero.cells) hr4 rfl Hd.zero.isC λh2 B2 u2=>?_;have Z2:=Z1.ext u2;have n14:r1≠r4:=Z1.apart hr4;have e2:=u1.trans u2;have f1:eD h [r1]:=eD.one hr1;have f4:eD h [r4]:=eD.one (u1.none hr4);have lv:cB PG (Builtin.len_ #[dD] aR #[v])=some (.int .i64 2):=aAK S;refine⟨λvs h'=>∃i:Nat,i≤2∧vs=[.int .i64 (size:Int),v,pT r1 0,pT r4 0,.int .i64 (xQ size x y i).2,.int .i64 (i:Int)]∧Bx h' r4 (xQ size x y i).1.cells∧Bx h' r1 Hd.zero.cells∧dA h h',fT 2 5,⟨0,by omega,rfl,B2,Z2,e2⟩,?_⟩;rintro ρ h' ⟨i,hi,hvs,B,Zb,w⟩;simp only[iG,jB,kZ,and_true] at hvs;obtain⟨x0,x1,x4,x6,x7,x8⟩:=hvs;unfold aDz;rw[x0,x1,x4,x6,x7,x8];by_cases hlt:i<2
 ·have g:((i:Int)<2)=True:=eq_true (by omega);have gi:=nR (i:=i) (by omega);obtain⟨s,hs⟩:∃s,[x,y][i]? =some s:=⟨_,kF (show i<[x,y].length from hlt)⟩;have hsl:s.length≤1000000:=by
   have:=zX hs;simp only[iW,zLg,or_false] at this;rcases this with rfl|rfl<;>assumption
  obtain⟨a,i1,i2⟩:=aJB (S.ext w) hs;have step:xQ size x y (i+1)=aAY (xQ size x y i) (i:Int) (fI size s):=by
   have:i=0∨i=1:=by omega
   rcases this with rfl|rfl
   ·simp at hs;subst hs;rfl
   ·simp at hs;subst hs;rfl
  simp only[lv,g,i1,i2,cC,reduceIte,cI,Nat.reduceAdd];refine aWf size s hsl λh3 u3=>?_;simp only[cC,reduceIte,cI,Nat.reduceAdd];intro r18 hr18
  try rw[cR]
  refine cA.fill (vs:=(fI size s).1.cells) hr18 rfl (fI size s).1.isC λh5 B5 u5=>?_;have e5:=(w.trans u3).trans u5;have D4:=(B.ext u3).ext u5;have D1:=(Zb.ext u3).ext u5;have b0:cV h5 ⟨r18,0,none⟩=some (.int .u64 ((fI size s).1.gen:Int)):=B5.cell 0;have c0:cV h5 ⟨r4,0,none⟩=some (.int .u64 ((xQ size x y i).1.gen:Int)):=D4.cell 0;have stay:xQ size x y (i+1)=xQ size x y i->nW k (λvs h'=>(∃i:Nat,i≤2∧vs=[.int .i64 (size:Int),v,pT r1 0,pT r4 0,.int .i64 (xQ size x y i).2,.int .i64 (i:Int)]∧Bx h' r4 (xQ size x y i).1.cells∧Bx h' r1 Hd.zero.cells∧dA h h')∧fT 2 5 vs h'<fT 2 5 ([0,1,4,6,7,8].map ρ) h') (.int .i64 (size:Int)) v (pT r1 0) (pT r4 0) (.int .i64 (xQ size x y i).2) (.int .i64 (i:Int)) h5:=by
   intro en;unfold nW zZ;simp only[gi,cC,reduceIte,cI,Nat.reduceAdd];rw[←en];rw[←en] at D4;exact⟨⟨i+1,by omega,rfl,D4,D1,e5⟩,by simp[fT,x8];omega⟩
  have move:xQ size x y (i+1)=((fI size s).1,(i:Int))->cN PG (cP cA (pT r4 0) (fI size s).1.v) h5 λ_ h60=>nW k (λvs h'=>(∃i:Nat,i≤2∧vs=[.int .i64 (size:Int),v,pT r1 0,pT r4 0,.int .i64 (xQ size x y i).2,.int .i64 (i:Int)]∧Bx h' r4 (xQ size x y i).1.cells∧Bx h' r1 Hd.zero.cells∧dA h h')∧fT 2 5 vs h'<fT 2 5 ([0,1,4,6,7,8].map ρ) h') (.int .i64 (size:Int)) v (pT r1 0) (pT r4 0) (.int .i64 (i:Int)) (.int .i64 (i:Int)) h60:=by
   intro en;refine cA.put D4 (vs:=(fI size s).1.cells) (o:=0) rfl (by show 0+2≤2;decide) (fI size s).1.isC λh6 B6 u6=>?_;have B6:Bx h6 r4 (fI size s).1.cells:=B6;unfold nW zZ;simp only[gi,cC,reduceIte,cI,Nat.reduceAdd];exact⟨⟨i+1,by omega,by rw[en],by rw[en];exact B6,D1.upd u6 (by simpa using n14),e5.fresh u6 f4⟩,by simp[fT,x8];omega⟩
  by_cases c1:(fI size s).2=0
  ·have q1:((fI size s).2==0)=true:=by rw[c1];rfl
   by_cases c2:(xQ size x y i).2<0
   ·have g2:((xQ size x y i).2<0)=True:=eq_true c2;simp only[gA,q1,g2,aBT B5,cC,reduceIte,cI,Nat.reduceAdd];exact move (by rw[step];exact if_pos ⟨c1,.inl c2⟩)
   ·have g2:((xQ size x y i).2<0)=False:=eq_false c2;by_cases c3:(xQ size x y i).1.gen<(fI size s).1.gen
    ·have g3:(((xQ size x y i).1.gen:Int)<((fI size s).1.gen:Int))=True:=eq_true (by omega);simp only[gA,q1,g2,cA.f0,cJ.load,b0,c0,g3,aBT B5,cC,reduceIte,cI,Nat.reduceAdd];exact move (by rw[step];exact if_pos ⟨c1,.inr c3⟩)
    ·have g3:(((xQ size x y i).1.gen:Int)<((fI size s).1.gen:Int))=False:=eq_false (by omega);simp only[gA,q1,g2,cA.f0,cJ.load,b0,c0,g3,cC,reduceIte,cI,Nat.reduceAdd];exact stay (by rw[step];exact if_neg (λz=>z.2.elim c2 c3))
  ·have q1:((fI size s).2==0)=false:=by rw[beq_eq_false_iff_ne];exact c1
   simp only[gA,q1,cC,reduceIte,cI,Nat.reduceAdd];exact stay (by rw[step];exact if_neg (λz=>c1 z.1))
 ·have g:((i:Int)<2)=False:=eq_false (by omega);obtain rfl:i=2:=by omega
  have g2:(((2:Nat):Int)<2)=False:=eq_false (by decide);have B:Bx h' r4 (aAY (aAY (Hd.zero,-1) 0 (fI size x)) 1 (fI size y)).1.cells:=B;simp only[lv,g2,aBT B,cC,reduceIte,cI,Nat.reduceAdd];refine cA.put Zb (vs:=(aAY (aAY (Hd.zero,-1) 0 (fI size x)) 1 (fI size y)).1.cells) (o:=0) rfl (by show 0+2≤2;decide) (Hd.isC _) λh6 B6 u6=>?_;have B6:Bx h6 r1 (aAY (aAY (Hd.zero,-1) 0 (fI size x)) 1 (fI size y)).1.cells:=B6;simp only[aBT B6,cC,reduceIte,cI,Nat.reduceAdd];exact hk h6 (w.fresh u6 f1)
def aVE{h:PH}(x:Hd)(hg:x.gen<18446744073709551616){k:cE}(hk:∀h',dA h h'->k (.tuple #[(gT x).1.v,.int .i64 (gT x).2]) h'):bT PG aBu #[x.v] h k:=by
 apply aA4.call;unfold aA4;intro r1 hr1
 try rw[cR]
 have u1:dA h (h.set r1 (.cells (Value.cells x.v) cA)):=cX.new hr1;have B1:Bx (h.set r1 (.cells (Value.cells x.v) cA)) r1 x.cells:=Bx.new;generalize h.set r1 (.cells (Value.cells x.v) cA)=h1 at *;intro r3 hr3
 try rw[cR]
 have Z3:Bx (h1.set r3 (.cells (dJ PG cA) cA)) r3 Hd.zero.cells:=cA.zbox;have u3:dA h1 (h1.set r3 (.cells (dJ PG cA) cA)):=cX.new hr3;have C1:=B1.ext u3;generalize h1.set r3 (.cells (dJ PG cA) cA)=h3 at *;have e3:=u1.trans u3;have b0:cV h3 ⟨r1,0,none⟩=some (.int .u64 (x.gen:Int)):=C1.cell 0;have b1:cV h3 ⟨r1,0+1,none⟩=some (.int .i64 (x.seg:Int)):=C1.cell 1;have fin:∀(f:Hd) (e:Int),gT x=(f,e)->cN PG (cP cA (pT r3 0) f.v) h3 λ_ h8=>bY (cD PG h8 (loadAt cA (pT r3 0))) λv9=>k (.tuple #[v9,.int .i64 e]) h8:=by
  intro f e hr;refine cA.put Z3 (vs:=f.cells) (o:=0) rfl (by show 0+2≤2;decide) f.isC λh2 B2 u2=>?_;have B2:Bx h2 r3 f.cells:=B2;simp only[aBT B2,iO,zPP];have:=hk h2 (e3.fresh u2 (eD.one (u1.none hr3)));rw[hr] at this;exact this
 by_cases c:x.gen=18446744073709551615
 ·have wg:IntKind.u64.wrap ((x.gen:Int)+1)=0:=by rw[c];decide
  have q:((0:Int)==0)=true:=rfl;simp only[cA.f0,cJ.load,b0,wg,gA,q,aHv,cC,reduceIte,cI,Nat.reduceAdd];exact fin Hd.zero 12 (by unfold gT;rw[if_pos c])
 ·have wg:IntKind.u64.wrap ((x.gen:Int)+1)=((x.gen+1:Nat):Int):=by rw[kI (by omega) (by omega)];omega
  have q:(((x.gen+1:Nat):Int)==0)=false:=by rw[beq_eq_false_iff_ne];omega
  by_cases c2:x.seg=0
  ·have q2:((x.seg:Int)==0)=true:=by simp[c2]
   simp only[cA.f0,cA.f1,cJ.load,aR.load,b0,b1,wg,gA,q,q2,aPg,cC,reduceIte,cI,Nat.reduceAdd];exact fin ⟨x.gen+1,1⟩ 0 (by unfold gT;rw[if_neg c,if_pos c2])
  ·have q2:((x.seg:Int)==0)=false:=by rw[beq_eq_false_iff_ne];omega
   simp only[cA.f0,cA.f1,cJ.load,aR.load,b0,b1,wg,gA,q,q2,aPg,cC,reduceIte,cI,Nat.reduceAdd];exact fin ⟨x.gen+1,0⟩ 0 (by unfold gT;rw[if_neg c,if_neg c2])
def aDy{h:PH}{r:Nat}{d:Dk}{F:List Nat}(D:oF r d h F)(h2:2≤d.sectors){k:cE}(hk:k (.int .i64 (d.segs:Int)) h):bT PG mC #[pT r 0] h k:=by
 apply xT.call;unfold xT;obtain⟨bv,L⟩:=D.b;have hm:=D.ok.many;have w1:IntKind.i64.wrap ((d.sectors:Int)-2)=((d.sectors-2:Nat):Int):=by rw[eB (by omega) (by omega)];omega
 have w2:cB PG (binOp .quo aR (.int .i64 ((d.sectors-2:Nat):Int)) (.int .i64 2))=some (.int .i64 (d.segs:Int)):=by
  have e:Int.tdiv ((d.sectors-2:Nat):Int) 2=(d.segs:Int):=rfl;have e2:IntKind.i64.wrap (d.segs:Int)=(d.segs:Int):=eB (by omega) (by unfold Dk.segs;omega);rw[aKZ (by decide),e,e2]
 simp only[cO.f1,aR.load,L.sectors,w1,w2,cC,reduceIte,cI,Nat.reduceAdd];exact hk
def aMF{h:PH}{r:Nat}{d:Dk}{F:List Nat}(D:oF r d h F)(h2:2≤d.sectors)(x:Hd)(hs:x.seg≤1){k:cE}(hk:∀h',dA h h'->k (.int .i64 (d.base x.seg:Int)) h'):bT PG sW #[pT r 0,x.v] h k:=by
 apply aBG.call;unfold aBG;have hm:=D.ok.many;intro r1 hr1
 try rw[cR]
 have u1:dA h (h.set r1 (.cells (Value.cells x.v) cA)):=cX.new hr1;have B1:Bx (h.set r1 (.cells (Value.cells x.v) cA)) r1 x.cells:=Bx.new;generalize h.set r1 (.cells (Value.cells x.v) cA)=h1 at *;have b1:cV h1 ⟨r1,0+1,none⟩=some (.int .i64 (x.seg:Int)):=B1.cell 1;have hsg:d.segs≤4096:=by unfold Dk.segs;omega
 by_cases c:x.seg=1
 ·have q:((x.seg:Int)==1)=true:=by simp[c]
  have w2:IntKind.i64.wrap ((2:Int)+(d.segs:Int))=(d.base x.seg:Int):=by
   rw[eB (by omega) (by omega),c];unfold Dk.base;omega
  simp only[cA.f1,aR.load,b1,gA,q,cC,reduceIte,cI,Nat.reduceAdd];refine aDy (D.ext u1) h2 ?_;simp only[w2,cC,reduceIte,cI,Nat.reduceAdd];exact hk h1 u1
 ·have q:((x.seg:Int)==1)=false:=by rw[beq_eq_false_iff_ne];omega
  have e:d.base x.seg=2:=by
   have:x.seg=0:=by omega
   rw[this];unfold Dk.base;omega
  simp only[cA.f1,aR.load,b1,gA,q,cC,reduceIte,cI,Nat.reduceAdd];have:=hk h1 u1;rw[e] at this;exact this
def aKE{h:PH}{a:Nat}{d:Dk}{F G:List Nat}{v:Value}{l:List Tx}(D:oF a d h F)(n:Nat)(hn:n≤1000000)(O:eH h aT 1 v (l.map jI) G)(hd:∀b∈G,b∉F)(hb:d.buf.length+l.length≤1000000){k:cE}(hk:∀h' F',oF a (iE d n l).1 h' F'->eA h F h' F'->k (.int .i64 (iE d n l).2) h'):bT PG qP #[pT a 0,.int .i64 (n:Int),v] h k:=by
 apply aCG.call;unfold aCG;obtain⟨T,hT⟩:∃T,iE d n l=T:=⟨_,rfl⟩;rw[hT] at hk;refine⟨λvs h'=>∃(i:Nat) (d':Dk) (F':List Nat),i≤l.length∧vs=[pT a 0,.int .i64 (n:Int),v,.int .i64 (i:Int)]∧oF a d' h' F'∧eH h' aT 1 v (l.map jI) G∧(∀b∈G,b∉F')∧T=iE d' (n+i) (l.drop i)∧d'.buf.length≤d.buf.length+i∧eA h F h' F',fT l.length 3,⟨0,d,F,by omega,rfl,D,O,hd,hT.symm,by omega,eA.refl⟩,?_⟩;rintro ρ h' ⟨i,d',F',hi,hvs,D',O',hd',hT',hb',st⟩;simp only[iG,jB,kZ,and_true] at hvs;obtain⟨x0,x1,x2,x7⟩:=hvs;unfold aFz;rw[x0,x1,x2,x7];by_cases hlt:i<l.length
 ·have g:((i:Int)<(l.length:Int))=True:=eq_true (by omega);have gi:=nR (i:=i) (by omega);have gn:IntKind.i64.wrap ((n:Int)+(i:Int))=((n+i:Nat):Int):=by rw[eB (by omega) (by omega)];omega
  obtain⟨x,hx⟩:∃x,l[i]? =some x:=⟨_,kF hlt⟩;have ed:l.drop i=x::l.drop (i+1):=by
   rw[aAs hlt];have:l[i]=x:=by rw[kF hlt] at hx;simpa using hx
   rw[this]
  rw[ed,aK9] at hT';obtain⟨p,i1,i2⟩:=aJB O'.slR hx;simp only[aAK O'.slR,g,i1,i2,gn,cC,reduceIte,cI,Nat.reduceAdd];refine aR9 D' _ x (by omega) λh5 F5 D5 s5=>?_;have st5:=st.trans s5;by_cases c:(d'.wr ((n+i:Nat):Int) x).2=0
  ·have q:((d'.wr ((n+i:Nat):Int) x).2 !=0)=false:=by rw[c];rfl
   rw[if_neg (λe=>e c)] at hT';simp only[eI,q,gi,cC,reduceIte,cI,Nat.reduceAdd];obtain⟨O5,hd5⟩:=O'.step s5 hd';have:=aPy d' ((n+i:Nat):Int) x;exact⟨⟨i+1,_,F5,by omega,rfl,D5,O5,hd5,by rw[←Nat.add_assoc];exact hT',by omega,st5⟩,by simp[fT,x7];omega⟩
  ·have q:((d'.wr ((n+i:Nat):Int) x).2 !=0)=true:=bne_iff_ne.2 c;rw[if_pos c] at hT';simp only[eI,q,cC,reduceIte,cI,Nat.reduceAdd];subst hT';exact hk h5 F5 D5 st5
 ·have g:((i:Int)<(l.length:Int))=False:=eq_false (by omega);have ed:l.drop i=[]:=yQ (by omega);rw[ed] at hT';have hT':T=d'.fl:=hT';simp only[aAK O'.slR,g,cC,reduceIte,cI,Nat.reduceAdd];refine aNS D' (by omega) λh5 F5 D5 s5=>?_;subst hT';exact hk h5 F5 D5 (st.trans s5)
def aQc{h:PH}{a:Nat}{d:Dk}{F:List Nat}(D:oF a d h F)(h4:4≤d.sectors)(x:Hd)(hs:x.seg≤1)(hb:d.buf.length≤1000000){k:cE}
  (hk:∀h' v G,eH h' aT 1 v ((jD d.size x.gen (d.segs+1) (d.secs (d.base x.seg) d.segs) 0).1.map jI) G->eD h G->dA h h'->k (.tuple #[v,.int .i64 ((jD d.size x.gen (d.segs+1) (d.secs (d.base x.seg) d.segs) 0).2:Int)]) h'):bT PG zV #[pT a 0,x.v] h k:=by
 apply qG.call;unfold qG;have hm:=D.ok.many;have hz:=D.ok.size;have hfit:=qZ d h4 hs;have hsg:d.segs≤4096:=by unfold Dk.segs;omega
 intro r1 hr1
 try rw[cR]
 have u1:dA h (h.set r1 (.cells (Value.cells x.v) cA)):=cX.new hr1;have B1:Bx (h.set r1 (.cells (Value.cells x.v) cA)) r1 x.cells:=Bx.new;generalize h.set r1 (.cells (Value.cells x.v) cA)=h1 at *;refine⟨λvs h'=>∃i:Nat,i≤d.segs∧vs=[pT a 0,pT r1 0,.string (tx (d.secs (d.base x.seg) i).flatten),.int .i64 (i:Int)]∧Bx h' r1 x.cells∧dA h h',fT d.segs 3,⟨0,by omega,rfl,B1,u1⟩,?_⟩;rintro ρ h' ⟨i,hi,hvs,B,w⟩;simp only[iG,jB,kZ,and_true] at hvs;obtain⟨x0,x3,x6,x7⟩:=hvs;unfold aDh;rw[x0,x3,x6,x7];refine aDy (D.ext w) (by omega) ?_;have hfl:(d.secs (d.base x.seg) i).flatten.length=i*d.size:=by rw[aBx (aGz D.ok (by omega)),Dk.secs_len]
 have hz2:=hz.2;have him:i*d.size≤4096*512:=Nat.mul_le_mul (by omega) hz2;by_cases hlt:i<d.segs
 ·have g:((i:Int)<(d.segs:Int))=True:=eq_true (by omega);have gi:=nR (i:=i) (by omega);have gn:IntKind.i64.wrap ((d.base x.seg:Int)+(i:Int))=((d.base x.seg+i:Nat):Int):=by rw[eB (by omega) (by omega)];omega
  have erd:d.rd ((d.base x.seg+i:Nat):Int)=(d.at (d.base x.seg+i),0):=by
   unfold Dk.rd;rw[if_neg (by omega)];rfl
  have hal:=D.ok.at_len (n:=d.base x.seg+i) (by omega);simp only[g,aBT B,cC,reduceIte,cI,Nat.reduceAdd];refine aMF (D.ext w) (by omega) x hs λh5 u5=>?_;simp only[gn,cC,reduceIte,cI,Nat.reduceAdd];refine aLF ((D.ext w).ext u5) _ hb ?_;rw[erd];have ea:cB PG (binOp .add aT (.string (tx (d.secs (d.base x.seg) i).flatten)) (.string (tx (d.at (d.base x.seg+i)))))=some (.string (tx (d.secs (d.base x.seg) (i+1)).flatten)):=by
   rw[aOk];exact jW (by omega)
  simp only[ea,gi,cC,reduceIte,cI,Nat.reduceAdd];exact⟨⟨i+1,by omega,rfl,B.ext u5,w.trans u5⟩,by simp[fT,x7];omega⟩
 ·have g:((i:Int)<(d.segs:Int))=False:=eq_false (by omega);obtain rfl:i=d.segs:=by omega
  obtain⟨bv,L⟩:=(D.ext w).b;have bg:cV h' ⟨r1,0,none⟩=some (.int .u64 (x.gen:Int)):=B.cell 0;simp only[g,cO.f0,aR.load,L.size,cA.f0,cJ.load,bg,cC,reduceIte,cI,Nat.reduceAdd];have sl:=Dk.secs_len d (d.base x.seg) d.segs;refine aUd hz (aGz D.ok (by omega)) (by omega) λh6 v G O6 f6 u6=>?_;rw[sl] at O6 ⊢;simp only[cC,reduceIte,cI,Nat.reduceAdd];exact hk h6 v G O6 (f6.of w) (w.trans u6)
def Wl.ocells(r:Nat)(x:Wl):List Value:=[pT r 0,.int .u64 (x.hd.gen:Int),.int .i64 (x.hd.seg:Int),.int .i64 (x.slot:Int),.int .i64 (x.used:Int),.int .i64 (x.ser:Int),.bool x.ready,.bool x.broken]
structure WoA(a w:Nat)(d:Dk)(x:Wl)(h:PH)(F:List Nat):Prop where
 here:∃Fd,F=w::Fd∧Bx h w (x.ocells a)∧oF a d h Fd∧w∉Fd
 ok:yB d x
 ser:x.ser≤x.used
 gen:x.hd.gen<18446744073709551616
def WoA.upd{a w:Nat}{d:Dk}{x:Wl}{h h':PH}{F K:List Nat}(H:WoA a w d x h F)(u:cX K h h')(hK:∀b∈F,b∉K):WoA a w d x h' F:=by
 obtain⟨Fd,rfl,B,D,n⟩:=H.here;exact⟨⟨Fd,rfl,B.upd u (hK w (by simp)),D.upd u (λb hb=>hK b (by simp[hb])),n⟩,H.ok,H.ser,H.gen⟩
def WoA.known{a w:Nat}{d:Dk}{x:Wl}{h:PH}{F:List Nat}(H:WoA a w d x h F):∀b∈F,h b≠none:=by
 obtain⟨Fd,rfl,B,D,n⟩:=H.here;intro b hb;rcases iW.1 hb with rfl|hb
 ·exact B.known
 ·exact D.known b hb
def WoA.good(a w:Nat)(d:Dk)(x:Wl):aH7 (WoA a w d x):=⟨λH=>H.known,λH u hK=>H.upd u hK⟩
def WoA.ext{a w:Nat}{d:Dk}{x:Wl}{h h':PH}{F:List Nat}(H:WoA a w d x h F)(u:dA h h'):WoA a w d x h' F:=(WoA.good a w d x).ext H u
structure WoB(a w:Nat)(x:Wl)(h:PH):Prop where
 disk:cV h ⟨w,0,none⟩=some (pT a 0)
 head:cD PG h (loadAt cA (pT w (0+1)))=some x.hd.v
 gen:cV h ⟨w,0+1,none⟩=some (.int .u64 (x.hd.gen:Int))
 slot:cV h ⟨w,0+3,none⟩=some (.int .i64 (x.slot:Int))
 used:cV h ⟨w,0+4,none⟩=some (.int .i64 (x.used:Int))
 ser:cV h ⟨w,0+5,none⟩=some (.int .i64 (x.ser:Int))
 ready:cV h ⟨w,0+6,none⟩=some (.bool x.ready)
 broken:cV h ⟨w,0+7,none⟩=some (.bool x.broken)
def WoB.of{a w:Nat}{x:Wl}{h:PH}(B:Bx h w (x.ocells a)):WoB a w x h:=
 ⟨B.cell 0,cA.agg B (by show 0+1+2≤8;decide),B.cell 1,B.cell 3,B.cell 4,B.cell 5,B.cell 6,B.cell 7⟩
def aUf{h:PH}{a w:Nat}{d:Dk}{x:Wl}{F:List Nat}(H:WoA a w d x h F)(n:Nat)(hn:n<1000000000){k:cE}(hk:k (.bool (fits d x n)) h):bT PG yL #[pT w 0,.int .i64 (n:Int)] h k:=by
 apply pB.call;unfold pB;obtain⟨Fd,eF,B,D,n1⟩:=id H.here;obtain⟨bv,LD⟩:=D.b;have L:=WoB.of B;have hm:=H.ok.ok.many;have h4:=H.ok.four;have hu:=H.ok.used;have hsg:d.segs≤4096:=by unfold Dk.segs;omega
 simp only[cK.f0,eJ.load,L.disk,cO.f0,aR.load,LD.size,cC,reduceIte,cI,Nat.reduceAdd];refine aKu d.size n hn ?_;by_cases c:dL d.size n=0
 ·have g:((0:Int)<(dL d.size n:Int))=False:=eq_false (by omega);have e:fits d x n=false:=by unfold fits;exact decide_eq_false (λh=>h.1 c)
  simp only[g,cC,reduceIte,cI,Nat.reduceAdd];rw[e] at hk;exact⟨λh=>absurd h (by decide),hk⟩
 ·have g:((0:Int)<(dL d.size n:Int))=True:=eq_true (by omega);have w1:IntKind.i64.wrap ((d.segs:Int)-(x.used:Int))=(d.segs:Int)-(x.used:Int):=eB (by omega) (by omega);have e:decide ((dL d.size n:Int)≤(d.segs:Int)-(x.used:Int))=fits d x n:=by
   unfold fits;rw[xF,decide_eq_true_iff,decide_eq_true_iff];omega
  simp only[g,cK.f0,cK.f3,eJ.load,aR.load,L.disk,L.used,cC,reduceIte,cI,Nat.reduceAdd];refine aDy D (by omega) ?_;simp only[w1,cC,reduceIte,cI,Nat.reduceAdd];rw[e];exact⟨λ_=>L.used,hk⟩
def aEx{x:Wl}(h:x.broken=false){e:Int}(he:e≠13):x.brk e=x:=aTX h he
def aQD{h0 h:PH}{a w:Nat}{d':Dk}{x:Wl}{F0 Fd:List Nat}{e:Int}(B:Bx h w (x.ocells a))(D:oF a d' h Fd)(n:w∉Fd)(ok:yB d' x)(ser:x.ser≤x.used)(gen:x.hd.gen<18446744073709551616)(st:eA h0 F0 h (w::Fd))(he:e=13){k:cE}
  (hk:∀h' F',WoA a w d' (x.brk e) h' F'->eA h0 F0 h' F'->k (.int .i64 e) h'):cN PG (cP gR (pT w (0+7)) (.bool true)) h λ_ h2=>k (.int .i64 e) h2:=by
 refine gR.put B (o:=7) (by show 7<8;decide) rfl λh2 B2 u2=>?_;subst he;have B2:Bx h2 w ((x.brk 13).ocells a):=B2;refine hk h2 (w::Fd) ⟨⟨Fd,rfl,B2,D.upd u2 (kN n),n⟩,ok.brk 13,ser,gen⟩ ⟨st.upd.then u2 (λb hb=>?_),st.grow⟩;simp only[iC] at hb;exact st.grow b (by rw[hb];simp)
def aSb{h:PH}{a w:Nat}{d:Dk}{x:Wl}{F:List Nat}(H:WoA a w d x h F)(s:Tx)(hs:s.length≤1000000)(hb:d.buf.length≤990000){k:cE}
  (hk:∀h' F',WoA a w (hM d x s).1 (hM d x s).2.1 h' F'->eA h F h' F'->k (.int .i64 (hM d x s).2.2) h'):bT PG xB #[pT w 0,.string (tx s)] h k:=by
 apply nX.call;unfold nX;obtain⟨Fd,rfl,B,D,n1⟩:=id H.here;obtain⟨bv,LD⟩:=D.b;have L:=WoB.of B;have hm:=D.ok.many;have h4:=H.ok.four;have hu:=H.ok.used;have hser:=H.ser;have hz:=D.ok.size;have hsg:d.segs≤4096:=by unfold Dk.segs;omega
 have hwo:=H.ok.append s;unfold hM at hk;cases hx:x.broken with
 | true=>
  have lb:=L.broken;rw[hx] at lb;rw[if_pos hx] at hk;simp only[cK.f6,gR.load,lb,cC,reduceIte,cI,Nat.reduceAdd];exact hk h _ H eA.refl
 | false=>
  have lb:=L.broken;rw[hx] at lb;rw[if_neg (by rw[hx];decide)] at hk;cases cr:x.ready with
  | false=>
   have lr:=L.ready;rw[cr] at lr;rw[if_pos cr,aEx hx (by decide)] at hk;simp only[cK.f5,cK.f6,gR.load,lb,lr,cC,reduceIte,cI,Nat.reduceAdd];exact hk h _ H eA.refl
  | true=>
   have lr:=L.ready;rw[cr] at lr;rw[if_neg (by rw[cr];decide)] at hk;by_cases c1:4096<s.length
   ·have g1:((4096:Int)<(s.length:Int))=True:=eq_true (by omega);rw[if_pos ((qX hz).2 c1),aEx hx (by decide)] at hk;simp only[cK.f5,cK.f6,gR.load,lb,lr,iV,g1,cC,reduceIte,cI,Nat.reduceAdd];exact hk h _ H eA.refl
   ·have g1:((4096:Int)<(s.length:Int))=False:=eq_false (by omega);have hp0:dL d.size s.length≠0:=λe=>c1 ((qX hz).1 e);rw[if_neg hp0] at hk;simp only[cK.f0,cK.f1,cK.f4,cK.f5,cK.f6,gR.load,lb,lr,iV,g1,eJ.load,L.disk,cO.f0,aR.load,LD.size,cA.f0,cJ.load,L.gen,L.ser,cvN x.ser (by omega),cC,reduceIte,cI,Nat.reduceAdd];refine aOT d.size x.hd.gen x.ser s hz H.gen (by omega) hs λh3 v G O3 f3 u3=>?_;have L3:=WoB.of (B.ext u3);have fl:(fR d.size x.hd.gen x.ser s).length=dL d.size s.length:=iN ..;simp only[aAK O3.slR,fl,cK.f0,cK.f3,eJ.load,aR.load,L3.disk,L3.used,cC,reduceIte,cI,Nat.reduceAdd];refine aDy (D.ext u3) (by omega) ?_;refine⟨L3.used,?_⟩;have w1:IntKind.i64.wrap ((d.segs:Int)-(x.used:Int))=(d.segs:Int)-(x.used:Int):=eB (by omega) (by omega);have hf0:fits d x s.length=decide (dL d.size s.length+x.used≤d.segs):=by
     unfold fits;rw[xF,decide_eq_true_iff,decide_eq_true_iff];exact⟨λh=>h.2,λh=>⟨hp0,h⟩⟩
    by_cases c2:dL d.size s.length+x.used≤d.segs
    ·have g2:((d.segs:Int)-(x.used:Int)<(dL d.size s.length:Int))=False:=eq_false (by omega);have cf:fits d x s.length=true:=by rw[hf0];exact decide_eq_true c2
     rw[if_neg (by rw[cf];decide)] at hk;have hfit:=qZ d h4 H.ok.seg;have w2:IntKind.i64.wrap ((d.base x.hd.seg:Int)+(x.used:Int))=((d.base x.hd.seg+x.used:Nat):Int):=by rw[eB (by omega) (by omega)];omega
     simp only[w1,g2,cK.f0,cK.f1,cK.f3,eJ.load,aR.load,L3.disk,L3.head,L3.used,cC,reduceIte,cI,Nat.reduceAdd];refine aMF (D.ext u3) (by omega) x.hd H.ok.seg λh5 u5=>?_;have e5:=u3.trans u5;have L5:=WoB.of (B.ext e5);refine⟨L5.used,L5.disk,?_⟩;have dG:∀b∈G,b∉Fd:=λb hb hf=>D.known b hf (f3 b hb);simp only[w2,cC,reduceIte,cI,Nat.reduceAdd];refine aKE (D.ext e5) (d.base x.hd.seg+x.used) (by omega) (O3.ext u5) dG (by omega) λh6 F6 D6 s6=>?_;obtain⟨B6,n6⟩:=(B.ext e5).step s6 n1;have st6:eA h (w::Fd) h6 (w::F6):=(eA.ext e5).trans (eA.in n1 s6);have hpo:=pW (fR d.size x.hd.gen x.ser s) D.ok (d.base x.hd.seg+x.used);have hd':iE d (d.base x.hd.seg+x.used) (fR d.size x.hd.gen x.ser s)=rG d x s:=rfl;rw[hd'] at D6 hpo ⊢;have hap:=H.ok.ap cf;by_cases c6:(rG d x s).2=0
     ·have q6:((rG d x s).2 !=0)=false:=by rw[c6];rfl
      rw[if_neg (λe=>e c6)] at hk;have e:hM d x s=((rG d x s).1,⟨x.hd,x.slot,x.used+dL d.size s.length,x.ser+1,x.ready,false⟩,0):=by
       unfold hM;rw[if_neg (by rw[hx];decide),if_neg (by rw[cr];decide),if_neg hp0,if_neg (by rw[cf];decide),if_neg (λe=>e c6)]
      rw[e] at hwo;have L6:=WoB.of B6;have w3:IntKind.i64.wrap ((x.used:Int)+(dL d.size s.length:Int))=((x.used+dL d.size s.length:Nat):Int):=by rw[eB (by omega) (by omega)];omega
      have w4:IntKind.i64.wrap ((x.ser:Int)+1)=((x.ser+1:Nat):Int):=by rw[eB (by omega) (by omega)];omega
      simp only[eI,q6,cK.f3,cK.f4,aR.load,L6.used,w3,cC,reduceIte,cI,Nat.reduceAdd];refine aR.put B6 (o:=4) (by show 4<8;decide) rfl λh7 B7 u7=>?_;have c5:cV h7 ⟨w,0+5,none⟩=some (.int .i64 (x.ser:Int)):=B7.cell 5;simp only[cK.f4,aR.load,c5,w4,cC,reduceIte,cI,Nat.reduceAdd];refine aR.put B7 (o:=5) (by show 5<8;decide) rfl λh8 B8 u8=>?_;have B8:Bx h8 w (Wl.ocells a ⟨x.hd,x.slot,x.used+dL d.size s.length,x.ser+1,x.ready,x.broken⟩):=B8;rw[hx] at B8;have u78:=u7.trans u8;exact hk h8 (w::F6) ⟨⟨F6,rfl,B8,D6.upd u78 (kN n6),n6⟩,hwo.1,by show x.ser+1≤x.used+dL d.size s.length;omega,H.gen⟩ ⟨st6.upd.trans (u78.mono λb hb=>.inl (by simp only[iC] at hb;simp[hb])),st6.grow⟩
     ·have q6:((rG d x s).2 !=0)=true:=bne_iff_ne.2 c6;rw[if_pos c6] at hk;simp only[eI,q6,cK.f6,cC,reduceIte,cI,Nat.reduceAdd];exact aQD B6 D6 n6 (H.ok.to hpo.1 hpo.2.2.1) H.ser H.gen st6 (hap.resolve_left c6) hk
    ·have g2:((d.segs:Int)-(x.used:Int)<(dL d.size s.length:Int))=True:=eq_true (by omega);have cf:fits d x s.length=false:=by rw[hf0];exact decide_eq_false c2
     rw[if_pos cf,aEx hx (by decide)] at hk;simp only[w1,g2,cC,reduceIte,cI,Nat.reduceAdd];exact hk h3 _ (H.ext u3) (eA.ext u3)
def aJS{h:PH}{a w:Nat}{d:Dk}{x:Wl}{F:List Nat}(H:WoA a w d x h F)(s:Tx)(hs:s.length≤1000000)(hb:d.buf.length≤980000){k:cE}
  (hk:∀h' F',WoA a w (fP d x s).1 (fP d x s).2.1 h' F'->eA h F h' F'->k (.int .i64 (fP d x s).2.2) h'):bT PG oS #[pT w 0,.string (tx s)] h k:=by
 apply lW.call;unfold lW;obtain⟨Fd,rfl,B,D,n1⟩:=id H.here;obtain⟨bv,LD⟩:=D.b;have L:=WoB.of B;have hm:=D.ok.many;have h4:=H.ok.four;have hu:=H.ok.used;have hz:=D.ok.size;have hsg:d.segs≤4096:=by unfold Dk.segs;omega
 have hwo:=H.ok.check s;have hkW:=hk;unfold fP at hk;cases hx:x.broken with
 | true=>
  have lb:=L.broken;rw[hx] at lb;rw[if_pos hx] at hk;simp only[cK.f6,gR.load,lb,cC,reduceIte,cI,Nat.reduceAdd];exact hk h _ H eA.refl
 | false=>
  have lb:=L.broken;rw[hx] at lb;rw[if_neg (by rw[hx];decide)] at hk;by_cases c1:4096<s.length
  ·have g1:((4096:Int)<(s.length:Int))=True:=eq_true (by omega);rw[if_pos ((qX hz).2 c1),aEx hx (by decide)] at hk;simp only[cK.f6,gR.load,lb,iV,g1,cC,reduceIte,cI,Nat.reduceAdd];exact hk h _ H eA.refl
  ·have g1:((4096:Int)<(s.length:Int))=False:=eq_false (by omega);have hp0:dL d.size s.length≠0:=λe=>c1 ((qX hz).1 e);rw[if_neg hp0] at hk;simp only[cK.f0,cK.f6,gR.load,lb,iV,g1,eJ.load,L.disk,cO.f0,aR.load,LD.size,cC,reduceIte,cI,Nat.reduceAdd];refine aKu d.size s.length (by omega) ?_;refine⟨L.disk,?_⟩;refine aDy D (by omega) ?_;by_cases c2:d.segs<dL d.size s.length
   ·have g2:((d.segs:Int)<(dL d.size s.length:Int))=True:=eq_true (by omega);rw[if_pos c2,aEx hx (by decide)] at hk;simp only[g2,cC,reduceIte,cI,Nat.reduceAdd];exact hk h _ H eA.refl
   ·have g2:((d.segs:Int)<(dL d.size s.length:Int))=False:=eq_false (by omega);rw[if_neg c2] at hk;simp only[g2,cK.f1,L.head,cC,reduceIte,cI,Nat.reduceAdd];refine aVE x.hd H.gen λh4' u4=>?_;obtain⟨N,hN⟩:∃N,gT x.hd=N:=⟨_,rfl⟩;have hng:=aP8 H.gen;have hns:=aJu x.hd;have hnh:=aOH (h:=x.hd) hz;have hn13:N.2≠13:=by
     rw[←hN];unfold gT;split
     ·show(12:Int)≠13;decide
     ·show(0:Int)≠13;decide
    rw[hN] at hng hns hnh hk ⊢;obtain⟨N1,N2⟩:=N;simp only at hng hns hnh hk hn13;simp only[cC,reduceIte,cI,Nat.reduceAdd];intro r28 hr28
    try rw[cR]
    refine cA.fill (vs:=N1.cells) hr28 rfl N1.isC λh5 B5 u5=>?_;have e5:=u4.trans u5;by_cases c3:N2=0
    ·have q3:(N2 !=0)=false:=by rw[c3];rfl
     have L5:=WoB.of (B.ext e5);obtain⟨bv5,LD5⟩:=(D.ext e5).b;have n28:r28∉w::Fd:=λhm=>(H.ext u4).known r28 hm hr28;have n28':r28≠w∧r28∉Fd:=by simpa using n28
     have b0:cV h5 ⟨r28,0,none⟩=some (.int .u64 (N1.gen:Int)):=B5.cell 0;rw[if_neg (λe=>e c3)] at hk;simp only[eI,q3,cK.f0,eJ.load,L5.disk,cO.f0,aR.load,LD5.size,cA.f0,cJ.load,b0,cC,reduceIte,cI,Nat.reduceAdd];refine aOT d.size N1.gen 0 s hz hng (by decide) hs λh7 v G O7 f7 u7=>?_;have e7:=e5.trans u7;have L7:=WoB.of (B.ext e7);obtain⟨bv7,LD7⟩:=(D.ext e7).b;have B7:=B5.ext u7;simp only[cK.f0,eJ.load,L7.disk,cO.f0,aR.load,LD7.size,aBT B7,cC,reduceIte,cI,Nat.reduceAdd];refine aRK d.size N1 hng (by omega) λh8 u8=>?_;have e8:=e7.trans u8;have L8:=WoB.of (B.ext e8);simp only[cK.f0,eJ.load,L8.disk,aBT (B7.ext u8),cC,reduceIte,cI,Nat.reduceAdd];refine aMF (D.ext e8) (by omega) N1 hns λh9' u9=>?_;have e9:=e8.trans u9;have L9':=WoB.of (B.ext e9);refine⟨L9'.disk,?_⟩;have fl:(fR d.size N1.gen 0 s).length=dL d.size s.length:=iN ..;have hfit:=qZ d h4 hns;have dG:∀b∈G,b∉Fd:=λb hb hf=>D.known b hf (e5.none (f7 b hb));refine aKE (D.ext e9) (d.base N1.seg) (by omega) ((O7.ext u8).ext u9) dG (by omega) λh9 F9 D9 s9=>?_;obtain⟨B9,n9⟩:=(B.ext e9).step s9 n1;have st9:eA h (w::Fd) h9 (w::F9):=(eA.ext e9).trans (eA.in n1 s9);obtain⟨Bn,mn⟩:=((B7.ext u8).ext u9).step s9 n28'.2;have hpo:=pW (fR d.size N1.gen 0 s) D.ok (d.base N1.seg);have hpb:=aBi (fR d.size N1.gen 0 s) d (d.base N1.seg);have hck:=yB.ck (gen:=N1.gen) D.ok h4 hns hp0 (by omega);have hd':iE d (d.base N1.seg) (fR d.size N1.gen 0 s)=lL d N1 s:=rfl;rw[hd'] at D9 hpo hpb ⊢;have hck:(lL d N1 s).2=0∨(lL d N1 s).2=13:=hck;by_cases c4:(lL d N1 s).2=0
     ·have q4:((lL d N1 s).2 !=0)=false:=by rw[c4];rfl
      rw[if_neg (λe=>e c4)] at hk;have L9:=WoB.of B9;have hsl:=H.ok.slot;have w1:IntKind.i64.wrap ((1:Int)-(x.slot:Int))=((1-x.slot:Nat):Int):=by rw[eB (by omega) (by omega)];omega
      simp only[eI,q4,cK.f0,cK.f2,eJ.load,aR.load,L9.disk,L9.slot,w1,aGX,cC,reduceIte,cI,Nat.reduceAdd];intro r79 hr79;refine iB ?_
      try rw[cR]
      have O12:=aGb (h:=h9) (r:=r79) (fO d.size N1).1;have u12:dA h9 (h9.set r79 (.cells #[.string (tx (fO d.size N1).1)] aT)):=cX.new hr79;generalize h9.set r79 (.cells #[.string (tx (fO d.size N1).1)] aT)=h12 at *;have n79:∀b∈[r79],b∉F9:=λb hb hf=>by
       simp only[iC] at hb;rw[hb] at hf;exact D9.known r79 hf hr79
      refine aKE (D9.ext u12) (1-x.slot) (by omega) O12 n79 (by simp only[iU,kV];omega) λh13 F13 D13 s13=>?_;obtain⟨B13,n13⟩:=(B9.ext u12).step s13 n9;have st13:eA h (w::Fd) h13 (w::F13):=(st9.trans (eA.ext u12)).trans (eA.in n9 s13);obtain⟨En,en⟩:=(Bn.ext u12).step s13 mn;obtain⟨O13,-⟩:=(((O7.ext u8).ext u9).step s9 dG).1.ext u12 |>.step s13 (((O7.ext u8).ext u9).step s9 dG).2;have hpo2:=pW [(fO d.size N1).1] hpo.1 (1-x.slot);have hio:=aLH [(fO d.size N1).1] (d:=(lL d N1 s).1) (1-x.slot) (by rw[hpo.2.2.1];simp only[iU,kV];omega) (λy hy=>by
       simp only[iC] at hy;rw[hy,hpo.2.1];exact(hnh c3).2)
      obtain⟨P,hP⟩:∃P,iE (lL d N1 s).1 (1-x.slot) [(fO d.size N1).1]=P:=⟨_,rfl⟩;rw[hP] at D13 hpo2 hk hio ⊢;have geo:P.1.sectors=d.sectors:=hpo2.2.2.1.trans hpo.2.2.1;by_cases c5:P.2=0
      ·have q5:(P.2 !=0)=false:=by rw[c5];rfl
       rw[if_neg (λe=>e c5)] at hk;have eW:fP d x s=(P.1,⟨N1,1-x.slot,dL d.size s.length,1,true,false⟩,0):=by
        unfold fP;rw[if_neg (by rw[hx];decide),if_neg hp0,if_neg c2,hN];simp only;rw[if_neg (λe=>e c3),if_neg (λe=>e c4),hP,if_neg (λe=>e c5)]
       rw[eW] at hwo;simp only[eI,q5,cK.f1,cK.f2,cK.f3,cK.f4,cK.f5,aBT En,cC,reduceIte,cI,Nat.reduceAdd];refine cA.put B13 (vs:=N1.cells) (o:=1) rfl (by show 1+2≤8;decide) N1.isC λh14 B14 u14=>?_;have c14:cV h14 ⟨w,0+3,none⟩=some (.int .i64 (x.slot:Int)):=B14.cell 3;simp only[cK.f2,aR.load,c14,w1,cC,reduceIte,cI,Nat.reduceAdd];refine aR.put B14 (o:=3) (by show 3<8;decide) rfl λh15 B15 u15=>?_;simp only[aAK O13.slR,fl,cK.f3,cK.f4,cK.f5,cC,reduceIte,cI,Nat.reduceAdd];refine aR.put B15 (o:=4) (by show 4<8;decide) rfl λh16 B16 u16=>?_;refine aR.put B16 (o:=5) (by show 5<8;decide) rfl λh17 B17 u17=>?_;refine gR.put B17 (o:=6) (by show 6<8;decide) rfl λh18 B18 u18=>?_;have B18:Bx h18 w (Wl.ocells a ⟨N1,1-x.slot,dL d.size s.length,1,true,x.broken⟩):=B18;rw[hx] at B18;have uu:=(((u14.trans u15).trans u16).trans u17).trans u18;exact hk h18 (w::F13) ⟨⟨F13,rfl,B18,D13.upd uu (kN n13),n13⟩,hwo.1,by show 1≤dL d.size s.length;omega,hng⟩ ⟨st13.upd.trans (uu.mono λb hb=>.inl (by simp only[iC] at hb;simp[hb])),st13.grow⟩
      ·have q5:(P.2 !=0)=true:=bne_iff_ne.2 c5;rw[if_pos c5] at hk;simp only[eI,q5,cK.f6,cC,reduceIte,cI,Nat.reduceAdd];exact aQD B13 D13 n13 (H.ok.to hpo2.1 geo) H.ser H.gen st13 (hio.resolve_left c5) hk
     ·have q4:((lL d N1 s).2 !=0)=true:=bne_iff_ne.2 c4;rw[if_pos c4] at hk;simp only[eI,q4,cK.f6,cC,reduceIte,cI,Nat.reduceAdd];exact aQD B9 D9 n9 (H.ok.to hpo.1 hpo.2.2.1) H.ser H.gen st9 (hck.resolve_left c4) hk
    ·have q3:(N2 !=0)=true:=bne_iff_ne.2 c3;rw[if_pos c3,aEx hx hn13] at hk;simp only[eI,q3,cC,reduceIte,cI,Nat.reduceAdd];exact hk h5 _ (H.ext e5) (eA.ext e5)
def aXw(a:Nat):cB PG (build cK #[(0,pT a 0)])=some (.agg (Wl.ocells a Wl.zero).toArray):=by kernel_rfl
def aOu{h0 h:PH}{a w:Nat}{d:Dk}{hd:Hd}{slot us se:Nat}{F0 F:List Nat}(B:Bx h w (Wl.ocells a ⟨hd,slot,us,se,false,false⟩))(D:oF a d h F)(n1:w∉F)(h4:4≤d.sectors)(hs:hd.seg≤1)(h1:slot≤1)(hg:hd.gen<18446744073709551616)(hb:d.buf.length≤1000000)(st:eA h0 F0 h F)(fw:w∈F0∨h0 w=none){k:cE}
  (hk:∀h' F' v G,WoA a w d (oX d hd slot).1 h' F'->eH h' aT 1 v ((oX d hd slot).2.map jI) G->(∀b∈G,b∉F')->eA h0 F0 h' (F'++G)->k (.tuple #[pT w 0,v,.int .i64 0]) h'):wP k (pT a 0) (pT w 0) h:=by
 unfold wP;have L:=WoB.of B;have hm:=D.ok.many;have hsg:d.segs≤4096:=by unfold Dk.segs;omega
 simp only[cK.f1,L.head,cC,reduceIte,cI,Nat.reduceAdd];refine aQc D h4 hd hs hb λh7 v G O7 f7 e7=>?_;have sl:=Dk.secs_len d (d.base hd.seg) d.segs;have hle:=aJR (size:=d.size) (gen:=hd.gen) (d.segs+1) (d.secs (d.base hd.seg) d.segs) 0;have hma:=aGo (size:=d.size) (gen:=hd.gen) (d.segs+1) (d.secs (d.base hd.seg) d.segs) 0;rw[sl] at hle;have hw:(oX d hd slot)=(⟨hd,slot,(jD d.size hd.gen (d.segs+1) (d.secs (d.base hd.seg) d.segs) 0).2,(jD d.size hd.gen (d.segs+1) (d.secs (d.base hd.seg) d.segs) 0).1.length,false,false⟩,(jD d.size hd.gen (d.segs+1) (d.secs (d.base hd.seg) d.segs) 0).1):=rfl;rw[hw] at hk;have hok:yB d (oX d hd slot).1:=yB.mk' D.ok h4 hs h1;rw[hw] at hok;obtain⟨R,hR⟩:∃R,jD d.size hd.gen (d.segs+1) (d.secs (d.base hd.seg) d.segs) 0=R:=⟨_,rfl⟩;rw[hR] at hk hok O7 hle hma ⊢;have B7:=B.ext e7;have D7:=D.ext e7;simp only[cK.f3,cK.f4,cC,reduceIte,cI,Nat.reduceAdd];refine aR.put B7 (o:=4) (by show 4<8;decide) rfl λh8 B8 u8=>?_;simp only[aAK O7.slR,cK.f4,cC,reduceIte,cI,Nat.reduceAdd];refine aR.put B8 (o:=5) (by show 5<8;decide) rfl λh9 B9 u9=>?_;have B9:Bx h9 w (Wl.ocells a ⟨hd,slot,R.2,R.1.length,false,false⟩):=B9;have u89:=u8.trans u9;have nw:w∉G:=λhx=>B.known (f7 w hx);have dG:∀b∈G,b∉F:=λb hb hf=>D.known b hf (f7 b hb);refine hk h9 (w::F) v G ⟨⟨F,rfl,B9,D7.upd u89 (kN n1),n1⟩,hok,hma,hg⟩ (O7.upd u89 (kN nw)) (λb hb hm=>?_) ⟨?_,λb hb=>?_⟩
 ·rcases iW.1 hm with rfl|hm
  ·exact nw hb
  ·exact dG b hb hm
 ·exact(st.upd.trans e7.upd).then u89 (λb hb=>by
   simp only[iC] at hb;rw[hb];exact fw)
 ·simp only[zLT,iW,tK] at hb;rcases hb with rfl|hb|hb
  ·exact fw
  ·exact st.grow b hb
  ·exact st.none (f7 b hb)
def aS7{h:PH}{a:Nat}{d:Dk}{F:List Nat}(D:oF a d h F)(hb:d.buf.length≤999000){k:cE}
  (bad:∀h' F',oF a (fA d).1 h' F'->eA h F h' F'->(fA d).2.2≠0->k (.tuple #[.pointer none,.slice none 0 0,.int .i64 (fA d).2.2]) h')
  (hk:∀h' F' w v G,WoA a w (fA d).1 (fA d).2.1.1 h' F'->eH h' aT 1 v ((fA d).2.1.2.map jI) G->(∀b∈G,b∉F')->eA h F h' (F'++G)->(fA d).2.2=0->k (.tuple #[pT w 0,v,.int .i64 0]) h'):bT PG aB9 #[pT a 0] h k:=by
 apply tD.call;unfold tD;have hm:=D.ok.many;have hz:=D.ok.size;unfold fA at bad hk;obtain⟨bv,LD⟩:=D.b;by_cases c4:d.sectors<4
 ·have g:((d.sectors:Int)<4)=True:=eq_true (by omega);rw[if_pos c4] at bad;simp only[cO.f1,aR.load,LD.sectors,g,cC,reduceIte,cI,Nat.reduceAdd];exact bad h F D eA.refl (by show(1:Int)≠0;decide)
 ·have g:((d.sectors:Int)<4)=False:=eq_false (by omega);rw[if_neg c4] at bad hk;simp only[cO.f1,aR.load,LD.sectors,g,cC,reduceIte,cI,Nat.reduceAdd];refine aNS D (by omega) λh5 F5 D5 st5=>?_;by_cases c5:d.fl.2=0
  ·have q:(d.fl.2 !=0)=false:=by rw[c5];rfl
   rw[if_neg (λe=>e c5)] at bad hk;have eg:d.fl.1.size=d.size:=d.fl_geo.1;have es:d.fl.1.sectors=d.sectors:=d.fl_geo.2;have eb:d.fl.1.buf.length≤999000:=zLE (aS0 d) hb;have rd:∀n:Nat,n<d.sectors->d.fl.1.rd (n:Int)=(d.fl.1.at n,0):=λn hn=>by
    unfold Dk.rd;rw[if_neg (by omega)];rfl
   simp only[eI,q,cC,reduceIte,cI,Nat.reduceAdd];refine aLF D5 0 (by omega) ?_;rw[show d.fl.1.rd 0=(d.fl.1.at 0,0) from rd 0 (by omega)];simp only[cC,reduceIte,cI,Nat.reduceAdd];refine aLF D5 1 (by omega) ?_;rw[show d.fl.1.rd 1=(d.fl.1.at 1,0) from rd 1 (by omega)];simp only[aXw,cC,reduceIte,cI,Nat.reduceAdd];intro r17 hr17
   try rw[cR]
   have u6:dA h5 (h5.set r17 (.cells (Value.cells (.agg (Wl.ocells a Wl.zero).toArray)) cK)):=cX.new hr17;have B6:Bx (h5.set r17 (.cells (Value.cells (.agg (Wl.ocells a Wl.zero).toArray)) cK)) r17 (Wl.ocells a Wl.zero):=Bx.new;generalize h5.set r17 (.cells (Value.cells (.agg (Wl.ocells a Wl.zero).toArray)) cK)=h6 at *;have n5:r17∉F5:=λhm=>D5.known r17 hm hr17;have fw:r17∈F∨h r17=none:=st5.none hr17;have al0:=D5.ok.at_len (n:=0) (by omega);have al1:=D5.ok.at_len (n:=1) (by omega);rw[eg] at al0 al1;unfold gB at hz;obtain⟨bv6,LD6⟩:=(D5.ext u6).b;have ls:=LD6.size;rw[eg] at ls;simp only[cO.f0,aR.load,ls,aVs,cC,reduceIte,cI,Nat.reduceAdd];intro r22 hr22;refine iB ?_
   try rw[cR]
   have O9:=aPx (h:=h6) (r:=r22) (d.fl.1.at 0) (d.fl.1.at 1);have u9:dA h6 (h6.set r22 (.cells #[.string (tx (d.fl.1.at 0)),.string (tx (d.fl.1.at 1))] aT)):=cX.new hr22;generalize h6.set r22 (.cells #[.string (tx (d.fl.1.at 0)),.string (tx (d.fl.1.at 1))] aT)=h9 at *;refine aR6 d.size _ _ O9.slR (by omega) (by omega) λh10 u10=>?_;have e10:=(u6.trans u9).trans u10;have B10:=(B6.ext u9).ext u10;have D10:=D5.ext e10;have st10:=st5.trans (eA.ext (F:=F5) e10);obtain⟨N,hN⟩:∃N,jX d.size (d.fl.1.at 0) (d.fl.1.at 1)=N:=⟨_,rfl⟩;have hno:=aGc d.size (d.fl.1.at 0) (d.fl.1.at 1);have hng:=aNW d.size (d.fl.1.at 0) (d.fl.1.at 1);rw[hN] at bad hk hno hng ⊢;obtain⟨N1,N2⟩:=N;simp only[cK.f1,cK.f2,cC,reduceIte,cI,Nat.reduceAdd];refine cA.put B10 (vs:=N1.cells) (o:=1) rfl (by show 1+2≤8;decide) N1.isC λh11 B11 u11=>?_;refine aR.put B11 (o:=3) (by show 3<8;decide) rfl λh12 B12 u12=>?_;have c12:cV h12 ⟨r17,0+3,none⟩=some (.int .i64 N2):=B12.cell 3;have u112:=u11.trans u12;have D12:=D10.upd u112 (kN n5);have st12:eA h F h12 F5:=⟨st10.upd.then u112 (λb hb=>by
    simp only[iC] at hb;rw[hb];exact fw),st10.grow⟩
   by_cases c:N2<0
   ·have g:(N2<0)=True:=eq_true c;rw[if_pos c] at bad hk;simp only[cK.f1,cK.f2,aR.load,c12,g,aWo,cC,reduceIte,cI,Nat.reduceAdd];refine cA.put B12 (vs:=Hd.cells ⟨1,0⟩) (o:=1) rfl (by show 1+2≤8;decide) (Hd.isC _) λh13 B13 u13=>?_;refine aR.put B13 (o:=3) (by show 3<8;decide) rfl λh14 B14 u14=>?_;have B14:Bx h14 r17 (Wl.ocells a ⟨⟨1,0⟩,1,0,0,false,false⟩):=B14;have u134:=u13.trans u14;have D14:=D12.upd u134 (kN n5);have L14:=WoB.of B14;have st14:eA h F h14 F5:=⟨st12.upd.then u134 (λb hb=>by
     simp only[iC] at hb;rw[hb];exact fw),st12.grow⟩
    obtain⟨bv14,LD14⟩:=D14.b;have ls:=LD14.size;rw[eg] at ls;simp only[cO.f0,aR.load,ls,cK.f1,L14.head,cC,reduceIte,cI,Nat.reduceAdd];refine aRK d.size ⟨1,0⟩ (by decide) (by decide) λh16 e16=>?_;simp only[aGX,cC,reduceIte,cI,Nat.reduceAdd];intro r61 hr61;refine iB ?_
    try rw[cR]
    have O17:=aGb (h:=h16) (r:=r61) (fO d.size ⟨1,0⟩).1;have u17:dA h16 (h16.set r61 (.cells #[.string (tx (fO d.size ⟨1,0⟩).1)] aT)):=cX.new hr61;generalize h16.set r61 (.cells #[.string (tx (fO d.size ⟨1,0⟩).1)] aT)=h17 at *;have e17:=e16.trans u17;have n61:∀b∈[r61],b∉F5:=λb hb hf=>by
     simp only[iC] at hb;rw[hb] at hf;exact D14.known r61 hf (e16.none hr61)
    refine aKE (D14.ext e17) 1 (by decide) O17 n61 (by simp only[iU,kV];omega) λh18 F18 D18 s18=>?_;obtain⟨B18,n18⟩:=(B14.ext e17).step s18 n5;have st18:=(st14.trans (eA.ext e17)).trans s18;obtain⟨P,hP⟩:∃P,iE d.fl.1 1 [(fO d.size ⟨1,0⟩).1]=P:=⟨_,rfl⟩;have hpo:=pW [(fO d.size ⟨1,0⟩).1] D5.ok 1;have hpb:=aBi [(fO d.size ⟨1,0⟩).1] d.fl.1 1;rw[hP] at bad hk D18 hpo hpb ⊢;by_cases c6:P.2=0
    ·have q6:(P.2 !=0)=false:=by rw[c6];rfl
     rw[if_neg (λe=>e c6)] at hk;simp only[eI,q6,cC,reduceIte,cI,Nat.reduceAdd];simp only[iU,kV] at hpb;refine aOu B18 D18 n18 (by rw[hpo.2.2.1];omega) (by decide) (by decide) (by decide) (by omega) st18 fw λh' F' v G W O dj st=>?_;exact hk h' F' r17 v G W O dj st rfl
    ·have q6:(P.2 !=0)=true:=bne_iff_ne.2 c6;rw[if_pos c6] at bad;simp only[eI,q6,cC,reduceIte,cI,Nat.reduceAdd];exact bad h18 F18 D18 st18 c6
   ·have g:(N2<0)=False:=eq_false c;rw[if_neg c] at hk;simp only[cK.f2,aR.load,c12,g,cC,reduceIte,cI,Nat.reduceAdd];have en:N2=((N2.toNat:Nat):Int):=by omega
    have B12:Bx h12 r17 (Wl.ocells a ⟨N1,N2.toNat,0,0,false,false⟩):=by
     rw[en] at B12;exact B12
    refine aOu B12 D12 n5 (by rw[es];omega) hno.1 (by have:=hno.2;simp only at this;omega) hng (by omega) st12 fw λh' F' v G W O dj st=>?_;exact hk h' F' r17 v G W O dj st rfl
  ·have q:(d.fl.2 !=0)=true:=bne_iff_ne.2 c5;rw[if_pos c5] at bad;simp only[eI,q,cC,reduceIte,cI,Nat.reduceAdd];exact bad h5 F5 D5 st5 c5
def aOL{h:PH}{q:Pl}(w:q.wf){k:cE}(hbad:¬jU q->∀h',dA h h'->k (.tuple #[.string (tx []),.int .i64 1]) h')(hk:jU q->∀h',dA h h'->k (.tuple #[.string (tx q.bs),.int .i64 0]) h'):bT PG nE #[.agg q.cells.toArray] h k:=by
 apply rQ.call;unfold rQ;intro r hr
 try rw[cR]
 have u1:dA h (h.set r (.cells (Value.cells (.agg q.cells.toArray)) cG)):=cX.new hr;have B1:Bx (h.set r (.cells (Value.cells (.agg q.cells.toArray)) cG)) r q.cells:=Bx.new;generalize h.set r (.cells (Value.cells (.agg q.cells.toArray)) cG)=h1 at *;have l0:∀{h':PH},dA h1 h'->cD PG h' (loadAt cJ (pT r 0))=some (.int .u64 q.h):=λu=>by rw[cJ.load,(B1.ext u).cell];rfl
 have l1:∀{h':PH},dA h1 h'->cD PG h' (loadAt aR (pT r 1))=some (.int .i64 q.i):=λu=>by rw[aR.load,(B1.ext u).cell];rfl
 have q0:({data:=#[]}:ByteArray)=tx []:=rfl;by_cases h0:q.i<0
 ·have g:=eq_true h0;simp only[cG.f1,l1 cX.refl,g,q0,cC,reduceIte,cI,Nat.reduceAdd];exact hbad (λc=>by have:=c.1;omega) _ u1
 have g:=eq_false h0;by_cases h2:65535<q.i
 ·have g2:=eq_true h2;simp only[cG.f1,l1 cX.refl,g,g2,q0,cC,reduceIte,cI,Nat.reduceAdd];exact hbad (λc=>by have:=c.2;omega) _ u1
 have g2:=eq_false h2;have hk:=hk ⟨by omega,by omega⟩;obtain⟨H,i⟩:=q;obtain⟨w1,w2⟩:=w;simp only at *;obtain⟨H,rfl⟩:=zLm w1;obtain⟨i,rfl⟩:=zLm (Int.not_lt.1 h0);have c1:IntKind.u64.wrap (i:Int)=(i:Int):=kI (by omega) (by omega);simp only[cG.f1,cG.f0,l1 cX.refl,l0 cX.refl,g,g2,aEv,c1,cC,reduceIte,cI,Nat.reduceAdd];refine mJ (by omega) (by decide) λh2 u2=>?_;simp only[l1 u2,eq_self,true_and];refine mJ (by omega) (by decide) λh3 u3=>?_;rw[jW (by simp only[hY];decide)];simp only[cC,reduceIte,cI,Nat.reduceAdd];unfold Pl.bs at hk;exact hk _ (u1.trans (u2.trans u3))
def aAp{i:It}:i.right=true↔aEQ i:=by
 unfold It.right aEQ;simp only[sU,aHE,decide_eq_true_eq];constructor
 ·rintro⟨a,b⟩;exact⟨by omega,by omega,b⟩
 ·rintro⟨a,b,c⟩;exact⟨by omega,c⟩
def aAr{i:Nt}:i.right=true↔aFD i:=by
 unfold Nt.right aFD;simp only[sU,decide_eq_true_eq,and_assoc]
def aXT{x:Int×Pk}(h:x.2.right=true):(aDa x).length≤84:=by
 have:=(Pk.right_iff.1 h).2.2.2.2;simp only[aDa,Pk.bs,jM,hY,aH8];omega
def aLw(l:List (Int×Pk))(x:Int×Pk):lN (l++[x])=lN l++aDa x:=by
 induction l with
 | nil=>simp[lN]
 | cons y l ih=>simp[lN,ih]
def aF4:∀{l:List (Int×Pk)},(∀x∈l,x.2.right=true)->(lN l).length≤84*l.length
 | [],_=>by simp[lN]
 | x::l,h=>by
  have h1:=aXT (h x (by simp));have h2:=aF4 (l:=l) λy hy=>h y (by simp[hy]);simp only[lN,jM,iU];omega
def aOR{h:PH}{v:Value}{l:List It}(V:iH h 5 v (l.map It.cells))(hl:l.length≤100000)(w:∀i∈l,i.p.wf){k:cE}
  (hbad:¬(l.length≤255∧∀i∈l,i.right=true)->∀h',dA h h'->k (.tuple #[.string (tx []),.int .i64 1]) h') (hk:l.length≤255->(∀i∈l,i.right=true)->∀h',dA h h'->k (.tuple #[.string (tx (sP (l.map It.x))),.int .i64 0]) h'):
  bT PG rV #[v] h k:=by
 have lx:=V.len (t':=aR) bZ.und;rw[iL] at lx;have q0:({data:=#[]}:ByteArray)=tx []:=rfl;apply sE.call;unfold sE;by_cases h2:255<l.length
 ·have g:((255:Int)<(l.length:Int))=True:=eq_true (by omega);simp only[lx,g,q0,cC,reduceIte,cI,Nat.reduceAdd];exact hbad (λc=>by have:=c.1;omega) _ cX.refl
 have g:((255:Int)<(l.length:Int))=False:=eq_false (by omega);have c1:IntKind.u64.wrap (l.length:Int)=(l.length:Int):=kI (by omega) (by omega);simp only[lx,g,aEv,c1,cC,reduceIte,cI,Nat.reduceAdd];refine mJ (by omega) (by decide) λh2 u2=>?_;refine⟨λvs h'=>∃i:Nat,i≤l.length∧vs=[v,.string (tx (be l.length 1++lN ((l.take i).map It.x))),.int .i64 (i:Int)]∧dA h h'∧∀y∈l.take i,y.right=true,fT l.length 2,⟨0,by omega,by simp[lN],u2,by simp⟩,?_⟩;rintro ρ h' ⟨i,hi,hvs,u,hr⟩;simp only[iG,jB,kZ,and_true] at hvs;obtain⟨e0,e1,e2⟩:=hvs;unfold aEm;rw[e0,e1,e2];by_cases hlt:i<l.length
 ·have hd:((i:Int)<(l.length:Int))=True:=by apply eq_true;omega
  obtain⟨m,hm⟩:∃m,l[i]? =some m:=⟨_,kF hlt⟩;have hmem:m∈l:=zX hm;have look:∃b o,cB PG (indexAt bZ v (.int .i64 (i:Int)))=some (pT b o)∧∀{h'':PH},dA h h''->cD PG h'' (loadAt cF (pT b o))=some (m.val)∧cD PG h'' (loadAt aR (pT b (o+4)))=some (.int .i64 m.g)∧cD PG h'' (loadAt bX (pT b o))=some (.agg m.p.cells.toArray):=by
   obtain⟨b,o,cs,e',fr,h1,hb,hle,hex⟩:=V.at bZ.und cF.info cF.size (k:=.i64) (j:=(i:Int)) (r:=m.cells) (by omega) (by rw[wG,xK,hm];rfl);have hd:∀i n,i+n≤5->(cs.extract (o+i) (o+i+n)).toList=(m.cells.drop i).take n:=λi n hi=>by
    rw[←hex];simp only[zLD,zLx,aCb,zLy,qK,aI0];congr 1;omega
   refine⟨b,o,h1,fun {h''} u=>?_⟩;have hb':=u.get hb;refine⟨?_,?_,?_⟩
   ·rw[cF.loadAgg hb' hle];congr 2;exact zLw (hd 0 5 (by decide))
   ·rw[aR.load];unfold cV;simp only[hb'];have:=congrArg (λl:List Value=>l[0]?) (hd 4 1 (by decide));simp only[zLD,zLx,zLP,aCb,aDn,aJs] at this;simpa[It.cells,Pk.cells] using this
   ·rw[bX.loadAgg hb' (by omega)];congr 2;exact zLw (hd 0 4 (by decide))
  obtain⟨b,o,a1,a2⟩:=look;have ei:=nR (i:=i) (by omega);have wm:=w m hmem;simp only[lx,hd,a1,(a2 u).1,cC,reduceIte,cI,Nat.reduceAdd];refine aMy m wm.1 wm.2.2.1 λh3 u3=>?_;have e3:=u.trans u3;by_cases hm2:m.right=true
  ·have ok:=aAp.1 hm2;have hp:m.p.right=true:=ok.2.2;obtain⟨n,hn⟩:∃n:Nat,m.g=(n:Int):=zLm (by have:=ok.1;omega);have ex:m.x=((n:Int),m.p):=by rw[aNy ok,hn]
   have hn':n≤255:=by have:=ok.2.1;omega
   have c2:IntKind.u64.wrap (n:Int)=(n:Int):=kI (by omega) (by omega);have hlen:(lN ((l.take i).map It.x)).length≤84*255:=by
    have:=aF4 (l:=(l.take i).map It.x) (by
     simp only[aJC];intro y hy;have oy:=aAp.1 (hr y hy);rw[aNy oy];exact oy.2.2)
    rw[iL,lU] at this;omega
   simp only[hm2,cF.f0,cF.f1,(a2 e3).2.1,(a2 e3).2.2,hn,aEv,c2,cC,reduceIte,cI,Nat.reduceAdd];refine mJ (by omega) (by decide) λh4 u4=>?_;have e4:=e3.trans u4;have s1:cB PG (binOp .add aT (.string (tx (be l.length 1++lN ((l.take i).map It.x)))) (.string (tx (be n 1))))=some (.string (tx ((be l.length 1++lN ((l.take i).map It.x))++be n 1))):=jW (by simp only[hY,jM];omega);simp only[(a2 e4).2.2,s1,eq_self,true_and,cC,reduceIte,cI,Nat.reduceAdd];refine aNQ wm hp λh5 u5=>?_;have hpl:m.p.bs.length≤84:=by
    have:=(Pk.right_iff.1 hp).2.2.2.2;simp only[Pk.bs,jM,hY,aH8];omega
   have s2:cB PG (binOp .add aT (.string (tx ((be l.length 1++lN ((l.take i).map It.x))++be n 1))) (.string (tx m.p.bs)))=some (.string (tx (be l.length 1++lN ((l.take (i+1)).map It.x)))):=by
    rw[jW (by simp only[hY,jM];omega),zLR,hm];simp only[Option.toList,xJ,iG,jB,aLw,ex,aDa,xK,uS]
   simp only[s2,ei,cC,reduceIte,cI,Nat.reduceAdd];refine⟨⟨i+1,by omega,rfl,e4.trans u5,λy hy=>?_⟩,by simp[fT,e2];omega⟩;rw[zLR,hm] at hy;rcases tK.1 hy with hy|hy
   ·exact hr y hy
   ·simp at hy;subst hy;exact hm2
  ·have hf:m.right=false:=by simpa using hm2
   simp only[hf,q0,cC,reduceIte,cI,Nat.reduceAdd];exact hbad (λc=>hm2 (c.2 m hmem)) _ e3
 ·have hd:((i:Int)<(l.length:Int))=False:=by apply eq_false;omega
  rw[sK (by omega)] at hr e1 ⊢;simp only[lx,hd,cC,reduceIte,cI,Nat.reduceAdd];have hk:=hk (by omega) hr _ u;unfold sP at hk;rw[iL] at hk;exact hk
def aOE{h:PH}{v:Value}{l:List Nt}(V:iH h 5 v (l.map Nt.cells))(hl:l.length≤100000)(w:∀i∈l,i.p.wf){k:cE}
  (hbad:¬(l.length≤255∧∀i∈l,i.right=true)->∀h',dA h h'->k (.tuple #[.string (tx []),.int .i64 1]) h') (hk:l.length≤255->(∀i∈l,i.right=true)->∀h',dA h h'->k (.tuple #[.string (tx (sP (l.map Nt.x))),.int .i64 0]) h'):
  bT PG rT #[v] h k:=by
 have lx:=V.len (t':=aR) cZ.und;rw[iL] at lx;have q0:({data:=#[]}:ByteArray)=tx []:=rfl;apply rL.call;unfold rL;by_cases h2:255<l.length
 ·have g:((255:Int)<(l.length:Int))=True:=eq_true (by omega);simp only[lx,g,q0,cC,reduceIte,cI,Nat.reduceAdd];exact hbad (λc=>by have:=c.1;omega) _ cX.refl
 have g:((255:Int)<(l.length:Int))=False:=eq_false (by omega);have c1:IntKind.u64.wrap (l.length:Int)=(l.length:Int):=kI (by omega) (by omega);simp only[lx,g,aEv,c1,cC,reduceIte,cI,Nat.reduceAdd];refine mJ (by omega) (by decide) λh2 u2=>?_;refine⟨λvs h'=>∃i:Nat,i≤l.length∧vs=[v,.string (tx (be l.length 1++lN ((l.take i).map Nt.x))),.int .i64 (i:Int)]∧dA h h'∧∀y∈l.take i,y.right=true,fT l.length 2,⟨0,by omega,by simp[lN],u2,by simp⟩,?_⟩;rintro ρ h' ⟨i,hi,hvs,u,hr⟩;simp only[iG,jB,kZ,and_true] at hvs;obtain⟨e0,e1,e2⟩:=hvs;unfold aEn;rw[e0,e1,e2];by_cases hlt:i<l.length
 ·have hd:((i:Int)<(l.length:Int))=True:=by apply eq_true;omega
  obtain⟨m,hm⟩:∃m,l[i]? =some m:=⟨_,kF hlt⟩;have hmem:m∈l:=zX hm;have look:∃b o,cB PG (indexAt cZ v (.int .i64 (i:Int)))=some (pT b o)∧∀{h'':PH},dA h h''->cD PG h'' (loadAt cL (pT b o))=some (.agg m.cells.toArray)∧cD PG h'' (loadAt aR (pT b o))=some (.int .i64 m.k)∧cD PG h'' (loadAt bX (pT b (o+1)))=some (.agg m.p.cells.toArray):=by
   obtain⟨b,o,cs,e',fr,h1,hb,hle,hex⟩:=V.at cZ.und cL.info cL.size (k:=.i64) (j:=(i:Int)) (r:=m.cells) (by omega) (by rw[wG,xK,hm];rfl);have hd:∀i n,i+n≤5->(cs.extract (o+i) (o+i+n)).toList=(m.cells.drop i).take n:=λi n hi=>by
    rw[←hex];simp only[zLD,zLx,aCb,zLy,qK,aI0];congr 1;omega
   refine⟨b,o,h1,fun {h''} u=>?_⟩;have hb':=u.get hb;refine⟨?_,?_,?_⟩
   ·rw[cL.loadAgg hb' hle];congr 2;exact zLw (hd 0 5 (by decide))
   ·rw[aR.load];unfold cV;simp only[hb'];have:=congrArg (λl:List Value=>l[0]?) (hd 0 1 (by decide));simp only[zLD,zLx,zLP,aCb,aDn,aJs] at this;simpa[Nt.cells,Pk.cells] using this
   ·rw[bX.loadAgg hb' (by omega)];congr 2;exact zLw (hd 1 4 (by decide))
  obtain⟨b,o,a1,a2⟩:=look;have ei:=nR (i:=i) (by omega);have wm:=w m hmem;simp only[lx,hd,a1,(a2 u).1,cC,reduceIte,cI,Nat.reduceAdd];refine aMe m wm.1 wm.2.2.1 λh3 u3=>?_;have e3:=u.trans u3;by_cases hm2:m.right=true
  ·have ok:=aAr.1 hm2;have hp:m.p.right=true:=ok.2.2;obtain⟨n,hn⟩:∃n:Nat,m.k=(n:Int):=zLm (by have:=ok.1;omega);have ex:m.x=((n:Int),m.p):=by rw[aNZ ok,hn]
   have hn':n≤255:=by have:=ok.2.1;omega
   have c2:IntKind.u64.wrap (n:Int)=(n:Int):=kI (by omega) (by omega);have hlen:(lN ((l.take i).map Nt.x)).length≤84*255:=by
    have:=aF4 (l:=(l.take i).map Nt.x) (by
     simp only[aJC];intro y hy;have oy:=aAr.1 (hr y hy);rw[aNZ oy];exact oy.2.2)
    rw[iL,lU] at this;omega
   simp only[hm2,cL.f0,cL.f1,(a2 e3).2.1,(a2 e3).2.2,hn,aEv,c2,cC,reduceIte,cI,Nat.reduceAdd];refine mJ (by omega) (by decide) λh4 u4=>?_;have e4:=e3.trans u4;have s1:cB PG (binOp .add aT (.string (tx (be l.length 1++lN ((l.take i).map Nt.x)))) (.string (tx (be n 1))))=some (.string (tx ((be l.length 1++lN ((l.take i).map Nt.x))++be n 1))):=jW (by simp only[hY,jM];omega);simp only[(a2 e4).2.2,s1,eq_self,true_and,cC,reduceIte,cI,Nat.reduceAdd];refine aNQ wm hp λh5 u5=>?_;have hpl:m.p.bs.length≤84:=by
    have:=(Pk.right_iff.1 hp).2.2.2.2;simp only[Pk.bs,jM,hY,aH8];omega
   have s2:cB PG (binOp .add aT (.string (tx ((be l.length 1++lN ((l.take i).map Nt.x))++be n 1))) (.string (tx m.p.bs)))=some (.string (tx (be l.length 1++lN ((l.take (i+1)).map Nt.x)))):=by
    rw[jW (by simp only[hY,jM];omega),zLR,hm];simp only[Option.toList,xJ,iG,jB,aLw,ex,aDa,xK,uS]
   simp only[s2,ei,cC,reduceIte,cI,Nat.reduceAdd];refine⟨⟨i+1,by omega,rfl,e4.trans u5,λy hy=>?_⟩,by simp[fT,e2];omega⟩;rw[zLR,hm] at hy;rcases tK.1 hy with hy|hy
   ·exact hr y hy
   ·simp at hy;subst hy;exact hm2
  ·have hf:m.right=false:=by simpa using hm2
   simp only[hf,q0,cC,reduceIte,cI,Nat.reduceAdd];exact hbad (λc=>hm2 (c.2 m hmem)) _ e3
 ·have hd:((i:Int)<(l.length:Int))=False:=by apply eq_false;omega
  rw[sK (by omega)] at hr e1 ⊢;simp only[lx,hd,cC,reduceIte,cI,Nat.reduceAdd];have hk:=hk (by omega) hr _ u;unfold sP at hk;rw[iL] at hk;exact hk
def ixQ{r o i:Nat}(hi:i<2):cB PG (indexAt cU (pT r o) (.int .i64 (i:Int)))=some (pT r (o+i*2)):=by
 have ix:=tJ (P:=PG) (t:=cU) (b:=r) (o:=o) (k:=.i64) (j:=(i:Int)) cU.und cG.info cG.size (by omega) (by omega);rw[ix,xK]
def aXm{r o:Nat}:cB PG (indexAt cU (pT r o) (.int .i64 0))=some (pT r o):=ixQ (i:=0) (by decide)
def aXo{r o:Nat}:cB PG (indexAt cU (pT r o) (.int .i64 1))=some (pT r (o+2)):=ixQ (i:=1) (by decide)
def lO.neq{h:PH}{x y:Operand}(p q p' q':Pl):cD PG h (fV .neq cU x y (lO p q) (lO p' q'))=some (.bool (!decide (p=p'∧q=q'))):=by
 refine aKd (by kernel_rfl) ?_;rw[aNR cU.und cG.info cG.size (λj=>if j=0 then decide (p=p') else decide (q=q'))]
 ·congr 1;simp[List.range,List.range.loop]
 ·intro j hj;have:j=0∨j=1:=by omega
  rcases this with rfl|rfl
  ·exact⟨_,_,aAv cG.und rfl cG.info cG.size,aAv cG.und rfl cG.info cG.size,Pl.eqIn (d:=9997) p p'⟩
  ·exact⟨_,_,aAv cG.und rfl cG.info cG.size,aAv cG.und rfl cG.info cG.size,Pl.eqIn (d:=9997) q q'⟩
def aJc{h:PH}{q:Pl}(w:q.wf){k:cE}(hk:∀h' s e,(e=0∧jU q∨e=1∧¬jU q)->s.length≤100000->dA h h'->k (.tuple #[.string (tx s),.int .i64 e]) h'):bT PG nE #[.agg q.cells.toArray] h k:=
 aOL w (λc h' u=>hk h' [] 1 (.inr ⟨rfl,c⟩) (by simp) u) (λc h' u=>hk h' _ 0 (.inl ⟨rfl,c⟩) (by simp[Pl.bs,hY]) u)
def aSf{h:PH}{v:Value}{l:List It}(V:iH h 5 v (l.map It.cells))(hl:l.length≤100000)(w:∀i∈l,i.p.wf){k:cE}
  (hk:∀h' s e,(e=0∧(∀i∈l,aEQ i)∨e=1∧¬(l.length≤255∧∀i∈l,aEQ i))->s.length≤100000->dA h h'->k (.tuple #[.string (tx s),.int .i64 e]) h'):bT PG rV #[v] h k:=
 aOR V hl w (λc h' u=>hk h' [] 1 (.inr ⟨rfl,λd=>c ⟨d.1,λi hi=>aAp.2 (d.2 i hi)⟩⟩) (by simp) u) (λc d h' u=>hk h' _ 0 (.inl ⟨rfl,λi hi=>aAp.1 (d i hi)⟩) (by
  have:=aF4 (l:=l.map It.x) (by
   simp only[aJC];intro y hy;rw[aNy (aAp.1 (d y hy))];exact(aAp.1 (d y hy)).2.2)
  simp only[sP,jM,hY,iL] at *;omega) u)
def aSn{h:PH}{v:Value}{l:List Nt}(V:iH h 5 v (l.map Nt.cells))(hl:l.length≤100000)(w:∀i∈l,i.p.wf){k:cE}
  (hk:∀h' s e,(e=0∧(∀i∈l,aFD i)∨e=1∧¬(l.length≤255∧∀i∈l,aFD i))->s.length≤100000->dA h h'->k (.tuple #[.string (tx s),.int .i64 e]) h'):bT PG rT #[v] h k:=
 aOE V hl w (λc h' u=>hk h' [] 1 (.inr ⟨rfl,λd=>c ⟨d.1,λi hi=>aAr.2 (d.2 i hi)⟩⟩) (by simp) u) (λc d h' u=>hk h' _ 0 (.inl ⟨rfl,λi hi=>aAr.1 (d i hi)⟩) (by
  have:=aF4 (l:=l.map Nt.x) (by
   simp only[aJC];intro y hy;rw[aNZ (aAr.1 (d y hy))];exact(aAr.1 (d y hy)).2.2)
  simp only[sP,jM,hY,iL] at *;omega) u)
def aSs{h:PH}{r:Rc}{v vn:Value}(V:jT h v r.s.its)(VN:wN h vn r.ns)(wf:r.wf)(hi:r.s.its.length≤100000)(hn:r.ns.length≤100000){k:cE}
  (hk:∀h' s e,(e=0∧yI r∨e=1∧¬yI r)->dA h h'->k (.tuple #[.string (tx s),.int .i64 e]) h'):bT PG pF #[r.v v vn] h k:=by
 apply rS.call;unfold rS;intro r1 hr1
 try rw[cR]
 have u1:dA h (h.set r1 (.cells (Value.cells (r.v v vn)) bW)):=cX.new hr1;have B1:Bx (h.set r1 (.cells (Value.cells (r.v v vn)) bW)) r1 (r.cells v vn):=Bx.new;generalize h.set r1 (.cells (Value.cells (r.v v vn)) bW)=h1 at *;have q0:({data:=#[]}:ByteArray)=tx []:=rfl;have q1:({data:=#[1]}:ByteArray)=tx [1]:=rfl;have q2:({data:=#[2]}:ByteArray)=tx [2]:=rfl;have lk:∀{h':PH},dA h1 h'->cD PG h' (loadAt aR (pT r1 0))=some (.int .i64 r.k):=λu=>by rw[aR.load,(B1.ext u).cell];rfl
 have lp0:∀{h':PH},dA h1 h'->cD PG h' (loadAt cG (pT r1 1))=some (.agg r.s.p0.cells.toArray):=λu=>aCR (B1.ext u) rfl;have lp1:∀{h':PH},dA h1 h'->cD PG h' (loadAt cG (pT r1 3))=some (.agg r.s.p1.cells.toArray):=λu=>aCR (B1.ext u) rfl;have ltw:∀{h':PH},dA h1 h'->cD PG h' (loadAt cU (pT r1 1))=some (lO r.s.p0 r.s.p1):=λu=>aIM (B1.ext u) rfl;have lit:∀{h':PH},dA h1 h'->cD PG h' (loadAt bZ (pT r1 5))=some v:=λu=>by rw[bZ.load,(B1.ext u).cell];rfl
 have lch:∀{h':PH},dA h1 h'->cD PG h' (loadAt aR (pT r1 6))=some (.int .i64 r.ch):=λu=>by rw[aR.load,(B1.ext u).cell];rfl
 have lpl:∀{h':PH},dA h1 h'->cD PG h' (loadAt cG (pT r1 7))=some (.agg r.pl.cells.toArray):=λu=>aCR (B1.ext u) rfl;have lph:∀{h':PH},dA h1 h'->cD PG h' (loadAt cJ (pT r1 7))=some (.int .u64 r.pl.h):=λu=>by rw[cJ.load,(B1.ext u).cell];rfl
 have lpi:∀{h':PH},dA h1 h'->cD PG h' (loadAt aR (pT r1 8))=some (.int .i64 r.pl.i):=λu=>by rw[aR.load,(B1.ext u).cell];rfl
 have lns:∀{h':PH},dA h1 h'->cD PG h' (loadAt cZ (pT r1 9))=some vn:=λu=>by rw[cZ.load,(B1.ext u).cell];rfl
 have li:=It.len V;have ln:=Nt.len VN;by_cases k1:r.k=1
 ·have kk:(r.k==1)=true:=by simp[k1]
  have notok:∀{h':PH},dA h1 h'->¬yI r->k (.tuple #[.string (tx []),.int .i64 1]) h':=λu c=>hk _ [] 1 (.inr ⟨rfl,c⟩) (u1.trans u);simp only[bW.f0,bW.f1,bR.f0,bR.f1,aXm,aXo,iZ,Nat.reduceAdd,lk cX.refl,gA,kk,lp0 cX.refl,cC,reduceIte,cI,Nat.reduceAdd];refine aJc wf.s.a λh2 s0 e0 c0 g0 u2=>?_;simp only[lp1 u2,cC,reduceIte,cI,Nat.reduceAdd];refine aJc wf.s.b λh3 s1 e1 c1 g1 u3=>?_;have e3:=u2.trans u3;simp only[lit e3,cC,reduceIte,cI,Nat.reduceAdd];refine aSf (V.ext (u1.trans e3)) hi wf.s.i λh4 s2 e2 c2 g2 u4=>?_;have e4:=e3.trans u4;rcases c0 with⟨rfl,c0⟩|⟨rfl,c0⟩
  case inr=>
   have n1:((1:Int) !=0)=true:=by decide
   simp only[eI,n1,q0,cC,reduceIte,cI,Nat.reduceAdd];exact notok e4 λc=>c0 (c.a k1).1
  rcases c1 with⟨rfl,c1⟩|⟨rfl,c1⟩
  case inr=>
   have n1:((1:Int) !=0)=true:=by decide
   simp only[eI,n1,q0,cC,reduceIte,cI,Nat.reduceAdd];exact notok e4 λc=>c1 (c.a k1).2.1
  rcases c2 with⟨rfl,c2⟩|⟨rfl,c2⟩
  case inr=>
   have n1:((1:Int) !=0)=true:=by decide
   simp only[eI,n1,q0,cC,reduceIte,cI,Nat.reduceAdd];exact notok e4 λc=>c2 ⟨by have:=(xM c.plain k1).2.2.2;omega,(c.a k1).2.2⟩
  by_cases d1:40<r.s.its.length
  ·have g:((40:Int)<(r.s.its.length:Int))=True:=eq_true (by omega);simp only[eI,bW.f1,bR.f1,lit e4,li,g,q0,iZ,Nat.reduceAdd,cC,reduceIte,cI,Nat.reduceAdd];exact notok e4 λc=>by have:=(xM c.plain k1).2.2.2;omega
  have g:((40:Int)<(r.s.its.length:Int))=False:=eq_false (by omega);by_cases d2:r.ch=0
  case neg=>
   have g2:(r.ch !=0)=true:=by simp[d2]
   simp only[eI,bW.f1,bW.f2,bR.f1,lit e4,li,g,lch e4,g2,q0,iZ,Nat.reduceAdd,cC,reduceIte,cI,Nat.reduceAdd];exact notok e4 λc=>d2 (xM c.plain k1).1
  have g2:(r.ch !=0)=false:=by simp[d2]
  by_cases d3:r.pl.h=0
  case neg=>
   have g3:(r.pl.h !=0)=true:=by simp[d3]
   simp only[eI,bW.f1,bW.f2,bW.f3,bR.f1,cG.f0,lit e4,li,g,lch e4,g2,lph e4,g3,q0,iZ,Nat.reduceAdd,cC,reduceIte,cI,Nat.reduceAdd];exact notok e4 λc=>d3 (by rw[(xM c.plain k1).2.1];rfl)
  have g3:(r.pl.h !=0)=false:=by simp[d3]
  by_cases d4:r.pl.i=0
  case neg=>
   have g4:(r.pl.i !=0)=true:=by simp[d4]
   simp only[eI,bW.f1,bW.f2,bW.f3,bR.f1,cG.f0,cG.f1,lit e4,li,g,lch e4,g2,lph e4,g3,lpi e4,g4,q0,iZ,Nat.reduceAdd,cC,reduceIte,cI,Nat.reduceAdd];exact notok e4 λc=>d4 (by rw[(xM c.plain k1).2.1];rfl)
  have g4:(r.pl.i !=0)=false:=by simp[d4]
  by_cases d5:0<r.ns.length
  ·have g5:((0:Int)<(r.ns.length:Int))=True:=eq_true (by omega);simp only[eI,bW.f1,bW.f2,bW.f3,bW.f4,bR.f1,cG.f0,cG.f1,lit e4,li,g,lch e4,g2,lph e4,g3,lpi e4,g4,lns e4,ln,g5,q0,iZ,Nat.reduceAdd,cC,reduceIte,cI,Nat.reduceAdd];exact notok e4 λc=>by rw[(xM c.plain k1).2.2.1] at d5;simp at d5
  have g5:((0:Int)<(r.ns.length:Int))=False:=eq_false (by omega);have ok:yI r:=by
   refine⟨?_,λ_=>⟨c0,c1,c2⟩,λh2=>by rw[k1] at h2;cases h2⟩;unfold Rc.plain;rw[if_pos k1];have e5:r.ns.length=0:=by omega
   have e6:r.pl=Pl.zero:=by
    have:∀q:Pl,q.h=0->q.i=0->q=Pl.zero:=λq a b=>by
     obtain⟨x,y⟩:=q;simp only at a b;subst a b;rfl
    exact this _ d3 d4
   simp only[d2,e5,e6,decide_true,Bool.and_true,zLo,decide_eq_true_eq];omega
  have a1:cB PG (binOp .add aT (.string (tx [1])) (.string (tx s0)))=some (.string (tx ([1]++s0))):=jW (by simp only[iU,kV];omega);have a2:cB PG (binOp .add aT (.string (tx ([1]++s0))) (.string (tx s1)))=some (.string (tx (([1]++s0)++s1))):=jW (by simp only[jM,iU,kV];omega);have a3:cB PG (binOp .add aT (.string (tx (([1]++s0)++s1))) (.string (tx s2)))=some (.string (tx ((([1]++s0)++s1)++s2))):=jW (by simp only[jM,iU,kV];omega);simp only[eI,bW.f1,bW.f2,bW.f3,bW.f4,bR.f1,cG.f0,cG.f1,lit e4,li,g,lch e4,g2,lph e4,g3,lpi e4,g4,lns e4,ln,g5,q1,a1,a2,a3,iZ,Nat.reduceAdd,cC,reduceIte,cI,Nat.reduceAdd];exact hk _ _ 0 (.inl ⟨rfl,ok⟩) (u1.trans e4)
 have kk:(r.k==1)=false:=by simp[k1]
 by_cases k2:r.k=2
 case neg=>
  have kk2:(r.k==2)=false:=by simp[k2]
  simp only[bW.f0,lk cX.refl,gA,kk,kk2,q0,cC,reduceIte,cI,Nat.reduceAdd];exact hk _ _ 1 (.inr ⟨rfl,λc=>by have:=(rW c.plain k1).1;exact k2 this⟩) u1
 have kk2:(r.k==2)=true:=by simp[k2]
 have notok:∀{h':PH},dA h1 h'->¬yI r->k (.tuple #[.string (tx []),.int .i64 1]) h':=λu c=>hk _ [] 1 (.inr ⟨rfl,c⟩) (u1.trans u);simp only[bW.f0,bW.f3,lk cX.refl,gA,kk,kk2,lpl cX.refl,iZ,cC,reduceIte,cI,Nat.reduceAdd];refine aJc wf.pl λh2 s0 e0 c0 g0 u2=>?_;simp only[bW.f4,lns u2,iZ,cC,reduceIte,cI,Nat.reduceAdd];refine aSn (VN.ext (u1.trans u2)) hn wf.n λh4 s2 e2 c2 g2 u4=>?_;have e4:=u2.trans u4;rcases c0 with⟨rfl,c0⟩|⟨rfl,c0⟩
 case inr=>
  have n1:((1:Int) !=0)=true:=by decide
  simp only[eI,n1,q0,cC,reduceIte,cI,Nat.reduceAdd];exact notok e4 λc=>c0 (c.b k2).1
 rcases c2 with⟨rfl,c2⟩|⟨rfl,c2⟩
 case inr=>
  have n1:((1:Int) !=0)=true:=by decide
  simp only[eI,n1,q0,cC,reduceIte,cI,Nat.reduceAdd];exact notok e4 λc=>c2 ⟨by have:=(rW c.plain k1).2.2.2;omega,(c.b k2).2⟩
 by_cases d1:16<r.ns.length
 ·have g:((16:Int)<(r.ns.length:Int))=True:=eq_true (by omega);simp only[eI,bW.f4,lns e4,ln,g,q0,iZ,Nat.reduceAdd,cC,reduceIte,cI,Nat.reduceAdd];exact notok e4 λc=>by have:=(rW c.plain k1).2.2.2;omega
 have g:((16:Int)<(r.ns.length:Int))=False:=eq_false (by omega);by_cases d2:r.ch<0
 ·have f2:=eq_true d2;simp only[eI,bW.f4,bW.f2,lns e4,ln,g,lch e4,f2,q0,iZ,Nat.reduceAdd,cC,reduceIte,cI,Nat.reduceAdd];exact notok e4 λc=>by have:=(rW c.plain k1).2.2.1;omega
 have f2:=eq_false d2;by_cases d3:1<r.ch
 ·have f3:=eq_true d3;simp only[eI,bW.f4,bW.f2,lns e4,ln,g,lch e4,f2,f3,q0,iZ,Nat.reduceAdd,cC,reduceIte,cI,Nat.reduceAdd];exact notok e4 λc=>by have:=(rW c.plain k1).2.2.1;omega
 have f3:=eq_false d3;by_cases d4:0<r.s.its.length
 ·have f4:((0:Int)<(r.s.its.length:Int))=True:=eq_true (by omega);simp only[eI,bW.f4,bW.f2,bW.f1,bR.f1,lns e4,ln,g,lch e4,f2,f3,lit e4,li,f4,q0,iZ,Nat.reduceAdd,cC,reduceIte,cI,Nat.reduceAdd];exact notok e4 λc=>by rw[(rW c.plain k1).2.1] at d4;simp[Dm.zero] at d4
 have f4:((0:Int)<(r.s.its.length:Int))=False:=eq_false (by omega);by_cases d5:r.s.p0=Pl.zero∧r.s.p1=Pl.zero
 case neg=>
  have f5:decide (r.s.p0=Pl.zero∧r.s.p1=Pl.zero)=false:=by simpa using d5
  simp only[eI,bW.f4,bW.f2,bW.f1,bR.f1,bR.f0,lns e4,ln,g,lch e4,f2,f3,lit e4,li,f4,ltw e4,aH5,lO.neq,f5,q0,iZ,Nat.reduceAdd,cC,reduceIte,cI,Nat.reduceAdd];exact notok e4 λc=>d5 (by rw[(rW c.plain k1).2.1];exact⟨rfl,rfl⟩)
 have f5:decide (r.s.p0=Pl.zero∧r.s.p1=Pl.zero)=true:=by simpa using d5
 have ok:yI r:=by
  refine⟨?_,λh1=>absurd h1 k1,λ_=>⟨c0,c2⟩⟩;unfold Rc.plain;rw[if_neg k1,if_pos k2,f5];have e5:r.s.its.length=0:=by omega
  have e6:r.ch=0∨r.ch=1:=by omega
  simp only[e5,decide_true,zLo,sU,aHE,decide_eq_true_eq];exact⟨e6,by omega⟩
 obtain⟨c,hc⟩:∃c:Nat,r.ch=(c:Int):=zLm (by omega);have hc1:c≤1:=by omega
 have cw:IntKind.u64.wrap (c:Int)=(c:Int):=kI (by omega) (by omega);rw[hc] at f2 f3 lch;simp only[eI,bW.f4,bW.f2,bW.f1,bR.f1,bR.f0,lns e4,ln,g,lch e4,f2,f3,lit e4,li,f4,ltw e4,aH5,lO.neq,f5,aEv,cw,iZ,Nat.reduceAdd,cC,reduceIte,cI,Nat.reduceAdd];refine mJ (by omega) (by decide) λh5 u5=>?_;have a1:cB PG (binOp .add aT (.string (tx [2])) (.string (tx (be c 1))))=some (.string (tx ([2]++be c 1))):=jW (by simp only[iU,kV,hY];omega);have a2:cB PG (binOp .add aT (.string (tx ([2]++be c 1))) (.string (tx s0)))=some (.string (tx (([2]++be c 1)++s0))):=jW (by simp only[jM,iU,kV,hY];omega);have a3:cB PG (binOp .add aT (.string (tx (([2]++be c 1)++s0))) (.string (tx s2)))=some (.string (tx ((([2]++be c 1)++s0)++s2))):=jW (by simp only[jM,iU,kV,hY];omega);simp only[q2,a1,a2,a3,cC,reduceIte,cI,Nat.reduceAdd];exact hk _ _ 0 (.inl ⟨rfl,ok⟩) (u1.trans (e4.trans u5))
def aWM{h:PH}{a:Nat}{L:List It}{room:Int}{F:List Nat}(H:RAt h a L room F){v:Value}{l:List Nt}(S:wN h v l)(hv:l≠[]->∀x n c,v= .slice (some x) n c->x.block∉F)(hl:L.length+l.length≤1000)(w:∀n∈l,n.p.wf){k:cE}
  (hk:∀h' F' (n:Int),RAt h' a (mB room L l).1 room F'->cX F h h'->(∀b∈F',b∈F∨h b=none)->k (.tuple #[.int .i64 n,.int .i64 (mB room L l).2]) h'):bT PG aBR #[pT a 0,v] h k:=by
 apply aAe.call;unfold aAe;have lv:=Nt.len S;refine⟨λvs h'=>∃(i:Nat) (L':List It) (F':List Nat),i≤l.length∧vs=[pT a 0,v,.int .i64 (i:Int)]∧RAt h' a L' room F'∧cX F h h'∧(∀b∈F',b∈F∨h b=none)∧L'.length≤L.length+i∧mB room L l=mB room L' (l.drop i),fT l.length 2,⟨0,L,F,by omega,rfl,H,cX.refl,(λb hb=>.inl hb),by omega,by simp⟩,?_⟩;rintro ρ h' ⟨i,L',F',hi,hvs,H',u,hF,hLL,hap⟩;simp only[iG,jB,kZ,and_true] at hvs;obtain⟨v0,v1,v2⟩:=hvs;unfold aEk;simp only[v0,v1,v2,iG,jB];by_cases hlt:i<l.length
 ·have g1:((i:Int)<(l.length:Int))=True:=eq_true (by omega);have gi:=nR (i:=i) (by omega);have e1:l[i]? =some l[i]:=kF hlt;have hmem:l[i]∈l:=aHO hlt;obtain⟨pa,p1,q1⟩:=iH.ntb (iH.upd0 S u λhne=>hv (by simpa using hne)) e1;have hdrop:l.drop i=l[i]::l.drop (i+1):=aAs hlt;generalize l[i]=n at *;rw[hdrop] at hap;have wn:=w n hmem;simp only[lv,g1,p1,q1,cC,reduceIte,cI,Nat.reduceAdd];refine aUJ H' (by omega) n wn.1 wn.2.2.1 λh3 F3 H3 u3 f3=>?_;have hF':∀b∈F',b∈F∨h b=none:=hF;have u':cX F h h3:=u.then u3 hF';have g3:∀b∈F3,b∈F∨h b=none:=λb hb=>by
   rcases f3 b hb with hb|hb
   ·exact hF b hb
   ·by_cases hbF:b∈F
    ·exact .inl hbF
    ·right;cases hx:h b with
     | none=>rfl
     | some o=>have:=u b o hx hbF;rw[hb] at this;cases this
  have hlen:(qJ L' room n).length≤L'.length+1:=aPp H'.srt room n;by_cases h0:uA L' room n=0
  ·simp only[mB,h0,ne_eq,not_true_eq_false,if_false] at hap;simp only[eI,h0,gi,cC,reduceIte,cI,Nat.reduceAdd];refine⟨⟨i+1,_,F3,by omega,rfl,H3,u',g3,by omega,hap⟩,?_⟩;simp only[fT,zLL,zLK];omega
  ·have q:(uA L' room n !=0)=true:=by simp[h0]
   simp only[mB,ne_eq,h0,not_false_eq_true,if_true] at hap;simp only[eI,q,cC,reduceIte,cI,Nat.reduceAdd];have:=hk h3 F3 (i:Int) (by rw[hap];exact H3) u' g3;rw[hap] at this;exact this
 ·have g1:((i:Int)<(l.length:Int))=False:=eq_false (by omega);rw[yQ (by omega)] at hap;simp only[lv,g1,cC,reduceIte,cI,Nat.reduceAdd];have:=hk h' F' (l.length:Int) (by rw[hap];exact H') u hF;rw[hap] at this;exact this
def aTR{d:Dm}{room:Int}:chk d room=if ¬(jU d.p0∧jU d.p1) then 1 else if nN room d.its≠0 then nN room d.its else if oC d.its≠d.its then 15 else 0:=by
 unfold chk;by_cases h:jU d.p0∧jU d.p1
 ·by_cases e1:nN room d.its=1
  ·simp[h,e1]
  ·simp[h,e1]
 ·simp[h]
def aId{h:PH}{d:Dm}{v:Value}{room:Int}(V:jT h v d.its)(hl:d.its.length≤900)(w:d.wf){k:cE}(hk:∀h',dA h h'->k (.int .i64 (chk d room)) h'):bT PG pD #[d.v v,.int .i64 room] h k:=by
 apply rK.call;unfold rK;intro r1 hr1
 try rw[cR]
 have u1:dA h (h.set r1 (.cells (Value.cells (d.v v)) bR)):=cX.new hr1;have B1:Bx (h.set r1 (.cells (Value.cells (d.v v)) bR)) r1 (d.cells v):=Bx.new;generalize h.set r1 (.cells (Value.cells (d.v v)) bR)=h1 at *;have lit:∀{h':PH},dA h1 h'->cD PG h' (loadAt bZ (pT r1 4))=some v:=λu=>by rw[bZ.load,(B1.ext u).cell];rfl
 simp only[bR.f1,iZ,lit cX.refl,cC,reduceIte,cI,Nat.reduceAdd];have main:∀(h6:PH) (tv:Value) (e:Int),(nN room d.its≠0∧tv= .pointer none∧e=nN room d.its)∨(nN room d.its=0∧e=0∧∃a F,tv=pT a 0∧RAt h6 a (oC d.its) room F)->dA h1 h6->
   hC [2,5,6,7] (λn9 ρ h=>aAl k n9 (ρ 2) (ρ 5) (ρ 6) (ρ 7) h) [(pT r1 0),tv,.int .i64 e,(Value.int IntKind.i64 0)] h6:=by
  intro h6 tv e X u6;have hk:=hk _ (u1.trans u6);rw[aTR] at hk;have li:∀(q:Pl) (o:Nat),(d.cells v)[o+1]? =some (.int .i64 q.i)->cD PG h6 (loadAt aR (pT r1 (o+1)))=some (.int .i64 q.i):=λq o hq=>by rw[aR.load,(B1.ext u6).cell,hq]
  refine⟨λvs h'=>∃i:Nat,i≤2∧vs=[(pT r1 0),tv,.int .i64 e,.int .i64 (i:Int)]∧h'=h6∧(1≤i->jU d.p0)∧(2≤i->jU d.p1),fT 2 3,⟨0,by omega,rfl,rfl,by omega,by omega⟩,?_⟩;rintro ρ h' ⟨i,hi,hvs,rfl,o0,o1⟩;simp only[iG,jB,kZ,and_true] at hvs;obtain⟨v0,v1,v2,v3⟩:=hvs;unfold aAl;rw[v0,v1,v2,v3];by_cases hlt:i<2
  ·have g1:((i:Int)<2)=True:=eq_true (by omega);have gi:=nR (i:=i) (by omega);have ix:=ixP (r:=r1) hlt;obtain⟨q,hq,hc⟩:∃q:Pl,(d.cells v)[i*2+1]? =some (.int .i64 q.i)∧(q=d.p0∧i=0∨q=d.p1∧i=1):=by
    have:i=0∨i=1:=by omega
    rcases this with rfl|rfl
    ·exact⟨d.p0,rfl,.inl ⟨rfl,rfl⟩⟩
    ·exact⟨d.p1,rfl,.inr ⟨rfl,rfl⟩⟩
   have lq:=li q (i*2) hq;have bad:¬jU q->k (.int .i64 1) h':=λc=>by
    rw[if_pos (by
            rcases hc with⟨rfl,-⟩|⟨rfl,-⟩
            ·exact λx=>c x.1
            ·exact λx=>c x.2)] at hk
    exact hk
   by_cases d0:q.i<0
   ·have f0:=eq_true d0;simp only[g1,bR.f0,ix,cG.f1,lq,f0,cC,reduceIte,cI,Nat.reduceAdd];exact bad λc=>by have:=c.1;omega
   have f0:=eq_false d0;by_cases d1:65535<q.i
   ·have f1:=eq_true d1;simp only[g1,bR.f0,ix,cG.f1,lq,f0,f1,cC,reduceIte,cI,Nat.reduceAdd];exact bad λc=>by have:=c.2;omega
   have f1:=eq_false d1;have okq:jU q:=⟨by omega,by omega⟩;simp only[g1,bR.f0,ix,cG.f1,lq,f0,f1,gi,cC,reduceIte,cI,Nat.reduceAdd];refine⟨⟨i+1,by omega,rfl,(by first|rfl|trivial),λ_=>?_,λh2=>?_⟩,by simp[fT,v3];omega⟩
   ·rcases hc with⟨rfl,-⟩|⟨rfl,hi1⟩
    ·exact okq
    ·exact o0 (by omega)
   ·rcases hc with⟨rfl,h0⟩|⟨rfl,-⟩
    ·omega
    ·exact okq
  ·have g1:((i:Int)<2)=False:=eq_false (by omega);rw[if_neg (by exact λc=>c ⟨o0 (by omega),o1 (by omega)⟩)] at hk;rcases X with⟨hne,rfl,rfl⟩|⟨h0,rfl,a,F,rfl,H⟩
   ·have q:(nN room d.its !=0)=true:=by simp[hne]
    rw[if_pos hne] at hk;simp only[g1,eI,q,cC,reduceIte,cI,Nat.reduceAdd];exact hk
   ·rw[if_neg (by simpa using h0)] at hk;obtain⟨tvv,G,ha,hO,-,-⟩:=H.here;have lt:cD PG h' (loadAt bZ (pT a 0))=some tvv:=by
     rw[bZ.load];unfold cV;simp[ha]
    have hx:=aHy d.its;simp only[g1,eI,aJr,dE.f0,lt,bR.f1,iZ,lit u6,cC,reduceIte,cI,Nat.reduceAdd];refine aRF hO.slR (V.ext (u1.trans u6)) (by omega) ?_;by_cases hs:oC d.its=d.its
    ·rw[if_neg (by simpa using hs)] at hk;have hs':=decide_eq_true hs;simp only[hs',cC,reduceIte,cI,Nat.reduceAdd];exact hk
    ·rw[if_pos hs] at hk;have hs':=decide_eq_false hs;simp only[hs',cC,reduceIte,cI,Nat.reduceAdd];exact hk
 refine aTo (V.ext u1) hl (λm hm=>⟨(w.i m hm).1,(w.i m hm).2.2.1⟩) (λh6 u6 hne=>?_) (λa h6 F h0 H f u6=>?_)
 ·simp only[cC,reduceIte,cI,Nat.reduceAdd];exact main h6 _ _ (.inl ⟨hne,rfl,rfl⟩) u6
 ·simp only[cC,reduceIte,cI,Nat.reduceAdd];exact main h6 _ _ (.inr ⟨h0,rfl,a,F,rfl,H⟩) u6
def aJ4{h:PH}{q:Pl}(w:q.wf){k:cE}(hk:∀h' s e,(e=0∧jU q∧s=q.bs∨e=1∧¬jU q)->s.length≤100000->dA h h'->k (.tuple #[.string (tx s),.int .i64 e]) h'):bT PG nE #[.agg q.cells.toArray] h k:=
 aOL w (λc h' u=>hk h' [] 1 (.inr ⟨rfl,c⟩) (by simp) u) (λc h' u=>hk h' _ 0 (.inl ⟨rfl,c,rfl⟩) (by simp[Pl.bs,hY]) u)
def aSM{h:PH}{v:Value}{l:List It}(V:iH h 5 v (l.map It.cells))(hl:l.length≤100000)(w:∀i∈l,i.p.wf){k:cE}
  (hk:∀h' s e,(e=0∧(∀i∈l,aEQ i)∧s=sP (l.map It.x)∨e=1∧¬(l.length≤255∧∀i∈l,aEQ i))->s.length≤100000->dA h h'->k (.tuple #[.string (tx s),.int .i64 e]) h'):bT PG rV #[v] h k:=
 aOR V hl w (λc h' u=>hk h' [] 1 (.inr ⟨rfl,λd=>c ⟨d.1,λi hi=>aAp.2 (d.2 i hi)⟩⟩) (by simp) u) (λc d h' u=>hk h' _ 0 (.inl ⟨rfl,λi hi=>aAp.1 (d i hi),rfl⟩) (by
  have:=aF4 (l:=l.map It.x) (by
   simp only[aJC];intro y hy;rw[aNy (aAp.1 (d y hy))];exact(aAp.1 (d y hy)).2.2)
  simp only[sP,jM,hY,iL] at *;omega) u)
def aSY{h:PH}{v:Value}{l:List Nt}(V:iH h 5 v (l.map Nt.cells))(hl:l.length≤100000)(w:∀i∈l,i.p.wf){k:cE}
  (hk:∀h' s e,(e=0∧(∀i∈l,aFD i)∧s=sP (l.map Nt.x)∨e=1∧¬(l.length≤255∧∀i∈l,aFD i))->s.length≤100000->dA h h'->k (.tuple #[.string (tx s),.int .i64 e]) h'):bT PG rT #[v] h k:=
 aOE V hl w (λc h' u=>hk h' [] 1 (.inr ⟨rfl,λd=>c ⟨d.1,λi hi=>aAr.2 (d.2 i hi)⟩⟩) (by simp) u) (λc d h' u=>hk h' _ 0 (.inl ⟨rfl,λi hi=>aAr.1 (d i hi),rfl⟩) (by
  have:=aF4 (l:=l.map Nt.x) (by
   simp only[aJC];intro y hy;rw[aNZ (aAr.1 (d y hy))];exact(aAr.1 (d y hy)).2.2)
  simp only[sP,jM,hY,iL] at *;omega) u)
def aMr{h:PH}{r:Rc}{v vn:Value}(V:jT h v r.s.its)(VN:wN h vn r.ns)(wf:r.wf)(hi:r.s.its.length≤100000)(hn:r.ns.length≤100000){k:cE}
  (hk:∀h',dA h h'->k (.tuple #[.string (tx r.bytes.1),.int .i64 r.bytes.2]) h'):bT PG pF #[r.v v vn] h k:=by
 apply rS.call;unfold rS;have hkN:∀h',¬yI r->dA h h'->k (.tuple #[.string (tx []),.int .i64 1]) h':=λh' c u=>by
  have:=hk h' u;rcases aAd r with⟨a,-⟩|⟨-,b⟩
  ·exact absurd a c
  ·rw[b] at this;exact this
 have hkY:∀h' s,yI r->s=r.bs->dA h h'->k (.tuple #[.string (tx s),.int .i64 0]) h':=λh' s c e u=>by
  have:=hk h' u;rcases aAd r with⟨-,b⟩|⟨a,-⟩
  ·rw[b] at this;rw[e];exact this
  ·exact absurd c a
 intro r1 hr1
 try rw[cR]
 have u1:dA h (h.set r1 (.cells (Value.cells (r.v v vn)) bW)):=cX.new hr1;have B1:Bx (h.set r1 (.cells (Value.cells (r.v v vn)) bW)) r1 (r.cells v vn):=Bx.new;generalize h.set r1 (.cells (Value.cells (r.v v vn)) bW)=h1 at *;have q0:({data:=#[]}:ByteArray)=tx []:=rfl;have q1:({data:=#[1]}:ByteArray)=tx [1]:=rfl;have q2:({data:=#[2]}:ByteArray)=tx [2]:=rfl;have lk:∀{h':PH},dA h1 h'->cD PG h' (loadAt aR (pT r1 0))=some (.int .i64 r.k):=λu=>by rw[aR.load,(B1.ext u).cell];rfl
 have lp0:∀{h':PH},dA h1 h'->cD PG h' (loadAt cG (pT r1 1))=some (.agg r.s.p0.cells.toArray):=λu=>aCR (B1.ext u) rfl;have lp1:∀{h':PH},dA h1 h'->cD PG h' (loadAt cG (pT r1 3))=some (.agg r.s.p1.cells.toArray):=λu=>aCR (B1.ext u) rfl;have ltw:∀{h':PH},dA h1 h'->cD PG h' (loadAt cU (pT r1 1))=some (lO r.s.p0 r.s.p1):=λu=>aIM (B1.ext u) rfl;have lit:∀{h':PH},dA h1 h'->cD PG h' (loadAt bZ (pT r1 5))=some v:=λu=>by rw[bZ.load,(B1.ext u).cell];rfl
 have lch:∀{h':PH},dA h1 h'->cD PG h' (loadAt aR (pT r1 6))=some (.int .i64 r.ch):=λu=>by rw[aR.load,(B1.ext u).cell];rfl
 have lpl:∀{h':PH},dA h1 h'->cD PG h' (loadAt cG (pT r1 7))=some (.agg r.pl.cells.toArray):=λu=>aCR (B1.ext u) rfl;have lph:∀{h':PH},dA h1 h'->cD PG h' (loadAt cJ (pT r1 7))=some (.int .u64 r.pl.h):=λu=>by rw[cJ.load,(B1.ext u).cell];rfl
 have lpi:∀{h':PH},dA h1 h'->cD PG h' (loadAt aR (pT r1 8))=some (.int .i64 r.pl.i):=λu=>by rw[aR.load,(B1.ext u).cell];rfl
 have lns:∀{h':PH},dA h1 h'->cD PG h' (loadAt cZ (pT r1 9))=some vn:=λu=>by rw[cZ.load,(B1.ext u).cell];rfl
 have li:=It.len V;have ln:=Nt.len VN;by_cases k1:r.k=1
 ·have kk:(r.k==1)=true:=by simp[k1]
  have notok:∀{h':PH},dA h1 h'->¬yI r->k (.tuple #[.string (tx []),.int .i64 1]) h':=λu c=>hkN _ c (u1.trans u);simp only[bW.f0,bW.f1,bR.f0,bR.f1,aXm,aXo,iZ,Nat.reduceAdd,lk cX.refl,gA,kk,lp0 cX.refl,cC,reduceIte,cI,Nat.reduceAdd];refine aJ4 wf.s.a λh2 s0 e0 c0 g0 u2=>?_;simp only[lp1 u2,cC,reduceIte,cI,Nat.reduceAdd];refine aJ4 wf.s.b λh3 s1 e1 c1 g1 u3=>?_;have e3:=u2.trans u3;simp only[lit e3,cC,reduceIte,cI,Nat.reduceAdd];refine aSM (V.ext (u1.trans e3)) hi wf.s.i λh4 s2 e2 c2 g2 u4=>?_;have e4:=e3.trans u4;rcases c0 with⟨rfl,c0,y0⟩|⟨rfl,c0⟩
  case inr=>
   have n1:((1:Int) !=0)=true:=by decide
   simp only[eI,n1,q0,cC,reduceIte,cI,Nat.reduceAdd];exact notok e4 λc=>c0 (c.a k1).1
  rcases c1 with⟨rfl,c1,y1⟩|⟨rfl,c1⟩
  case inr=>
   have n1:((1:Int) !=0)=true:=by decide
   simp only[eI,n1,q0,cC,reduceIte,cI,Nat.reduceAdd];exact notok e4 λc=>c1 (c.a k1).2.1
  rcases c2 with⟨rfl,c2,y2⟩|⟨rfl,c2⟩
  case inr=>
   have n1:((1:Int) !=0)=true:=by decide
   simp only[eI,n1,q0,cC,reduceIte,cI,Nat.reduceAdd];exact notok e4 λc=>c2 ⟨by have:=(xM c.plain k1).2.2.2;omega,(c.a k1).2.2⟩
  by_cases d1:40<r.s.its.length
  ·have g:((40:Int)<(r.s.its.length:Int))=True:=eq_true (by omega);simp only[eI,bW.f1,bR.f1,lit e4,li,g,q0,iZ,Nat.reduceAdd,cC,reduceIte,cI,Nat.reduceAdd];exact notok e4 λc=>by have:=(xM c.plain k1).2.2.2;omega
  have g:((40:Int)<(r.s.its.length:Int))=False:=eq_false (by omega);by_cases d2:r.ch=0
  case neg=>
   have g2:(r.ch !=0)=true:=by simp[d2]
   simp only[eI,bW.f1,bW.f2,bR.f1,lit e4,li,g,lch e4,g2,q0,iZ,Nat.reduceAdd,cC,reduceIte,cI,Nat.reduceAdd];exact notok e4 λc=>d2 (xM c.plain k1).1
  have g2:(r.ch !=0)=false:=by simp[d2]
  by_cases d3:r.pl.h=0
  case neg=>
   have g3:(r.pl.h !=0)=true:=by simp[d3]
   simp only[eI,bW.f1,bW.f2,bW.f3,bR.f1,cG.f0,lit e4,li,g,lch e4,g2,lph e4,g3,q0,iZ,Nat.reduceAdd,cC,reduceIte,cI,Nat.reduceAdd];exact notok e4 λc=>d3 (by rw[(xM c.plain k1).2.1];rfl)
  have g3:(r.pl.h !=0)=false:=by simp[d3]
  by_cases d4:r.pl.i=0
  case neg=>
   have g4:(r.pl.i !=0)=true:=by simp[d4]
   simp only[eI,bW.f1,bW.f2,bW.f3,bR.f1,cG.f0,cG.f1,lit e4,li,g,lch e4,g2,lph e4,g3,lpi e4,g4,q0,iZ,Nat.reduceAdd,cC,reduceIte,cI,Nat.reduceAdd];exact notok e4 λc=>d4 (by rw[(xM c.plain k1).2.1];rfl)
  have g4:(r.pl.i !=0)=false:=by simp[d4]
  by_cases d5:0<r.ns.length
  ·have g5:((0:Int)<(r.ns.length:Int))=True:=eq_true (by omega);simp only[eI,bW.f1,bW.f2,bW.f3,bW.f4,bR.f1,cG.f0,cG.f1,lit e4,li,g,lch e4,g2,lph e4,g3,lpi e4,g4,lns e4,ln,g5,q0,iZ,Nat.reduceAdd,cC,reduceIte,cI,Nat.reduceAdd];exact notok e4 λc=>by rw[(xM c.plain k1).2.2.1] at d5;simp at d5
  have g5:((0:Int)<(r.ns.length:Int))=False:=eq_false (by omega);have ok:yI r:=by
   refine⟨?_,λ_=>⟨c0,c1,c2⟩,λh2=>by rw[k1] at h2;cases h2⟩;unfold Rc.plain;rw[if_pos k1];have e5:r.ns.length=0:=by omega
   have e6:r.pl=Pl.zero:=by
    have:∀q:Pl,q.h=0->q.i=0->q=Pl.zero:=λq a b=>by
     obtain⟨x,y⟩:=q;simp only at a b;subst a b;rfl
    exact this _ d3 d4
   simp only[d2,e5,e6,decide_true,Bool.and_true,zLo,decide_eq_true_eq];omega
  have a1:cB PG (binOp .add aT (.string (tx [1])) (.string (tx s0)))=some (.string (tx ([1]++s0))):=jW (by simp only[iU,kV];omega);have a2:cB PG (binOp .add aT (.string (tx ([1]++s0))) (.string (tx s1)))=some (.string (tx (([1]++s0)++s1))):=jW (by simp only[jM,iU,kV];omega);have a3:cB PG (binOp .add aT (.string (tx (([1]++s0)++s1))) (.string (tx s2)))=some (.string (tx ((([1]++s0)++s1)++s2))):=jW (by simp only[jM,iU,kV];omega);simp only[eI,bW.f1,bW.f2,bW.f3,bW.f4,bR.f1,cG.f0,cG.f1,lit e4,li,g,lch e4,g2,lph e4,g3,lpi e4,g4,lns e4,ln,g5,q1,a1,a2,a3,iZ,Nat.reduceAdd,cC,reduceIte,cI,Nat.reduceAdd];refine hkY _ _ ok ?_ (u1.trans e4);rw[y0,y1,y2];unfold Rc.bs;rw[if_pos k1];simp only[uS];rfl
 have kk:(r.k==1)=false:=by simp[k1]
 by_cases k2:r.k=2
 case neg=>
  have kk2:(r.k==2)=false:=by simp[k2]
  simp only[bW.f0,lk cX.refl,gA,kk,kk2,q0,cC,reduceIte,cI,Nat.reduceAdd];exact hkN _ (λc=>by have:=(rW c.plain k1).1;exact k2 this) u1
 have kk2:(r.k==2)=true:=by simp[k2]
 have notok:∀{h':PH},dA h1 h'->¬yI r->k (.tuple #[.string (tx []),.int .i64 1]) h':=λu c=>hkN _ c (u1.trans u);simp only[bW.f0,bW.f3,lk cX.refl,gA,kk,kk2,lpl cX.refl,iZ,cC,reduceIte,cI,Nat.reduceAdd];refine aJ4 wf.pl λh2 s0 e0 c0 g0 u2=>?_;simp only[bW.f4,lns u2,iZ,cC,reduceIte,cI,Nat.reduceAdd];refine aSY (VN.ext (u1.trans u2)) hn wf.n λh4 s2 e2 c2 g2 u4=>?_;have e4:=u2.trans u4;rcases c0 with⟨rfl,c0,y0⟩|⟨rfl,c0⟩
 case inr=>
  have n1:((1:Int) !=0)=true:=by decide
  simp only[eI,n1,q0,cC,reduceIte,cI,Nat.reduceAdd];exact notok e4 λc=>c0 (c.b k2).1
 rcases c2 with⟨rfl,c2,y2⟩|⟨rfl,c2⟩
 case inr=>
  have n1:((1:Int) !=0)=true:=by decide
  simp only[eI,n1,q0,cC,reduceIte,cI,Nat.reduceAdd];exact notok e4 λc=>c2 ⟨by have:=(rW c.plain k1).2.2.2;omega,(c.b k2).2⟩
 by_cases d1:16<r.ns.length
 ·have g:((16:Int)<(r.ns.length:Int))=True:=eq_true (by omega);simp only[eI,bW.f4,lns e4,ln,g,q0,iZ,Nat.reduceAdd,cC,reduceIte,cI,Nat.reduceAdd];exact notok e4 λc=>by have:=(rW c.plain k1).2.2.2;omega
 have g:((16:Int)<(r.ns.length:Int))=False:=eq_false (by omega);by_cases d2:r.ch<0
 ·have f2:=eq_true d2;simp only[eI,bW.f4,bW.f2,lns e4,ln,g,lch e4,f2,q0,iZ,Nat.reduceAdd,cC,reduceIte,cI,Nat.reduceAdd];exact notok e4 λc=>by have:=(rW c.plain k1).2.2.1;omega
 have f2:=eq_false d2;by_cases d3:1<r.ch
 ·have f3:=eq_true d3;simp only[eI,bW.f4,bW.f2,lns e4,ln,g,lch e4,f2,f3,q0,iZ,Nat.reduceAdd,cC,reduceIte,cI,Nat.reduceAdd];exact notok e4 λc=>by have:=(rW c.plain k1).2.2.1;omega
 have f3:=eq_false d3;by_cases d4:0<r.s.its.length
 ·have f4:((0:Int)<(r.s.its.length:Int))=True:=eq_true (by omega);simp only[eI,bW.f4,bW.f2,bW.f1,bR.f1,lns e4,ln,g,lch e4,f2,f3,lit e4,li,f4,q0,iZ,Nat.reduceAdd,cC,reduceIte,cI,Nat.reduceAdd];exact notok e4 λc=>by rw[(rW c.plain k1).2.1] at d4;simp[Dm.zero] at d4
 have f4:((0:Int)<(r.s.its.length:Int))=False:=eq_false (by omega);by_cases d5:r.s.p0=Pl.zero∧r.s.p1=Pl.zero
 case neg=>
  have f5:decide (r.s.p0=Pl.zero∧r.s.p1=Pl.zero)=false:=by simpa using d5
  simp only[eI,bW.f4,bW.f2,bW.f1,bR.f1,bR.f0,lns e4,ln,g,lch e4,f2,f3,lit e4,li,f4,ltw e4,aH5,lO.neq,f5,q0,iZ,Nat.reduceAdd,cC,reduceIte,cI,Nat.reduceAdd];exact notok e4 λc=>d5 (by rw[(rW c.plain k1).2.1];exact⟨rfl,rfl⟩)
 have f5:decide (r.s.p0=Pl.zero∧r.s.p1=Pl.zero)=true:=by simpa using d5
 have ok:yI r:=by
  refine⟨?_,λh1=>absurd h1 k1,λ_=>⟨c0,c2⟩⟩;unfold Rc.plain;rw[if_neg k1,if_pos k2,f5];have e5:r.s.its.length=0:=by omega
  have e6:r.ch=0∨r.ch=1:=by omega
  simp only[e5,decide_true,zLo,sU,aHE,decide_eq_true_eq];exact⟨e6,by omega⟩
 obtain⟨c,hc⟩:∃c:Nat,r.ch=(c:Int):=zLm (by omega);have hc1:c≤1:=by omega
 have cw:IntKind.u64.wrap (c:Int)=(c:Int):=kI (by omega) (by omega);rw[hc] at f2 f3 lch;simp only[eI,bW.f4,bW.f2,bW.f1,bR.f1,bR.f0,lns e4,ln,g,lch e4,f2,f3,lit e4,li,f4,ltw e4,aH5,lO.neq,f5,aEv,cw,iZ,Nat.reduceAdd,cC,reduceIte,cI,Nat.reduceAdd];refine mJ (by omega) (by decide) λh5 u5=>?_;have a1:cB PG (binOp .add aT (.string (tx [2])) (.string (tx (be c 1))))=some (.string (tx ([2]++be c 1))):=jW (by simp only[iU,kV,hY];omega);have a2:cB PG (binOp .add aT (.string (tx ([2]++be c 1))) (.string (tx s0)))=some (.string (tx (([2]++be c 1)++s0))):=jW (by simp only[jM,iU,kV,hY];omega);have a3:cB PG (binOp .add aT (.string (tx (([2]++be c 1)++s0))) (.string (tx s2)))=some (.string (tx ((([2]++be c 1)++s0)++s2))):=jW (by simp only[jM,iU,kV,hY];omega);simp only[q2,a1,a2,a3,cC,reduceIte,cI,Nat.reduceAdd];refine hkY _ _ ok ?_ (u1.trans (e4.trans u5));rw[y0,y2];unfold Rc.bs;rw[if_neg k1,hc,xK];simp only[uS];rfl
def aPi{h:PH}{d:Dm}{v:Value}{room:Int}{r:Rc}{vi vn:Value}(V:jT h v d.its)(w:d.wf)(hl:d.its.length≤900)(VI:jT h vi r.s.its)(VN:wN h vn r.ns)(wf:r.wf)(hi:r.s.its.length≤900)(hn:r.ns.length≤100000){k:cE}
  (hk:∀h' v',jT h' v' (lT d room r).1.its->(iQ h v'∨v'=vi)->dA h h'->k (.tuple #[(lT d room r).1.v v',.int .i64 (lT d room r).2]) h'):bT PG xO #[d.v v,.int .i64 room,r.v vi vn] h k:=by
 apply tF.call;unfold tF;intro r1 hr1
 try rw[cR]
 have u1:dA h (h.set r1 (.cells (Value.cells (d.v v)) bR)):=cX.new hr1;have B1:Bx (h.set r1 (.cells (Value.cells (d.v v)) bR)) r1 (d.cells v):=Bx.new;generalize h.set r1 (.cells (Value.cells (d.v v)) bR)=h1 at *;intro r3 hr3
 try rw[cR]
 have u3:dA h1 (h1.set r3 (.cells (Value.cells (r.v vi vn)) bW)):=cX.new hr3;have B3:Bx (h1.set r3 (.cells (Value.cells (r.v vi vn)) bW)) r3 (r.cells vi vn):=Bx.new;have B13:=B1.ext u3;generalize h1.set r3 (.cells (Value.cells (r.v vi vn)) bW)=h3 at *;intro r5 hr5
 try rw[cR]
 have u5:dA h3 (h3.set r5 (.cells (dJ PG bR) bR)):=cX.new hr5;have Z:=bR.zbox (h:=h3) (r:=r5);have B15:=B13.ext u5;have B35:=B3.ext u5;generalize h3.set r5 (.cells (dJ PG bR) bR)=h5 at *;have e5:=(u1.trans u3).trans u5;have f5:eD h [r5]:=eD.one ((u1.trans u3).none hr5);have K5:h5 r5≠none:=Z.known
 -- an answer
 have out:∀{h':PH} {x:Dm} {e:Int} {v':Value},dA h5 h'->lT d room r=(x,e)->jT h' v' x.its->aFZ x.its v' [r5]->(iQ h v'∨v'=vi)->cN PG (cP bR (pT r5 0) (x.v v')) h' λv12 h13=>bY (cD PG h13 (loadAt bR (pT r5 0))) λv14=>k (.tuple #[v14,.int .i64 e]) h13:=by
  intro h' x e v' u hs X o N;refine bR.put (Z.ext u) rfl (by show 0+5≤5;decide) (Dm.isC _ X.isc) λh2 B2 u2=>?_;simp only[Dm.load (o:=0) (d:=x) (v:=v') B2 rfl,cC,reduceIte];rw[hs] at hk;exact hk h2 v' (jT.updG X o u2 (λb hb=>hb)) N ((e5.trans u).fresh u2 f5)
 have bad:∀{h':PH} {e:Int},dA h5 h'->lT d room r=(Dm.zero,e)->cN PG (cP bR (pT r5 0) (Dm.v Dm.zero (.slice none 0 0))) h' λv12 h13=>bY (cD PG h13 (loadAt bR (pT r5 0))) λv14=>k (.tuple #[v14,.int .i64 e]) h13:=
  λu hs=>out u hs aDq (λhne=>absurd rfl hne) (.inl iQ.nil)
 have hdef:lT d room r=if chk d room≠0 then(Dm.zero,chk d room) else if r.bytes.2≠0 then(Dm.zero,r.bytes.2) else if r.k=1 then(if chk r.s room≠0 then(Dm.zero,chk r.s room) else(r.s,0)) else if (mB room (oC d.its) r.ns).2≠0 then(Dm.zero,(mB room (oC d.its) r.ns).2) else(⟨if r.ch=0 then r.pl else d.p0,if r.ch=0 then d.p1 else r.pl,(mB room (oC d.its) r.ns).1⟩,0):=rfl
 have ld:∀{h':PH},dA h5 h'->cD PG h' (loadAt bR (pT r1 0))=some (d.v v):=λu=>Dm.load (o:=0) (B15.ext u) rfl;have lr:∀{h':PH},dA h5 h'->cD PG h' (loadAt bW (pT r3 0))=some (r.v vi vn):=λu=>bW.agg (B35.ext u) (by show 0+10≤10;decide);have lk:∀{h':PH},dA h5 h'->cD PG h' (loadAt aR (pT r3 0))=some (.int .i64 r.k):=λu=>by rw[aR.load,(B35.ext u).cell];rfl
 have ls:∀{h':PH},dA h5 h'->cD PG h' (loadAt bR (pT r3 1))=some (r.s.v vi):=λu=>Dm.load (o:=1) (B35.ext u) rfl;have lit:∀{h':PH},dA h5 h'->cD PG h' (loadAt bZ (pT r1 4))=some v:=λu=>by rw[bZ.load,(B15.ext u).cell];rfl
 have ln:∀{h':PH},dA h5 h'->cD PG h' (loadAt cZ (pT r3 9))=some vn:=λu=>by rw[cZ.load,(B35.ext u).cell];rfl
 have l2:∀{h':PH},dA h5 h'->cD PG h' (loadAt cU (pT r1 0))=some (lO d.p0 d.p1):=λu=>aIM (B15.ext u) rfl;have lch:∀{h':PH},dA h5 h'->cD PG h' (loadAt aR (pT r3 6))=some (.int .i64 r.ch):=λu=>by rw[aR.load,(B35.ext u).cell];rfl
 have lpl:∀{h':PH},dA h5 h'->cD PG h' (loadAt cG (pT r3 7))=some (.agg r.pl.cells.toArray):=λu=>aCR (B35.ext u) rfl;simp only[ld cX.refl,cC,reduceIte,cI,Nat.reduceAdd];refine aId (V.ext e5) hl w λh6 u6=>?_;by_cases c0:chk d room=0
 case neg=>
  have q:(chk d room !=0)=true:=by simp[c0]
  rw[if_pos c0] at hdef;simp only[eI,q,qO,cC,reduceIte,cI,Nat.reduceAdd];exact bad u6 hdef
 rw[if_neg (by simp[c0])] at hdef;simp only[c0,eI,lr u6,cC,reduceIte,cI,Nat.reduceAdd];refine aSs (VI.ext (e5.trans u6)) (VN.ext (e5.trans u6)) wf (by omega) hn λh7 s e he u7=>?_;have e7:=u6.trans u7;rcases he with⟨rfl,ok⟩|⟨rfl,no⟩
 case inr=>
  have n1:((1:Int) !=0)=true:=by decide
  rcases aAd r with⟨ok,-⟩|⟨-,eb⟩
  ·exact absurd ok no
  rw[eb] at hdef;simp only[eI,n1,qO,cC,reduceIte,cI,Nat.reduceAdd];exact bad e7 (by rw[hdef];rfl)
 rw[aQj ok] at hdef;simp only[ne_eq,not_true_eq_false,if_false] at hdef;simp only[bW.f0,lk e7,eI,gA,cC,reduceIte,cI,Nat.reduceAdd];by_cases k1:r.k=1
 ·have q:(r.k==1)=true:=by simp[k1]
  rw[if_pos k1] at hdef;simp only[q,bW.f1,iZ,ls e7,cC,reduceIte,cI,Nat.reduceAdd];refine aId (VI.ext (e5.trans e7)) hi wf.s λh8 u8=>?_;have e8:=e7.trans u8;by_cases c2:chk r.s room=0
  ·rw[if_neg (by simp[c2])] at hdef;simp only[c2,eI,bW.f1,iZ,ls e8,cC,reduceIte,cI,Nat.reduceAdd];refine out e8 hdef (VI.ext (e5.trans e8)) (λhne x n c e hm=>?_) (.inr rfl);have:=VI.known (by simpa using hne) e;simp only[iC] at hm;rw[hm] at this;exact this (f5 r5 (by simp))
  ·rw[if_pos c2] at hdef;have q2:(chk r.s room !=0)=true:=by simp[c2]
   simp only[eI,q2,qO,cC,reduceIte,cI,Nat.reduceAdd];exact bad e8 hdef
 ·have q:(r.k==1)=false:=by simp[k1]
  obtain⟨k2,-,hch,q16⟩:=rW ok.plain k1;rw[if_neg k1] at hdef;have hof:nN room d.its=0:=by
   rw[aTR] at c0;by_cases h0:nN room d.its=0
   ·exact h0
   ·by_cases h1:jU d.p0∧jU d.p1
    ·rw[if_neg (by simpa using h1),if_pos h0] at c0;exact c0
    ·rw[if_pos h1] at c0;cases c0
  simp only[q,bR.f1,iZ,lit e7,cC,reduceIte,cI,Nat.reduceAdd];refine aTo (V.ext (e5.trans e7)) hl (λm hm=>⟨(w.i m hm).1,(w.i m hm).2.2.1⟩) (λh8 u8 hne=>absurd hof hne) (λa h8 F _ H8 f8 u8=>?_);have e8:=e7.trans u8;have hx:=aHy d.its;simp only[bW.f4,iZ,ln e8,cC,reduceIte,cI,Nat.reduceAdd];refine aWM H8 (VN.ext (e5.trans e8)) (λhne x n c e hm=>(VN.ext (e5.trans e7)).known (by simpa using hne) e (f8 _ hm)) (by omega) wf.n λh9 F9 n H9 u9 g9=>?_;have e9:=e8.fresh u9 (f8.of e7);by_cases c3:(mB room (oC d.its) r.ns).2=0
  case neg=>
   have q3:((mB room (oC d.its) r.ns).2 !=0)=true:=by simp[c3]
   rw[if_pos c3] at hdef;simp only[eI,q3,qO,cC,reduceIte,cI,Nat.reduceAdd];exact bad e9 hdef
  rw[if_neg (by simpa using c3)] at hdef;obtain⟨tv,G,ha,hO,eF,-⟩:=H9.here;generalize (mB room (oC d.its) r.ns).1=L at *;have fF:eD h5 F9:=(f8.of e7).grow e8 g9;have fG:eD h5 G:=λb hb=>fF b (by rw[eF];simp[hb]);have nv:=hO.newV fG;have lt:cD PG h9 (loadAt bZ (pT a 0))=some tv:=by
   rw[bZ.load];unfold cV;simp[ha]
  have VL:jT h9 tv L:=hO.slR;obtain⟨ta,tc,etv,-⟩:=VL.here;have hb:cB PG (build bR #[(0,lO d.p0 d.p1),(1,tv)])=some (Dm.v ⟨d.p0,d.p1,L⟩ tv):=by rw[etv];exact aUp _ _ _ _ _
  simp only[c3,eI,bR.f0,l2 e9,aJr,dE.f0,lt,hb,cC,reduceIte,cI,Nat.reduceAdd];intro r65 hr65
  try rw[cR]
  refine bR.fill hr65 rfl (Dm.isC _ VL.isc) λh10 B10 u10=>?_;have e10:=e9.trans u10;have f65:eD h5 [r65]:=eD.one (e9.none hr65);have VLa:=VL.ext u10;have oK:∀{b:Nat},h5 b≠none->aFZ L tv [b]:=λhb=>aFZ.new nv (λc hc=>by simp only[iC] at hc;rw[hc];exact hb);have o65:aFZ L tv [r65]:=λhne x n c e hm=>by
   simp only[iC] at hm;exact VL.known (by simpa using hne) e (by rw[hm];exact hr65)
  rcases hch with hc|hc
  ·rw[hc] at lch hdef;simp only[if_true] at hdef;simp only[bW.f2,bW.f3,iZ,lch e10,lpl e10,bR.f0,aZF,cC,reduceIte,cI,Nat.reduceAdd];refine cG.put B10 (o:=0) (vs:=r.pl.cells) rfl (by show 0+2≤5;decide) (by simp[Pl.cells,fL]) λh11 B11 u11=>?_;have VL11:=jT.updG VLa o65 u11 (λb hb=>hb);have e11:=e10.fresh u11 f65;simp only[Dm.load (o:=0) (d:=⟨r.pl,d.p1,L⟩) (v:=tv) B11 rfl,cC,reduceIte,cI,Nat.reduceAdd];exact out e11 hdef VL11 (oK K5) (.inl (nv.of e5))
  ·have n1:¬((1:Int)=0):=by decide
   rw[hc] at lch hdef;simp only[n1,if_false] at hdef;simp only[bW.f2,bW.f3,iZ,lch e10,lpl e10,bR.f0,aY5,cC,reduceIte,cI,Nat.reduceAdd];refine cG.put B10 (o:=2) (vs:=r.pl.cells) rfl (by show 2+2≤5;decide) (by simp[Pl.cells,fL]) λh11 B11 u11=>?_;have VL11:=jT.updG VLa o65 u11 (λb hb=>hb);have e11:=e10.fresh u11 f65;simp only[Dm.load (o:=0) (d:=⟨d.p0,r.pl,L⟩) (v:=tv) B11 rfl,cC,reduceIte,cI,Nat.reduceAdd];exact out e11 hdef VL11 (oK K5) (.inl (nv.of e5))
structure JoA(a w j:Nat)(d:Dk)(x:Jn)(h:PH)(F:List Nat):Prop where
 here:∃Fw iv,F=j::(mE iv x.s.its.length++Fw)∧Bx h j (x.cells w iv)∧WoA a w d x.w h Fw∧jT h iv x.s.its∧j∉Fw∧j∉mE iv x.s.its.length∧∀b∈mE iv x.s.its.length,b∉Fw
 ok:OkD x.s x.room
 wf:x.s.wf
def JoA.known{a w j:Nat}{d:Dk}{x:Jn}{h:PH}{F:List Nat}(H:JoA a w j d x h F):∀b∈F,h b≠none:=by
 obtain⟨Fw,iv,rfl,B,W,S,-⟩:=H.here;intro b hb;simp only[iW,tK] at hb;rcases hb with rfl|hb|hb
 ·exact B.known
 ·exact aEs S b hb
 ·exact W.known b hb
def JoA.upd{a w j:Nat}{d:Dk}{x:Jn}{h h':PH}{F K:List Nat}(H:JoA a w j d x h F)(u:cX K h h')(hK:∀b∈F,b∉K):JoA a w j d x h' F:=by
 obtain⟨Fw,iv,rfl,B,W,S,n⟩:=H.here;exact⟨⟨Fw,iv,rfl,B.upd u (hK j (by simp)),W.upd u (λb hb=>hK b (by simp[hb])),aF9 S u (λb hb=>hK b (by simp[hb])),n⟩,H.ok,H.wf⟩
def JoA.good(a w j:Nat)(d:Dk)(x:Jn):aH7 (JoA a w j d x):=⟨λH=>H.known,λH u hK=>H.upd u hK⟩
def JoA.ext{a w j:Nat}{d:Dk}{x:Jn}{h h':PH}{F:List Nat}(H:JoA a w j d x h F)(u:dA h h'):JoA a w j d x h' F:=(JoA.good a w j d x).ext H u
def aOI{h:PH}{s:Dm}{iv:Value}(S:jT h iv s.its)(wf:s.wf)(hl:s.its.length≤1000){k:cE}(hk:∀h',dA h h'->k (.string (tx (fZ s))) h'):bT PG vZ #[s.v iv] h k:=by
 apply aAg.call;unfold aAg;intro r1 hr1
 try rw[cR]
 have u1:dA h (h.set r1 (.cells (Value.cells (s.v iv)) bR)):=cX.new hr1;have B1:Bx (h.set r1 (.cells (Value.cells (s.v iv)) bR)) r1 (s.cells iv):=Bx.new;generalize h.set r1 (.cells (Value.cells (s.v iv)) bR)=h1 at *;have l1:cD PG h1 (loadAt bR (pT r1 0))=some (s.v iv):=bR.agg B1 (by show 0+5≤5;decide);obtain⟨b,m,c,rfl⟩:=sC S;simp only[l1,aQ0,cC,reduceIte,cI,Nat.reduceAdd];refine aMr (r:=mA s) (S.ext u1) (eH.nil (e:=cL)).slR (aKC wf) (by show s.its.length≤_;omega) (by show 0≤_;omega) λh2 u2=>?_;simp only[cC,reduceIte,cI,Nat.reduceAdd];exact hk h2 (u1.trans u2)
def aTg{h0 h:PH}{a w j r:Nat}{d':Dk}{x:Jn}{w':Wl}{iv v':Value}{nx:Dm}{F0 Fw:List Nat}{e:Int}(B:Bx h j (x.cells w iv))(S:jT h iv x.s.its)(W:WoA a w d' w' h Fw)(B2:Bx h r (nx.cells v'))(S2:jT h v' nx.its)
  (n1:j∉Fw) (n2:j∉mE iv x.s.its.length) (n3:∀b∈mE iv x.s.its.length,b∉Fw) (m2:j∉mE v' nx.its.length) (m3:∀b∈mE v' nx.its.length,b∉Fw) (m4:∀b∈mE v' nx.its.length,b∈F0∨h0 b=none)
  (st:eA h0 F0 h (j::(mE iv x.s.its.length++Fw))) (ok:OkD x.s x.room) (wf:x.s.wf) (ok2:e=0->OkD nx x.room) (wf2:e=0->nx.wf) {k:cE}
  (hk:∀h' F',JoA a w j d' ⟨w',x.room,if e=0 then nx else x.s⟩ h' F'->eA h0 F0 h' F'->k (.int .i64 e) h'):mW k (pT j 0) (pT r 0) (.int .i64 e) h:=by
 unfold mW;by_cases c:e=0
 ·have q:(e==0)=true:=by rw[c];rfl
  have l2:cD PG h (loadAt bR (pT r 0))=some (nx.v v'):=bR.agg B2 (by show 0+5≤5;decide);obtain⟨b,m,c',rfl⟩:=sC S2;simp only[gA,q,l2,fN.f2,cC,reduceIte,cI,Nat.reduceAdd];refine bR.put B (vs:=nx.cells (.slice b m c')) (o:=2) rfl (by show 2+5≤7;decide) (by simp[Dm.cells,fL]) λh3 B3 u3=>?_;unfold pK;have B3:Bx h3 j (Jn.cells w ⟨w',x.room,nx⟩ (.slice b m c')):=B3;rw[if_pos c] at hk;refine hk h3 (j::(mE (.slice b m c') nx.its.length++Fw)) ⟨⟨Fw,_,rfl,B3,W.upd u3 (kN n1),aF9 S2 u3 (kN m2),n1,m2,m3⟩,ok2 c,wf2 c⟩ ⟨?_,λb hb=>?_⟩
  ·exact st.upd.then u3 (λb hb=>by
    simp only[iC] at hb;exact st.grow b (by rw[hb];simp))
  ·simp only[iW,tK] at hb;rcases hb with rfl|hb|hb
   ·exact st.grow _ (by simp)
   ·exact m4 b hb
   ·exact st.grow b (by simp[hb])
 ·have q:(e==0)=false:=by rw[beq_eq_false_iff_ne];exact c
  rw[if_neg c] at hk;simp only[gA,q,cC,reduceIte,cI,Nat.reduceAdd];unfold pK;exact hk h _ ⟨⟨Fw,iv,rfl,B,W,S,n1,n2,n3⟩,ok,wf⟩ st
def aTA{h:PH}{a w j:Nat}{d:Dk}{x:Jn}{F:List Nat}{vn:Value}{ns:List Nt}(H:JoA a w j d x h F)(ch:Int)(q:Pl)(hq:q.wf)(N:wN h vn ns)(hn:∀y∈ns,y.p.wf)(hnl:ns.length≤1000)(hb:d.buf.length≤900000){k:cE}
  (hk:∀h' F',JoA a w j (lS d x ch q ns).1 (lS d x ch q ns).2.1 h' F'->eA h F h' F'->k (.int .i64 (lS d x ch q ns).2.2) h'):bT PG pU #[pT j 0,.int .i64 ch,.agg q.cells.toArray,vn] h k:=by
 apply mV.call;unfold mV;obtain⟨Fw,iv,eF,B,W,S,n1,n2,n3⟩:=id H.here;have hlen:=H.ok.len;have hr2:=H.ok.r2;have wfr:(gN ch q ns).wf:=⟨⟨Pl.wf_zero,Pl.wf_zero,by simp[gN,Dm.zero]⟩,hq,hn⟩;intro r1 hr1
 try rw[cR]
 have u1:dA h (h.set r1 (.cells (Value.cells (.agg q.cells.toArray)) cG)):=cX.new hr1;have B1:Bx (h.set r1 (.cells (Value.cells (.agg q.cells.toArray)) cG)) r1 q.cells:=Bx.new;generalize h.set r1 (.cells (Value.cells (.agg q.cells.toArray)) cG)=h1 at *;have H1:=H.ext u1;have L1:=JlB.of (B.ext u1);obtain⟨Fd0,eF0,Bw0,Dw0,nw0⟩:=id W.here;have Lw:=WoB.of (Bw0.ext u1);have lb:=Lw.broken;simp only[fN.f0,iT.load,L1.wal,cK.f6,gR.load,cC,reduceIte,cI,Nat.reduceAdd];unfold lS at hk;cases hx:x.w.broken with
 | true=>
  rw[if_pos hx] at hk;rw[hx] at lb;simp only[lb,cC,reduceIte,cI,Nat.reduceAdd];exact hk h1 F H1 (eA.ext u1)
 | false=>
  rw[if_neg (by rw[hx];decide)] at hk;rw[hx] at lb;have l1:cD PG h1 (loadAt cG (pT r1 0))=some (.agg q.cells.toArray):=cG.agg B1 (by show 0+2≤2;decide);obtain⟨bn,mn,cn,rfl⟩:=sC N;simp only[lb,l1,aQ2 ch q ns,cC,reduceIte,cI,Nat.reduceAdd];intro r7 hr7
  try rw[cR]
  refine bW.fill (vs:=(gN ch q ns).cells (.slice none 0 0) (.slice bn mn cn)) hr7 rfl (by simp[Rc.cells,fL]) λh2 B7 u2=>?_;have e2:=u1.trans u2;have L:=JlB.of (B.ext e2);have l7:cD PG h2 (loadAt bW (pT r7 0))=some ((gN ch q ns).v (.slice none 0 0) (.slice bn mn cn)):=bW.agg B7 (by show 0+10≤10;decide);simp only[fN.f1,fN.f2,L.st,aR.load,L.room,l7,cC,reduceIte,cI,Nat.reduceAdd];have nz:jT h2 (.slice none 0 0) (gN ch q ns).s.its:=(eH.nil (e:=cF)).slR;refine aPi (r:=gN ch q ns) (S.ext e2) H.wf (by omega) nz (N.ext e2) wfr (by show 0≤900;decide) (by show ns.length≤_;omega) λh3 v' S3 N3 u3=>?_;have N3:iQ h2 v':=N3.elim id (λe=>e▸iQ.nil);have e3:=e2.trans u3;obtain⟨P,hP⟩:∃P,lT x.s x.room (gN ch q ns)=P:=⟨_,rfl⟩;have hgood:=aEZ (d:=x.s) (room:=x.room) (r:=gN ch q ns);have hpwf:=aJH (d:=x.s) (room:=x.room) (r:=gN ch q ns);rw[hP] at hk S3 hgood hpwf ⊢;simp only[cC,reduceIte,cI,Nat.reduceAdd];intro r22 hr22
  try rw[cR]
  obtain⟨b',m',c',rfl⟩:=sC S3;refine bR.fill (vs:=P.1.cells (.slice b' m' c')) hr22 rfl (by simp[Dm.cells,fL]) λh4 B22 u4=>?_;have e4:=e3.trans u4;by_cases c:P.2=0
  ·have qc:(P.2 !=0)=false:=by rw[c];rfl
   rw[if_neg (λe=>e c)] at hk;obtain⟨-,hrc,hok2,-⟩:=hgood c;have hwf2:=hpwf c H.wf wfr;have l7':cD PG h4 (loadAt bW (pT r7 0))=some ((gN ch q ns).v (.slice none 0 0) (.slice bn mn cn)):=bW.agg ((B7.ext u3).ext u4) (by show 0+10≤10;decide);simp only[eI,qc,l7',cC,reduceIte,cI,Nat.reduceAdd];refine aMr (r:=gN ch q ns) (eH.nil (e:=cF)).slR (N.ext e4) wfr (by show 0≤_;omega) (by show ns.length≤_;omega) λh5 u5=>?_;have e5:=e4.trans u5;have L5:=JlB.of (B.ext e5);simp only[fN.f0,iT.load,L5.wal,iV,cC,reduceIte,cI,Nat.reduceAdd];have hsb:=aCO hrc;refine aUf (W.ext e5) _ (by omega) ?_;obtain⟨h6,eh6⟩:∃h6,h5=h6:=⟨_,rfl⟩;have u6:dA h5 h6:=by rw[eh6];exact cX.refl
   rw[eh6];have e6:=e5.trans u6;have L6:=JlB.of (B.ext e6);have W6:=W.ext e6;have S6:jT h6 (.slice b' m' c') P.1.its:=((S3.ext u4).ext u5).ext u6;have nb:∀b∈mE (.slice b' m' c') P.1.its.length,h2 b=none:=λb hb=>mE.new N3 hb;have d1:j∉mE (.slice b' m' c') P.1.its.length:=λhm=>(B.ext e2).known (nb j hm);have d2:∀b∈mE (.slice b' m' c') P.1.its.length,b∉Fw:=λb hb hf=>(W.ext e2).known b hf (nb b hb);have d3:∀b∈mE (.slice b' m' c') P.1.its.length,h b=none:=λb hb=>e2.none (nb b hb);have fin:∀h7 Fw' d' w' e,WoA a w d' w' h7 Fw'->eA h6 Fw h7 Fw'->vH d x (gN ch q ns) P.1=(d',w',e)->mW k (pT j 0) (pT r22 0) (.int .i64 e) h7:=by
    intro h7 Fw' d' w' e W7 s7 eq;rw[eq] at hk;have r22F:r22∉Fw:=λhm=>(W.ext e3).known r22 hm hr22;obtain⟨B7',k1⟩:=(B.ext e6).step s7 n1;obtain⟨B22',-⟩:=((B22.ext u5).ext u6).step s7 r22F;obtain⟨S7,k2⟩:=aBw S6 s7 d2;obtain⟨S7',k3⟩:=aBw (S.ext e6) s7 n3;refine aTg (x:=x) B7' S7' W7 B22' S7 k1 n2 k3 d1 k2 (λb hb=>.inr (d3 b hb)) ?_ H.ok H.wf (λ_=>hok2) (λ_=>hwf2) hk;refine⟨?_,λb hb=>?_⟩
    ·exact e6.upd.then s7.upd (λb hb=>.inl (by rw[eF];simp[hb]))
    ·rw[eF];simp only[iW,tK] at hb ⊢;rcases hb with rfl|hb|hb
     ·exact .inl (.inl rfl)
     ·exact .inl (.inr (.inl hb))
     ·rcases s7.grow b hb with e|e
      ·exact .inl (.inr (.inr e))
      ·exact .inr (e6.none e)
   unfold vH at fin;cases cf:fits d x.w (gN ch q ns).bytes.1.length with
   | true=>
    rw[if_pos cf] at fin;simp only[fN.f0,iT.load,L6.wal,cC,reduceIte,cI,Nat.reduceAdd];refine aSb W6 _ (by omega) (by omega) λh7 F7 W7 s7=>?_;exact fin h7 F7 _ _ _ W7 s7 rfl
   | false=>
    rw[if_neg (by rw[cf];decide)] at fin;have l22:cD PG h6 (loadAt bR (pT r22 0))=some (P.1.v (.slice b' m' c')):=bR.agg ((B22.ext u5).ext u6) (by show 0+5≤5;decide);simp only[fN.f0,iT.load,L6.wal,l22,cC,reduceIte,cI,Nat.reduceAdd];refine aOI S6 hwf2 (by have:=hok2.len;have:=hok2.r2;omega) λh7 u7=>?_;have L7:=JlB.of ((B.ext e6).ext u7);refine⟨L7.wal,?_⟩;have hsw:=aCO (aB7 hok2);refine aJS (W6.ext u7) _ (by unfold fZ;omega) (by omega) λh8 F8 W8 s8=>?_;exact fin h8 F8 _ _ _ W8 ((eA.ext u7).trans s8) rfl
  ·have qc:(P.2 !=0)=true:=bne_iff_ne.2 c;rw[if_pos c] at hk;simp only[eI,qc,cC,reduceIte,cI,Nat.reduceAdd];exact hk h4 F (H.ext e4) (eA.ext e4)
def aWB(w:Nat)(room:Int)(x:Wl)(s:Dm)(b:Option Addr)(n c:Nat):cB PG (build fN #[(0,pT w 0),(1,.int .i64 room),(2,s.v (.slice b n c))])=some (.agg (Jn.cells w ⟨x,room,s⟩ (.slice b n c)).toArray):=by kernel_rfl
def aWh(p q:Pl)(room:Int):chk ⟨p,q,[]⟩ room=0∨chk ⟨p,q,[]⟩ room=1:=by
 unfold chk;show(if nN room []=1∨¬(jU p∧jU q) then(1:Int) else if nN room []≠0 then nN room [] else if oC []≠[] then 15 else 0)=0∨_=1;split
 ·exact .inr rfl
 ·rename_i c;have h0:nN room []=0:=by
   unfold nN at c ⊢;split
   ·rename_i a;rw[if_pos a] at c;exact absurd (.inl rfl) c
   ·rename_i a;rw[if_neg a] at c;simp only[List.all_nil,Bool.true_eq_false,if_false,jB,List.nodup_nil,not_true_eq_false,kV];split
    ·rename_i b;omega
    ·rfl
  rw[h0,if_neg (by simp),if_neg (by show ¬(oC []≠[]);simp[oC])];exact .inl rfl
def aOX{h0 h:PH}{a w r:Nat}{d:Dk}{x:Wl}{F0 Fw:List Nat}{room:Int}{s:Dm}{iv:Value}(W:WoA a w d x h Fw)(B:Bx h r (s.cells iv))(S:jT h iv s.its)(n1:∀b∈mE iv s.its.length,b∉Fw)(rF:r∉Fw)(m4:∀b∈mE iv s.its.length,b∈F0∨h0 b=none)
  (st:eA h0 F0 h Fw) (ok:OkD s room) (wf:s.wf) (hb:d.buf.length≤900000) {k:cE}
  (bad:∀h' F',oF a (fP d x (fZ s)).1 h' F'->eA h0 F0 h' F'->(fP d x (fZ s)).2.2≠0->k (.tuple #[.pointer none,.int .i64 (fP d x (fZ s)).2.2]) h')
  (hk:∀h' F' j,JoA a w j (fP d x (fZ s)).1 ⟨(fP d x (fZ s)).2.1,room,s⟩ h' F'->eA h0 F0 h' F'->(fP d x (fZ s)).2.2=0->k (.tuple #[pT j 0,.int .i64 0]) h'):wU k (.int .i64 room) (pT r 0) (pT w 0) h:=by
 unfold wU;have l1:cD PG h (loadAt bR (pT r 0))=some (s.v iv):=bR.agg B (by show 0+5≤5;decide);simp only[l1,cC,reduceIte,cI,Nat.reduceAdd];refine aOI S wf (by have:=ok.len;have:=ok.r2;omega) λh1 u1=>?_;have hsw:=aCO (aB7 ok);refine aJS (W.ext u1) _ (by unfold fZ;omega) (by omega) λh2 F2 W2 s2=>?_;have st2:=st.trans ((eA.ext (F:=Fw) u1).trans s2);obtain⟨P,hP⟩:∃P,fP d x (fZ s)=P:=⟨_,rfl⟩;rw[hP] at bad hk W2 ⊢;by_cases c:P.2.2=0
 ·have q:(P.2.2 !=0)=false:=by rw[c];rfl
  obtain⟨B2,-⟩:=(B.ext u1).step s2 rF;obtain⟨S2,k2⟩:=aBw (S.ext u1) s2 n1;have l2:cD PG h2 (loadAt bR (pT r 0))=some (s.v iv):=bR.agg B2 (by show 0+5≤5;decide);obtain⟨b,m,c',rfl⟩:=sC S2;simp only[eI,q,l2,aWB w room P.2.1 s,cC,reduceIte,cI,Nat.reduceAdd];intro r37 hr37
  try rw[cR]
  have u3:dA h2 (h2.set r37 (.cells (Value.cells (.agg (Jn.cells w ⟨P.2.1,room,s⟩ (.slice b m c')).toArray)) fN)):=cX.new hr37;have B3:Bx (h2.set r37 (.cells (Value.cells (.agg (Jn.cells w ⟨P.2.1,room,s⟩ (.slice b m c')).toArray)) fN)) r37 (Jn.cells w ⟨P.2.1,room,s⟩ (.slice b m c')):=Bx.new;generalize h2.set r37 (.cells (Value.cells (.agg (Jn.cells w ⟨P.2.1,room,s⟩ (.slice b m c')).toArray)) fN)=h3 at *;refine hk h3 (r37::(mE (.slice b m c') s.its.length++F2)) r37 ⟨⟨F2,_,rfl,B3,W2.ext u3,S2.ext u3,λhm=>W2.known r37 hm hr37,λhm=>aEs S2 r37 hm hr37,k2⟩,ok,wf⟩ ⟨st2.upd.trans u3.upd,λb hb=>?_⟩ c;simp only[iW,tK] at hb;rcases hb with rfl|hb|hb
  ·exact st2.none hr37
  ·exact m4 b hb
  ·exact st2.grow b hb
 ·have q:(P.2.2 !=0)=true:=bne_iff_ne.2 c;simp only[eI,q,cC,reduceIte,cI,Nat.reduceAdd];obtain⟨Fd,eF,-,D2,-⟩:=W2.here;exact bad h2 Fd D2 ⟨st2.upd,λb hb=>st2.grow b (by rw[eF];simp[hb])⟩ c
def aTF{h:PH}{a:Nat}{d:Dk}{F:List Nat}(D:oF a d h F)(room:Int)(p q:Pl)(wp:p.wf)(wq:q.wf)(hs:d.sectors≤1000)(hb:d.buf.length≤800000){k:cE}
  (hrep:∀(h:PH) (v:Value),iH h 1 v ((fA d).2.1.2.map jI)->(fA d).2.1.2≠[]->∀{k:cE},(∀h' v',jT h' v' (yM room (fA d).2.1.2).1.its->iQ h v'->dA h h'->k (.tuple #[(yM room (fA d).2.1.2).1.v v',.int .i64 (yM room (fA d).2.1.2).2]) h')->bT PG oM #[.int .i64 room,v] h k)
  (bad:∀h' F',oF a (fU d room p q).1 h' F'->eA h F h' F'->(fU d room p q).2.2≠0->k (.tuple #[.pointer none,.int .i64 (fU d room p q).2.2]) h')
  (hk:∀h' F' w j,JoA a w j (fU d room p q).1 (fU d room p q).2.1 h' F'->eA h F h' F'->(fU d room p q).2.2=0->k (.tuple #[pT j 0,.int .i64 0]) h'):bT PG xN #[pT a 0,.int .i64 room,lO p q] h k:=by
 apply aBE.call;unfold aBE;intro r1 hr1
 try rw[cR]
 have u1:dA h (h.set r1 (.cells (Value.cells (lO p q)) cU)):=cX.new hr1;have B1:Bx (h.set r1 (.cells (Value.cells (lO p q)) cU)) r1 (p.cells++q.cells):=Bx.new;generalize h.set r1 (.cells (Value.cells (lO p q)) cU)=h1 at *;have l1:cD PG h1 (loadAt cU (pT r1 0))=some (lO p q):=cU.agg B1 (by show 0+4≤4;decide);simp only[l1,aRQ,cC,reduceIte,cI,Nat.reduceAdd];intro r5 hr5
 try rw[cR]
 refine bR.fill (vs:=Dm.cells ⟨p,q,[]⟩ (.slice none 0 0)) hr5 rfl (by simp[Dm.cells,fL]) λh2 B2 u2=>?_;have e2:=u1.trans u2;have l2:cD PG h2 (loadAt bR (pT r5 0))=some (Dm.v ⟨p,q,[]⟩ (.slice none 0 0)):=bR.agg B2 (by show 0+5≤5;decide);have r5F:r5∉F:=λhm=>(D.ext u1).known r5 hm hr5;simp only[l2,cC,reduceIte,cI,Nat.reduceAdd];have nz:∀{h:PH},jT h (.slice none 0 0) (⟨p,q,[]⟩:Dm).its:=(eH.nil (e:=cF)).slR;refine aId (d:=⟨p,q,[]⟩) nz (by simp) ⟨wp,wq,by simp⟩ λh3 u3=>?_;have e3:=e2.trans u3;unfold fU at bad hk;have wf0:(⟨p,q,[]⟩:Dm).wf:=⟨wp,wq,by simp⟩;by_cases c:chk ⟨p,q,[]⟩ room=0
 ·have qc:(chk ⟨p,q,[]⟩ room !=0)=false:=by rw[c];rfl
  rw[if_neg (λe=>e c)] at bad hk;simp only[eI,qc,cC,reduceIte,cI,Nat.reduceAdd];refine aS7 (D.ext e3) (by omega) (λh4 F4 D4 s4 ne=>?_) (λh4 F4 w v G W4 O4 dj s4 e0=>?_)
  ·have q4:((fA d).2.2 !=0)=true:=bne_iff_ne.2 ne;rw[if_pos ne] at bad;simp only[eI,q4,cC,reduceIte,cI,Nat.reduceAdd];exact bad h4 F4 D4 ((eA.ext e3).trans s4) ne
  ·have q4:((0:Int) !=0)=false:=rfl;rw[if_neg (λe=>e e0)] at bad hk;have hfw:=aI5 D.ok;have hbw:=aI7 d;have hsg:d.segs≤1000:=by unfold Dk.segs;omega
   have st4:=(eA.ext (F:=F) e3).trans s4;obtain⟨B4,r54⟩:=(B2.ext u3).step s4 r5F;have r5w:r5∉F4:=λhm=>r54 (by simp[hm]);have st4':eA h F h4 F4:=⟨st4.upd,λb hb=>st4.grow b (by simp[hb])⟩;have hmay:=aKj (room:=room) (s0:=⟨p,q,[]⟩) (l:=(fA d).2.1.2) c wf0;obtain⟨l,hl⟩:∃l,(fA d).2.1.2=l:=⟨_,rfl⟩;rw[hl] at bad hk O4 hfw hmay hrep;have lv:=aAK O4.slR;by_cases c0:l=[]
   ·have es:kE room ⟨p,q,[]⟩ l=(⟨p,q,[]⟩,0):=by unfold kE;rw[if_pos c0]
    rw[es] at bad hk hmay;rw[if_neg (λe=>e rfl)] at bad hk;have g:((0:Int)<(l.length:Int))=False:=eq_false (by rw[c0];simp);simp only[eI,q4,lv,g,cC,reduceIte,cI,Nat.reduceAdd];refine aOX (h0:=h) (F0:=F) W4 B4 nz (λb hb=>by cases hb) r5w (λb hb=>by cases hb) st4' (hmay rfl).1 wf0 (by omega) (λh' F' D' st ne=>?_) (λh' F' j J st e=>?_)
    ·rw[if_pos ne] at bad;exact bad h' F' D' st ne
    ·rw[if_neg (λx=>x e)] at hk;exact hk h' F' w j J st rfl
   ·have es:kE room ⟨p,q,[]⟩ l=yM room l:=by unfold kE;rw[if_neg c0]
    rw[es] at bad hk hmay;have hpos:0<l.length:=aJ6.2 c0;have g:((0:Int)<(l.length:Int))=True:=eq_true (by omega);simp only[eI,q4,lv,g,cC,reduceIte,cI,Nat.reduceAdd];refine hrep _ _ O4.slR c0 λh5 v5 S5 N5 u5=>?_;obtain⟨R,hR⟩:∃R,yM room l=R:=⟨_,rfl⟩;rw[hR] at bad hk hmay S5 ⊢;simp only[cC,reduceIte,cI,Nat.reduceAdd];have B5:=B4.ext u5;obtain⟨b',m',c',rfl⟩:=sC S5;refine bR.put B5 (vs:=R.1.cells (.slice b' m' c')) (o:=0) rfl (by show 0+5≤5;decide) (by simp[Dm.cells,fL]) λh6 B6 u6=>?_;have W6:=(W4.ext u5).upd u6 (kN r5w);have m5:∀b∈mE (.slice b' m' c') R.1.its.length,h4 b=none:=λb hb=>mE.new N5 hb;have r5s:r5∉mE (.slice b' m' c') R.1.its.length:=λhm=>B4.known (m5 r5 hm);have S6:=aF9 S5 u6 (kN r5s);have f5:h r5=none:=u1.none hr5;have st6:eA h F h6 F4:=⟨(st4'.upd.trans u5.upd).then u6 (λb hb=>by
     simp only[iC] at hb;rw[hb];exact .inr f5),st4'.grow⟩
    by_cases c2:R.2=0
    ·have q2:(R.2 !=0)=false:=by rw[c2];rfl
     rw[if_neg (λe=>e c2)] at bad hk;simp only[eI,q2,cC,reduceIte,cI,Nat.reduceAdd];refine aOX (h0:=h) (F0:=F) (s:=R.1) (iv:=.slice b' m' c') W6 B6 S6 (λb hb hf=>W4.known b hf (m5 b hb)) r5w (λb hb=>st4'.none (m5 b hb)) st6 (hmay c2).1 (hmay c2).2 (by omega) (λh' F' D' st ne=>?_) (λh' F' j J st e=>?_)
     ·rw[if_pos ne] at bad;exact bad h' F' D' st ne
     ·rw[if_neg (λx=>x e)] at hk;exact hk h' F' w j J st rfl
    ·have q2:(R.2 !=0)=true:=bne_iff_ne.2 c2;rw[if_pos c2] at bad;simp only[eI,q2,cC,reduceIte,cI,Nat.reduceAdd];obtain⟨Fd,eF,-,D6,-⟩:=W6.here;exact bad h6 Fd D6 ⟨st6.upd,λb hb=>st6.grow b (by rw[eF];simp[hb])⟩ c2
 ·have qc:(chk ⟨p,q,[]⟩ room !=0)=true:=bne_iff_ne.2 c;rw[if_pos c] at bad;have c1:chk ⟨p,q,[]⟩ room=1:=(aWh p q room).resolve_left c;rw[c1] at bad;simp only[eI,qc,cC,reduceIte,cI,Nat.reduceAdd];exact bad h3 F (D.ext e3) (eA.ext e3) (by show(1:Int)≠0;decide)
end Go.Proofs.YtiohehjhlghikaaGreatDoor
