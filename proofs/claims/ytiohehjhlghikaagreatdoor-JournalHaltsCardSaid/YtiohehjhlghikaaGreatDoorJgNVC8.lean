/- The texts of this claim, put together. -/
import Derived.Test.YtiohehjhlghikaaGreatDoorJgNVC7
set_option linter.all false
set_option maxRecDepth 100000
open Go.Instr (loadAt fieldAt indexAt extract buildSlice build)
namespace Go.Proofs.YtiohehjhlghikaaGreatDoor
open Go
structure rS(r:Nat)(d:Dk)(h:PH)(F:List Nat):Prop where
 here:∃bv Fb,F=r::Fb∧Bx h r [.int .i64 (d.size:Int),.int .i64 (d.sectors:Int),.string (tx d.st.flatten),bv,.int .i64 (d.arm:Int)]∧eJ h dV 2 bv (d.buf.map uC) Fb∧r∉Fb
 ok:d.Ok
 arm:d.arm<9223372036854775808
def rS.known{r:Nat}{d:Dk}{h:PH}{F:List Nat}(H:rS r d h F):∀b∈F,h b≠none:=by
 obtain⟨bv,Fb,rfl,B,W,-⟩:=H.here;intro b hb;rcases iR.1 hb with rfl|hb
 ·exact B.known
 ·exact W.known b hb
def rS.upd{r:Nat}{d:Dk}{h h':PH}{F K:List Nat}(H:rS r d h F)(u:cT K h h')(hK:∀b∈F,b∉K):rS r d h' F:=by
 obtain⟨bv,Fb,rfl,B,W,n⟩:=H.here;exact⟨⟨bv,Fb,rfl,B.upd u (hK r (by simp)),W.upd u (λb hb=>hK b (by simp[hb])),n⟩,H.ok,H.arm⟩
def rS.good(r:Nat)(d:Dk):aHM (rS r d):=⟨λH=>H.known,λH u hK=>H.upd u hK⟩
def rS.ext{r:Nat}{d:Dk}{h h':PH}{F:List Nat}(H:rS r d h F)(u:cZ h h'):rS r d h' F:=(rS.good r d).ext H u
structure DoB(r:Nat)(d:Dk)(h:PH)(bv:Value):Prop where
 size:cX h ⟨r,0,none⟩=some (.int .i64 (d.size:Int))
 sectors:cX h ⟨r,0+1,none⟩=some (.int .i64 (d.sectors:Int))
 st:cX h ⟨r,0+2,none⟩=some (.string (tx d.st.flatten))
 buf:cX h ⟨r,0+3,none⟩=some bv
 arm:cX h ⟨r,0+4,none⟩=some (.int .i64 (d.arm:Int))
def DoB.of{r:Nat}{d:Dk}{h:PH}{bv:Value}(B:Bx h r [.int .i64 (d.size:Int),.int .i64 (d.sectors:Int),.string (tx d.st.flatten),bv,.int .i64 (d.arm:Int)]):DoB r d h bv:=⟨B.cell 0,B.cell 1,B.cell 2,B.cell 3,B.cell 4⟩
def rS.b{r:Nat}{d:Dk}{h:PH}{F:List Nat}(H:rS r d h F):∃bv,DoB r d h bv:=by
 obtain⟨bv,Fb,rfl,B,-⟩:=H.here;exact⟨bv,DoB.of B⟩
def aNT{h:PH}{r:Nat}{d:Dk}{F:List Nat}(D:rS r d h F){k:cF}(hk:∀h',rS r d.tick h' F->cT F h h'->k (.bool (decide (d.arm=1))) h'):bT PG qF #[pT r 0] h k:=by
 apply sW.call;unfold sW;have ha:=D.arm;obtain⟨bv,Fb,rfl,B,W,n1⟩:=id D.here;have L:=DoB.of B;have e:((d.arm:Int)==1)=decide (d.arm=1):=by rw[xQ,beq_iff_eq,decide_eq_true_iff];omega
 by_cases c:d.arm=0
 ·have g:((0:Int)<(d.arm:Int))=False:=eq_false (by omega);have et:d.tick=d:=by
   unfold Dk.tick;rw[c];obtain⟨x1,x2,x3,x4,x5⟩:=d;simp only at c;subst c;rfl
  rw[et] at hk;simp only[dC.f4,aR.load,L.arm,g,pS,fO,e,cB,reduceIte,cJ,Nat.reduceAdd];exact hk h D cT.refl
 ·have g:((0:Int)<(d.arm:Int))=True:=eq_true (by omega);have w:IntKind.i64.wrap ((d.arm:Int)-1)=((d.arm-1:Nat):Int):=by rw[eI (by omega) (by omega)];omega
  simp only[dC.f4,aR.load,L.arm,g,w,cB,reduceIte,cJ,Nat.reduceAdd];refine aR.put B (o:=4) (by show 4<5;decide) rfl λh2 B2 u2=>?_;simp only[pS,fO,e,cB,reduceIte,cJ,Nat.reduceAdd];exact hk h2 ⟨⟨bv,Fb,rfl,B2,W.upd u2 (lM n1),n1⟩,D.ok.tick,by show d.arm-1<_;omega⟩ (u2.mono λb hb=>.inl (by simp only[iL] at hb;simp[hb]))
def aU0{h:PH}{r size sectors n:Nat}{st:List Tx}{bv av:Value}{s:Tx}(B:Bx h r [.int .i64 (size:Int),.int .i64 (sectors:Int),.string (tx st.flatten),bv,av])(hx:∀s∈st,s.length=size)(hn:n<st.length)(hs:s.length≤size)(hz:size≤512)(hl:st.length≤4096){k:cF}
  (hk:∀h',Bx h' r [.int .i64 (size:Int),.int .i64 (sectors:Int),.string (tx (st.set n (s++(st.getD n []).drop s.length)).flatten),bv,av]->cT [r] h h'->k (.tuple #[]) h'):bT PG xJ #[pT r 0,.int .i64 (n:Int),.string (tx s)] h k:=by
 apply oJ.call;unfold oJ;have c0:cX h ⟨r,0,none⟩=some (.int .i64 (size:Int)):=B.cell 0;have c2:cX h ⟨r,0+2,none⟩=some (.string (tx st.flatten)):=B.cell 2;have fl:=aAN hx;have m0:st.length*size≤4096*512:=Nat.mul_le_mul hl hz;have m1:n*size≤st.length*size:=wA _ (by omega);have m2:(n+1)*size≤st.length*size:=wA _ (by omega);have m3:(n+1)*size=n*size+size:=Nat.succ_mul _ _;have w1:IntKind.i64.wrap ((n:Int)*(size:Int))=((n*size:Nat):Int):=by rw[←Int.natCast_mul,eI (by omega) (by omega)]
 have w2:IntKind.i64.wrap (((n*size:Nat):Int)+(s.length:Int))=((n*size+s.length:Nat):Int):=by rw[eI (by omega) (by omega)];omega
 have k1:cC PG (Instr.sliceAt aT (.string (tx st.flatten)) none (some (.int .i64 ((n*size:Nat):Int))) none)=some (.string (tx (st.flatten.take (n*size)))):=by
  have:=kL (P:=PG) (t:=aT) (l:=st.flatten) (i:=0) (j:=n*size) (lo:=none) (hi:=some (.int .i64 ((n*size:Nat):Int))) aT.und (.inl ⟨rfl,rfl⟩) (.inr ⟨_,rfl⟩) (by omega) (by omega);rw[this,zLb]
 have k2:cC PG (Instr.sliceAt aT (.string (tx st.flatten)) (some (.int .i64 ((n*size+s.length:Nat):Int))) none none)=some (.string (tx (st.flatten.drop (n*size+s.length)))):=by
  have:=kL (P:=PG) (t:=aT) (l:=st.flatten) (i:=n*size+s.length) (j:=st.flatten.length) (lo:=some (.int .i64 ((n*size+s.length:Nat):Int))) (hi:=none) aT.und (.inr ⟨_,rfl⟩) (.inl ⟨rfl,rfl⟩) (by omega) (by omega);rw[this,zLJ]
 have a1:cC PG (binOp .add aT (.string (tx (st.flatten.take (n*size)))) (.string (tx s)))=some (.string (tx (st.flatten.take (n*size)++s))):=jT (by rw[mN];omega);have a2:cC PG (binOp .add aT (.string (tx (st.flatten.take (n*size)++s))) (.string (tx (st.flatten.drop (n*size+s.length)))))=some (.string (tx (st.flatten.take (n*size)++s++st.flatten.drop (n*size+s.length)))):=jT (by rw[jO,mN,jC];omega);simp only[dC.f0,dC.f2,aR.load,aT.load,c0,c2,nD,w1,k1,a1,iO,w2,k2,a2,cB,reduceIte,cJ,Nat.reduceAdd];refine aT.put B (o:=2) (by show 2<5;decide) rfl λh2 B2 u2=>?_;refine hk h2 ?_ u2;rw[←aUI hx hn hs];exact B2
def aWn(n:Int)(s:ByteArray):cC PG (build dV #[(0,.int .i64 n),(1,.string s)])=some (.agg #[.int .i64 n,.string s]):=by kernel_rfl
def aWF(n:Int)(s:ByteArray):jX PG (buildSlice dI 1 #[(0,.agg #[.int .i64 n,.string s])])=some (.cells #[.int .i64 n,.string s] dV,λr=>pure (.slice (some ⟨r,0,none⟩) 1 1)):=by kernel_rfl
def aXg:jX PG (buildSlice dI 0 #[])=some (.cells #[] dV,λr=>pure (.slice (some ⟨r,0,none⟩) 0 0)):=by kernel_rfl
def aOj{h:PH}{v:Value}{l:List (Nat×Tx)}(S:hM h 2 v (l.map uC)):cC PG (Builtin.len_ #[dI] aR #[v])=some (.int .i64 l.length):=by
 have:=S.len (t':=aR) dI.und;rw[iF] at this;exact this
def aUl{h:PH}{v:Value}{l:List (Nat×Tx)}(S:hM h 2 v (l.map uC)){i:Nat}{w:Nat×Tx}(hx:l[i]? =some w):∃b o,cC PG (indexAt dI v (.int .i64 (i:Int)))=some (pT b o)∧cX h ⟨b,o,none⟩=some (.int .i64 (w.1:Int))∧cX h ⟨b,o+1,none⟩=some (.string (tx w.2)):=by
 obtain⟨b,o,h1,hf⟩:=S.fields (t:=dI) (k:=.i64) (j:=i) dI.und dV.info dV.size (r:=uC w) (by rw[wW,hx];rfl);exact⟨b,o,h1,hf.1 0 _ rfl,hf.1 1 _ rfl⟩
def aRQ{h:PH}{r:Nat}{d:Dk}{F:List Nat}(D:rS r d h F)(n:Int)(s:Tx)(hb:d.buf.length≤1000000){k:cF}(hk:∀h' F',rS r (d.wr n s).1 h' F'->eN h F h' F'->k (.int .i64 (d.wr n s).2) h'):bT PG vV #[pT r 0,.int .i64 n,.string (tx s)] h k:=by
 apply sT.call;unfold sT;obtain⟨bv,L⟩:=D.b;have hok:=D.ok.wr n s;unfold Dk.wr at hk hok;have bad:(n<0∨(d.sectors:Int)≤n∨s.length≠d.size)->k (.int .i64 1) h:=λc=>by
  rw[if_pos c] at hk;exact hk h F D eN.refl
 by_cases c0:n<0
 ·have g:(n<0)=True:=eq_true c0;simp only[g,cB,reduceIte,cJ,Nat.reduceAdd];exact bad (.inl c0)
 ·have g:(n<0)=False:=eq_false c0;by_cases c1:(d.sectors:Int)≤n
  ·have g1:((d.sectors:Int)≤n)=True:=eq_true c1;simp only[g,dC.f1,aR.load,L.sectors,g1,cB,reduceIte,cJ,Nat.reduceAdd];exact bad (.inr (.inl c1))
  ·have g1:((d.sectors:Int)≤n)=False:=eq_false c1;by_cases c2:s.length=d.size
   ·have q2:((s.length:Int) !=(d.size:Int))=false:=by simp[c2]
    rw[if_neg (by omega)] at hk hok;simp only[g,dC.f0,dC.f1,aR.load,L.sectors,L.size,g1,iO,dY,q2,cB,reduceIte,cJ,Nat.reduceAdd];refine aNT D λh2 D2 u2=>?_;have st2:eN h F h2 F:=⟨u2,λb hb=>.inl hb⟩;by_cases c3:d.arm=1
    ·rw[if_pos c3] at hk;simp only[c3,decide_true,cB,reduceIte,cJ,Nat.reduceAdd];exact hk h2 F D2 st2
    ·rw[if_neg c3] at hk hok;obtain⟨bv,Fb,eF,B2,W2,n1⟩:=D2.here;simp only[c3,decide_false,aXg,cB,reduceIte,cJ,Nat.reduceAdd];intro r54 hr54;refine gY ?_
     try rw[cO]
     have O3:eJ (h2.set r54 (.cells #[] dV)) dV 2 (.slice (some ⟨r54,0,none⟩) 0 0) [] [r54]:=eJ.lit (n:=0) (λr hr=>by cases hr) eD rfl (by decide) rfl;have u3:cZ h2 (h2.set r54 (.cells #[] dV)):=cT.new hr54;generalize h2.set r54 (.cells #[] dV)=h3 at *;have L3:=DoB.of (B2.ext u3);have bl:(d.tick.buf.map uC).length=d.buf.length:=by rw[iF];rfl
     have f54:h2 r54=none:=hr54;simp only[dC.f3,dI.load,L3.buf,cB,reduceIte,cJ,Nat.reduceAdd];refine lL dI.und dI.und dV.info dV.size dV.bytes dV.zero rfl (by decide) O3 (W2.slR.ext u3) (by
      intro r hr u hu;obtain⟨m,_,rfl⟩:=pV.1 hr;exact uC.isC m u hu) (by rw[bl];simp only[kI];omega) ?_
     intro v4 h4 F4 O4 u4 g4 _;rw[zLU] at O4;have g4':∀b∈F4,h2 b=none:=λb hb=>by
      rcases g4 b hb with e|e
      ·simp only[iL] at e;rw[e];exact f54
      ·exact u3.none e
     have e4:cZ h2 h4:=u3.fresh u4 (dZ.one f54);simp only[aWn,aWF,cB,reduceIte,cJ,Nat.reduceAdd];intro r64 hr64;refine gY ?_
     try rw[cO]
     have Sl:hM (h4.set r64 (.cells #[.int .i64 n,.string (tx s)] dV)) 2 (.slice (some ⟨r64,0,none⟩) 1 1) [[.int .i64 n,.string (tx s)]]:=(eJ.lit (e:=dV) (size:=2) (rows:=[[.int .i64 n,.string (tx s)]]) (n:=1) (λr hr=>by simp only[iL] at hr;rw[hr];rfl) eD rfl (by decide) rfl).slR;have u5:cZ h4 (h4.set r64 (.cells #[.int .i64 n,.string (tx s)] dV)):=cT.new hr64;generalize h4.set r64 (.cells #[.int .i64 n,.string (tx s)] dV)=h5 at *;refine lL dI.und dI.und dV.info dV.size dV.bytes dV.zero rfl (by decide) (O4.ext u5) Sl (by simp[fI]) (by rw[bl];simp only[iP,kI];omega) ?_;intro v6 h6 F6 O6 u6 g6 _;have g6':∀b∈F6,h2 b=none:=λb hb=>by
      rcases g6 b hb with e|e
      ·exact g4' b e
      ·exact(e4.trans u5).none e
     have e6:cZ h2 h6:=(e4.trans u5).fresh u6 g4';have en:n=((n.toNat:Nat):Int):=by omega
     have O6:eJ h6 dV 2 v6 ((d.buf++[(n.toNat,s)]).map uC) F6:=by
      rw[wB];have:uC (n.toNat,s)=[.int .i64 n,.string (tx s)]:=by unfold uC;simp only;rw[←en]
      rw[hY,iZ,this];exact O6
     have n6:r∉F6:=λhm=>B2.known (g6' r hm);refine dI.put (B2.ext e6) (o:=3) (by show 3<5;decide) O6.slR.isc λh7 B7 u7=>?_;have ha:=D.arm;refine hk h7 (r::F6) ⟨⟨v6,F6,rfl,B7,O6.upd u7 (lM n6),n6⟩,hok,by show d.arm-1<_;omega⟩ (st2.trans ⟨?_,?_⟩)
     ·rw[eF];exact(e6.upd.trans (u7.mono λb hb=>.inl (by simp only[iL] at hb;simp[hb])))
     ·intro b hb;rw[eF];rcases iR.1 hb with rfl|hb
      ·exact .inl (by simp)
      ·exact .inr (g6' b hb)
   ·have q2:((s.length:Int) !=(d.size:Int))=true:=by rw[bne_iff_ne];omega
    simp only[g,dC.f0,dC.f1,aR.load,L.sectors,L.size,g1,iO,dY,q2,cB,reduceIte,cJ,Nat.reduceAdd];exact bad (.inr (.inr c2))
def aTs{st:List Tx}{n size:Nat}{s:Tx}(hx:∀s∈st,s.length=size)(hn:n<st.length)(hs:s.length=size):st.set n (s++(st.getD n []).drop s.length)=st.set n s:=by
 have hl:=hx _ (aJB hn);rw[aD4,kO hn,Option.getD_some,aBA (by omega),zLQ]
def aMP{h:PH}{r:Nat}{d:Dk}{F:List Nat}(D:rS r d h F)(hb:d.buf.length≤1000000){k:cF}(hk:∀h' F',rS r d.fl.1 h' F'->eN h F h' F'->k (.int .i64 d.fl.2) h'):bT PG qG #[pT r 0] h k:=by
 apply nI.call;unfold nI;have hok:=D.ok.fl;have hz:=D.ok.size;unfold fU at hz;unfold Dk.fl at hk hok;refine aNT D λh1 D1 u1=>?_;have st1:eN h F h1 F:=⟨u1,λb hb=>.inl hb⟩;by_cases c:d.arm=1
 ·rw[if_pos c] at hk;simp only[c,decide_true,cB,reduceIte,cJ,Nat.reduceAdd];exact hk h1 F D1 st1
 ·rw[if_neg c] at hk hok;obtain⟨bv,Fb,eF,B,W,n1⟩:=D1.here;have B:Bx h1 r [.int .i64 (d.size:Int),.int .i64 (d.sectors:Int),.string (tx d.st.flatten),bv,.int .i64 ((d.arm-1:Nat):Int)]:=B;have W:eJ h1 dV 2 bv (d.buf.map uC) Fb:=W;simp only[c,decide_false,cB,reduceIte,cJ,Nat.reduceAdd];refine⟨λvs h'=>∃i:Nat,i≤d.buf.length∧vs=[pT r 0,.int .i64 (i:Int)]∧Bx h' r [.int .i64 (d.size:Int),.int .i64 (d.sectors:Int),.string (tx (lP d.st (d.buf.take i)).flatten),bv,.int .i64 ((d.arm-1:Nat):Int)]∧cT [r] h1 h',fN d.buf.length 1,⟨0,by omega,rfl,B,cT.refl⟩,?_⟩;rintro ρ h' ⟨i,hi,hvs,B2,w⟩;simp only[hY,iZ,kP,and_true] at hvs;obtain⟨x0,x3⟩:=hvs;unfold aBs;rw[x0,x3];have W2:=W.upd w (lM n1);have cb:cX h' ⟨r,0+3,none⟩=some bv:=B2.cell 3;by_cases hlt:i<d.buf.length
  ·have g:((i:Int)<(d.buf.length:Int))=True:=eq_true (by omega);have gi:=nP (i:=i) (by omega);obtain⟨x,hx⟩:∃x,d.buf[i]? =some x:=⟨_,kO hlt⟩;have hxb:=D.ok.buf x (wP hx);obtain⟨b,o,i1,f0,f1⟩:=aUl W2.slR hx;have ea:∀s∈lP d.st (d.buf.take i),s.length=d.size:=aFv _ _ D.ok.each (λw hw=>(D.ok.buf w (List.mem_of_mem_take hw)).2);have el:(lP d.st (d.buf.take i)).length=d.sectors:=by rw[aAA,D.ok.len]
   have hm:=D.ok.many;simp only[dC.f3,dI.load,cb,aOj W2.slR,g,i1,dV.f0,dV.f1,aR.load,aT.load,f0,f1,cB,reduceIte,cJ,Nat.reduceAdd];refine aU0 B2 ea (by omega) (by omega) hz.2 (by omega) λh3 B3 u3=>?_;rw[aTs ea (by omega) hxb.2,←aIa hx] at B3;simp only[gi,cB,reduceIte,cJ,Nat.reduceAdd];exact⟨⟨i+1,by omega,rfl,B3,w.trans u3⟩,by simp[fN,x3];omega⟩
  ·have g:((i:Int)<(d.buf.length:Int))=False:=eq_false (by omega);have ei:d.buf.take i=d.buf:=qX (by omega);rw[ei] at B2;simp only[dC.f3,dI.load,cb,aOj W2.slR,g,cB,reduceIte,cJ,Nat.reduceAdd];refine dI.put B2 (o:=3) (by show 3<5;decide) rfl λh3 B3 u3=>?_;have ha:=D.arm;refine hk h3 (r::[]) ⟨⟨.slice none 0 0,[],rfl,B3,eJ.nil,by simp⟩,hok,by show d.arm-1<_;omega⟩ (st1.trans ⟨?_,?_⟩)
   ·rw[eF];exact(w.trans u3).mono λb hb=>.inl (by simp only[iL] at hb;simp[hb])
   ·intro b hb;rw[eF];simp only[iL] at hb;exact .inl (by simp[hb])
def aWI(vs:List Value)(_:PH):Nat:=match vs[2]? with|some (Value.int _ y)=>(y+1).toNat|_=>0
def aKR{h:PH}{r:Nat}{d:Dk}{F:List Nat}(D:rS r d h F)(n:Int)(hb:d.buf.length≤1000000){k:cF}(hk:k (.tuple #[.string (tx (d.rd n).1),.int .i64 (d.rd n).2]) h):bT PG oF #[pT r 0,.int .i64 n] h k:=by
 apply oB.call;unfold oB;obtain⟨bv,Fb,eF,B,W,n1⟩:=id D.here;have L:=DoB.of B;have hz:=D.ok.size;unfold fU at hz;unfold Dk.rd at hk;by_cases c0:n<0
 ·have g:(n<0)=True:=eq_true c0;rw[if_pos (.inl c0)] at hk;simp only[g,cB,reduceIte,cJ,Nat.reduceAdd];exact hk
 ·have g:(n<0)=False:=eq_false c0;by_cases c1:(d.sectors:Int)≤n
  ·have g1:((d.sectors:Int)≤n)=True:=eq_true c1;rw[if_pos (.inr c1)] at hk;simp only[g,dC.f1,aR.load,L.sectors,g1,cB,reduceIte,cJ,Nat.reduceAdd];exact hk
  ·have g1:((d.sectors:Int)≤n)=False:=eq_false c1;rw[if_neg (by omega)] at hk;have en:n=((n.toNat:Nat):Int):=by omega
   have hn:n.toNat<d.sectors:=by omega
   obtain⟨m,hm⟩:∃m,n.toNat=m:=⟨_,rfl⟩;rw[hm] at en hn hk;subst en;have w1:IntKind.i64.wrap ((d.buf.length:Int)-1)=(d.buf.length:Int)-1:=eI (by omega) (by omega);simp only[g,dC.f1,dC.f3,aR.load,dI.load,L.sectors,L.buf,g1,aOj W.slR,w1,cB,reduceIte,cJ,Nat.reduceAdd];refine⟨λvs h'=>∃i:Nat,i≤d.buf.length∧vs=[pT r 0,.int .i64 (m:Int),.int .i64 ((i:Int)-1)]∧h'=h∧∀x∈d.buf.drop i,x.1≠m,aWI,⟨d.buf.length,mG _,rfl,rfl,by simp⟩,?_⟩;rintro ρ h' ⟨i,hi,hvs,rfl,hno⟩;simp only[hY,iZ,kP,and_true] at hvs;obtain⟨x0,x1,x6⟩:=hvs;unfold aBv;rw[x0,x1,x6];have hl:m<d.st.length:=by rw[D.ok.len];exact hn
   by_cases ci:i=0
   ·subst ci;have g2:((0:Int)≤((0:Nat):Int)-1)=False:=eq_false (by decide);have hm4:=D.ok.many;have m1:(m+1)*d.size≤d.sectors*d.size:=wA _ hn;have m0:m*d.size≤(m+1)*d.size:=wA _ (Nat.le_succ _);have m2:d.sectors*d.size≤4096*512:=Nat.mul_le_mul hm4 hz.2;have w2:IntKind.i64.wrap ((m:Int)*(d.size:Int))=((m*d.size:Nat):Int):=by rw[←Int.natCast_mul,eI (by omega) (by omega)]
    have w3:=nP (i:=m) (by omega);have w4:IntKind.i64.wrap (((m+1:Nat):Int)*(d.size:Int))=(((m+1)*d.size:Nat):Int):=by rw[←Int.natCast_mul,eI (by omega) (by omega)]
    have fl:=aAN D.ok.each;rw[D.ok.len] at fl;have c:cC PG (Instr.sliceAt aT (.string (tx d.st.flatten)) (some (.int .i64 ((m*d.size:Nat):Int))) (some (.int .i64 (((m+1)*d.size:Nat):Int))) none)=some (.string (tx (d.at m))):=by
     have:=kL (P:=PG) (t:=aT) (l:=d.st.flatten) (i:=m*d.size) (j:=(m+1)*d.size) (lo:=some (.int .i64 ((m*d.size:Nat):Int))) (hi:=some (.int .i64 (((m+1)*d.size:Nat):Int))) aT.und (.inr ⟨_,rfl⟩) (.inr ⟨_,rfl⟩) m0 (by omega);rw[this,zLy,Nat.succ_mul,aB4,aP6 D.ok.each hl];unfold Dk.at;rw[aKC _ _ _ (by rw[zLb] at hno;exact hno)]
    simp only[g2,dC.f2,dC.f0,aT.load,aR.load,L.st,L.size,nD,w2,w3,w4,c,cB,reduceIte,cJ,Nat.reduceAdd];exact hk
   ·have g2:((0:Int)≤(i:Int)-1)=True:=eq_true (by omega);have ei:(i:Int)-1=((i-1:Nat):Int):=by omega
    obtain⟨x,hx⟩:∃x,d.buf[i-1]? =some x:=⟨_,kO (by omega)⟩;obtain⟨b,o,i1,f0,f1⟩:=aUl W.slR hx;rw[←ei] at i1;by_cases cx:x.1=m
    ·have q:((x.1:Int)==(m:Int))=true:=by simp[cx]
     have ea:d.at m=x.2:=aPe hx cx hl (by rw[Nat.sub_add_cancel (by omega)];exact hno);simp only[g2,dC.f3,dI.load,L.buf,i1,dV.f0,dV.f1,aR.load,aT.load,f0,f1,fO,q,cB,reduceIte,cJ,Nat.reduceAdd];rw[ea] at hk;exact hk
    ·have q:((x.1:Int)==(m:Int))=false:=by rw[beq_eq_false_iff_ne];omega
     have w2:IntKind.i64.wrap ((i:Int)-1-1)=((i-1:Nat):Int)-1:=by rw[eI (by omega) (by omega)];omega
     simp only[g2,dC.f3,dI.load,L.buf,i1,dV.f0,aR.load,f0,fO,q,w2,cB,reduceIte,cJ,Nat.reduceAdd];refine⟨⟨i-1,by omega,rfl,by first|rfl|trivial,λy hy=>?_⟩,by simp[aWI,x6];omega⟩;rw[aAy (by omega)] at hy;rcases iR.1 hy with e|hy
     ·have:d.buf[i-1]=x:=by rw[kO (by omega)] at hx;simpa using hx
      rw[e,this];exact cx
     ·rw[Nat.sub_add_cancel (by omega)] at hy;exact hno y hy
def aSh(size n:Nat):kT (size*n)=(List.replicate n (kT size)).flatten:=by
 induction n with
 | zero=>rfl
 | succ n ih=>
  rw[List.replicate_succ,aDw,←ih];unfold kT;rw[Nat.mul_succ,Nat.add_comm,List.replicate_append_replicate]
def aWf(a b:Int)(s:ByteArray):cC PG (build dC #[(0,.int .i64 a),(1,.int .i64 b),(2,.string s)])=some (.agg #[.int .i64 a,.int .i64 b,.string s,.slice none 0 0,.int .i64 0]):=by kernel_rfl
def aUC{h:PH}(size sectors:Nat)(ok:fU size)(h1:1≤sectors)(h2:sectors≤4096){k:cF}(hk:∀h' r F,rS r (Dk.new size sectors) h' F->dZ h F->cZ h h'->k (pT r 0) h'):bT PG aB7 #[.int .i64 (size:Int),.int .i64 (sectors:Int)] h k:=by
 apply aBd.call;unfold aBd;have h64:=ok.1;have h512:=ok.2;have m2:size*sectors≤512*4096:=Nat.mul_le_mul h512 h2;have w1:IntKind.i64.wrap ((size:Int)*(sectors:Int))=((size*sectors:Nat):Int):=by rw[←Int.natCast_mul,eI (by omega) (by omega)]
 obtain⟨zs,hm,hzz⟩:=aEp (P:=PG) (n:=size*sectors) cW.und dK.info dK.size dK.bytes dK.zero rfl (by decide) (by omega) (by omega);simp only[nD,w1,hm,cB,reduceIte,cJ,Nat.reduceAdd];intro r2 hr2;refine gY ?_
 try rw[cO]
 have u1:cZ h (h.set r2 (.cells zs dK (0,0))):=cT.new hr2;have O1:eJ (h.set r2 (.cells zs dK (0,0))) dK 1 (.slice (some ⟨r2,0,none⟩) (size*sectors) (size*sectors)) ((kT (size*sectors)).map jP) [r2]:=eJ.lit (e:=dK) (size:=1) (n:=size*sectors) (λr hr=>by obtain⟨m,_,rfl⟩:=pV.1 hr;rfl) eD (by rw[iF,vT]) (by show size*sectors≤vU;exact zLE m2 (by decide)) (by
  rw[hzz];unfold kT;rw[List.map_replicate];rfl)
 generalize h.set r2 (.cells zs dK (0,0))=h3 at *;have hcv:=aEl cW.und dK.und aT.und O1.slR;simp only[hcv,aWf,cB,reduceIte,cJ,Nat.reduceAdd];intro r8 hr8
 try rw[cO]
 have ef:kT (size*sectors)=(Dk.new size sectors).st.flatten:=by
  exact aSh size sectors
 rw[ef];have u4:cZ h3 (h3.set r8 (.cells (Value.cells (.agg #[.int .i64 (size:Int),.int .i64 (sectors:Int),.string (tx (Dk.new size sectors).st.flatten),.slice none 0 0,.int .i64 0])) dC)):=cT.new hr8;have B4:Bx (h3.set r8 (.cells (Value.cells (.agg #[.int .i64 (size:Int),.int .i64 (sectors:Int),.string (tx (Dk.new size sectors).st.flatten),.slice none 0 0,.int .i64 0])) dC)) r8 [.int .i64 (size:Int),.int .i64 (sectors:Int),.string (tx (Dk.new size sectors).st.flatten),.slice none 0 0,.int .i64 0]:=Bx.new;refine hk _ r8 (r8::[]) ⟨⟨.slice none 0 0,[],rfl,B4,eJ.nil,by simp⟩,Dk.new_ok ok h1 h2,by show 0<_;omega⟩ (dZ.one (u1.none hr8)) (u1.trans u4)
def aDJ{h:PH}(size:Nat){k:cF}(hk:k (.bool (decide (fU size))) h):bT PG mX #[.int .i64 (size:Int)] h k:=by
 apply zX.call;unfold zX;by_cases h1:64≤size
 ·have g1:((64:Int)≤(size:Int))=True:=eq_true (by omega);have e:decide ((size:Int)≤512)=decide (fU size):=by
   rw[xQ,decide_eq_true_iff,decide_eq_true_iff];unfold fU;omega
  simp only[g1,cB,reduceIte,cJ,Nat.reduceAdd];rw[e];exact hk
 ·have g1:((64:Int)≤(size:Int))=False:=eq_false (by omega);have e:decide (fU size)=false:=decide_eq_false (λx=>h1 x.1);rw[e] at hk;simp only[g1,cB,reduceIte,cJ,Nat.reduceAdd];exact hk
def cvN(n:Nat)(hn:n<9223372036854775808):cC PG (convert aR cI (.int .i64 (n:Int)))=some (.int .u64 (n:Int)):=by
 rw[show cC PG (convert aR cI (.int .i64 (n:Int)))=some (.int .u64 (IntKind.u64.wrap (n:Int))) from by kernel_rfl,jY (by omega) (by omega)]
def aPP{h:PH}(n:Nat)(hn:n≤1000000){k:cF}(hk:∀h',cZ h h'->k (.string (tx (kT n))) h'):
  bY (jX PG (Instr.makeSlice cW (.int .i64 (n:Int)) (.int .i64 (n:Int)))) λx=>∀r,h r=none->bY (cC PG (x.2 r)) λv=>dT (PH.set h r x.1) λh2=>bY (cD PG h2 (convert cW aT v)) λw=>k w h2:=by
 obtain⟨zs,hm,hzz⟩:=aEp (P:=PG) (n:=n) cW.und dK.info dK.size dK.bytes dK.zero rfl (by decide) (by omega) (by omega);rw[hm,iH];intro r2 hr2;refine gY ?_
 try rw[cO]
 have u1:cZ h (h.set r2 (.cells zs dK (0,0))):=cT.new hr2;have O1:eJ (h.set r2 (.cells zs dK (0,0))) dK 1 (.slice (some ⟨r2,0,none⟩) n n) ((kT n).map jP) [r2]:=eJ.lit (e:=dK) (size:=1) (n:=n) (λr hr=>by obtain⟨m,_,rfl⟩:=pV.1 hr;rfl) eD (by rw[iF,vT]) (zLE hn (by decide)) (by
  rw[hzz];unfold kT;rw[List.map_replicate];rfl)
 have hcv:=aEl cW.und dK.und aT.und O1.slR;rw[hcv,iH];exact hk _ u1
set_option maxHeartbeats 1000000 in
def aL2{h:PH}(size gen ser part parts:Nat)(s:Tx)(ok:fU size)(g1:gen<18446744073709551616)(g2:ser<18446744073709551616)(g3:part<1000000)(g4:parts<1000000)(hs:s.length+25≤size){k:cF}(hk:∀h',cZ h h'->k (.string (tx (nR size gen ser part parts s))) h'):bT PG tX #[.int .i64 (size:Int),.int .u64 (gen:Int),.int .u64 (ser:Int),.int .i64 (part:Int),.int .i64 (parts:Int),.string (tx s)] h k:=by
 apply xV.call;unfold xV;have h512:=ok.2;have e82:(⟨#[82]⟩:ByteArray)=tx [82]:=rfl;rw[e82];refine lW (n:=gen) (c:=8) g1 (by decide) λh1 u1=>?_;have a1:cC PG (binOp .add aT (.string (tx [82])) (.string (tx (be gen 8))))=some (.string (tx ([82]++be gen 8))):=jT (by simp[gU]);simp only[a1,iH,zPP];refine lW (n:=ser) (c:=8) g2 (by decide) λh2 u2=>?_;have a2:cC PG (binOp .add aT (.string (tx ([82]++be gen 8))) (.string (tx (be ser 8))))=some (.string (tx ([82]++be gen 8++be ser 8))):=jT (by simp[gU]);simp only[a2,cvN part (by omega),iH,zPP];refine lW (n:=part) (c:=1) (by omega) (by decide) λh3 u3=>?_;have a3:cC PG (binOp .add aT (.string (tx ([82]++be gen 8++be ser 8))) (.string (tx (be part 1))))=some (.string (tx ([82]++be gen 8++be ser 8++be part 1))):=jT (by simp[gU]);simp only[a3,cvN parts (by omega),iH,zPP];refine lW (n:=parts) (c:=1) (by omega) (by decide) λh4 u4=>?_;have a4:cC PG (binOp .add aT (.string (tx ([82]++be gen 8++be ser 8++be part 1))) (.string (tx (be parts 1))))=some (.string (tx ([82]++be gen 8++be ser 8++be part 1++be parts 1))):=jT (by simp[gU]);simp only[a4,iO,cvN s.length (by omega),iH,zPP];refine lW (n:=s.length) (c:=2) (by omega) (by decide) λh5 u5=>?_;have a5:cC PG (binOp .add aT (.string (tx ([82]++be gen 8++be ser 8++be part 1++be parts 1))) (.string (tx (be s.length 2))))=some (.string (tx ([82]++be gen 8++be ser 8++be part 1++be parts 1++be s.length 2))):=jT (by simp[gU]);have a6:cC PG (binOp .add aT (.string (tx ([82]++be gen 8++be ser 8++be part 1++be parts 1++be s.length 2))) (.string (tx s)))=some (.string (tx ([82]++be gen 8++be ser 8++be part 1++be parts 1++be s.length 2++s))):=jT (by simp[gU];omega);have hl:([82]++be gen 8++be ser 8++be part 1++be parts 1++be s.length 2++s).length=21+s.length:=by simp[gU];omega
 have w1:IntKind.i64.wrap ((size:Int)-4)=(size:Int)-4:=eI (by omega) (by omega);have w2:IntKind.i64.wrap ((size:Int)-4-((21+s.length:Nat):Int))=((size-25-s.length:Nat):Int):=by rw[eI (by omega) (by omega)];omega
 simp only[a5,a6,aJ3,w1,iO,hl,w2,iH,zPP];refine aPP (size-25-s.length) (by omega) λh6 u6=>?_;have eb: [82]++be gen 8++be ser 8++be part 1++be parts 1++be s.length 2++s++kT (size-25-s.length)=nA size gen ser part parts s:=by
  unfold nA;simp only[vP]
 have a7:cC PG (binOp .add aT (.string (tx ([82]++be gen 8++be ser 8++be part 1++be parts 1++be s.length 2++s))) (.string (tx (kT (size-25-s.length)))))=some (.string (tx (nA size gen ser part parts s))):=by
  rw[←eb];exact jT (by rw[hl,vT];omega)
 simp only[a7,iH,zPP];refine aLJ _ (by rw[aGP hs];omega) λh7 u7=>?_;exact hk h7 ((((((u1.trans u2).trans u3).trans u4).trans u5).trans u6).trans u7)
def aRm{size n:Nat}(ok:fU size)(h:n≤4096):dQ size n=if size-25<n then 1+dQ size (n-(size-25)) else 1:=by
 have h64:=ok.1;obtain⟨room,hr⟩:∃room,size-25=room:=⟨_,rfl⟩;have e:∀m,m≤4096->dQ size m=max 1 ((m+room-1)/room):=λm hm=>by unfold dQ;rw[if_pos ⟨ok,hm⟩,hr]
 rw[e n h,hr];have hroom:0<room:=by omega
 by_cases c:room<n
 ·rw[if_pos c,e _ (by omega)];have h1:(n+room-1)/room=(n-room+room-1)/room+1:=by
   rw[show n+room-1=(n-room+room-1)+room by omega,Nat.add_div_right _ hroom]
  have h2:1≤(n-room+room-1)/room:=by
   rw[Nat.le_div_iff_mul_le hroom];omega
  rw[h1];omega
 ·rw[if_neg c];have:(n+room-1)/room≤1:=by
   have:(n+room-1)/room<2:=by rw[Nat.div_lt_iff_lt_mul hroom];omega
   omega
  omega
def aWc(vs:List Value)(_:PH):Nat:=match vs[1]? with|some (Value.int _ y)=>y.toNat|_=>0
def aNr{h:PH}(size n:Nat)(hn:n<1000000000){k:cF}(hk:k (.int .i64 (dQ size n:Int)) h):bT PG vI #[.int .i64 (size:Int),.int .i64 (n:Int)] h k:=by
 apply zD.call;unfold zD;refine aDJ size ?_;by_cases ok:fU size
 ·have h64:=ok.1;have h512:=ok.2;have g1:((n:Int)<0)=False:=eq_false (by omega);by_cases c:4096<n
  ·have g2:((4096:Int)<(n:Int))=True:=eq_true (by omega);have e:dQ size n=0:=(aBZ ok).2 c;rw[e] at hk;simp only[ok,decide_true,g1,g2,cB,reduceIte,cJ,Nat.reduceAdd];exact hk
  ·have g2:((4096:Int)<(n:Int))=False:=eq_false (by omega);simp only[ok,decide_true,g1,g2,cB,reduceIte,cJ,Nat.reduceAdd];refine⟨λvs h'=>∃m i:Nat,m≤n∧i+n≤5000+n∧vs=[.int .i64 (size:Int),.int .i64 (m:Int),.int .i64 (i:Int)]∧h'=h∧dQ size n+1=dQ size m+i∧1≤i∧i+m≤n+1,aWc,⟨n,1,mG _,by omega,rfl,rfl,by omega,by omega,by omega⟩,?_⟩;rintro ρ h' ⟨m,i,hm,hi0,hvs,rfl,hp,hi,him⟩;simp only[hY,iZ,kP,and_true] at hvs;obtain⟨x0,x1,x5⟩:=hvs;unfold aDV;rw[x0,x1,x5];have w1:IntKind.i64.wrap ((size:Int)-25)=((size-25:Nat):Int):=by rw[eI (by omega) (by omega)];omega
   have hst:=aRm (n:=m) ok (by omega);by_cases cm:size-25<m
   ·have g3:(((size-25:Nat):Int)<(m:Int))=True:=eq_true (by omega);have w2:=nP (i:=i) (by omega);have w3:IntKind.i64.wrap ((m:Int)-((size-25:Nat):Int))=((m-(size-25):Nat):Int):=by rw[eI (by omega) (by omega)];omega
    rw[if_pos cm] at hst;simp only[w1,g3,w2,w3,cB,reduceIte,cJ,Nat.reduceAdd];exact⟨⟨m-(size-25),i+1,by omega,by omega,rfl,by first|rfl|trivial,by omega,by omega,by omega⟩,by simp[aWc,x1];omega⟩
   ·have g3:(((size-25:Nat):Int)<(m:Int))=False:=eq_false (by omega);rw[if_neg cm] at hst;have:i=dQ size n:=by omega
    simp only[w1,g3,cB,reduceIte,cJ,Nat.reduceAdd];rw[this];exact hk
 ·have e:dQ size n=0:=by unfold dQ;rw[if_neg (λx=>ok x.1)]
  rw[e] at hk;simp only[ok,decide_false,cB,reduceIte,cJ,Nat.reduceAdd];exact hk
def aRu{h:PH}(size gen ser:Nat)(s:Tx)(ok:fU size)(g1:gen<18446744073709551616)(g2:ser<18446744073709551616)(hl:s.length≤1000000){k:cF}
  (hk:∀h' v F,eJ h' aT 1 v ((fV size gen ser s).map jJ) F->dZ h F->cZ h h'->k (.tuple #[v,.int .i64 (if dQ size s.length=0 then 1 else 0)]) h'):bT PG aAv #[.int .i64 (size:Int),.int .u64 (gen:Int),.int .u64 (ser:Int),.string (tx s)] h k:=by
 apply aAD.call;unfold aAD;have h64:=ok.1;have h512:=ok.2;simp only[iO,cB,reduceIte,cJ,Nat.reduceAdd];refine aNr size s.length (by omega) ?_;by_cases c0:dQ size s.length=0
 ·have q0:(((dQ size s.length:Nat):Int)==0)=true:=by rw[c0];rfl
  simp only[fO,q0,cB,reduceIte,cJ,Nat.reduceAdd];have:=hk h (.slice none 0 0) [] (by
   have:fV size gen ser s=[]:=by unfold fV;rw[c0];rfl
   rw[this];exact eJ.nil) (λb hb=>by cases hb) cT.refl
  rw[if_pos c0] at this;exact this
 ·have q0:(((dQ size s.length:Nat):Int)==0)=false:=by rw[beq_eq_false_iff_ne];omega
  have hs:s.length≤4096:=by
   have:=(aBZ (n:=s.length) ok).2;omega
  rw[if_neg c0] at hk;simp only[fO,q0,cB,reduceIte,cJ,Nat.reduceAdd];refine⟨λvs h'=>∃(i:Nat) (v:Value) (G:List Nat),i≤dQ size s.length∧vs=[.int .i64 (size:Int),.int .u64 (gen:Int),.int .u64 (ser:Int),.string (tx s),.int .i64 (dQ size s.length:Int),v,.int .i64 (i:Int)]∧eJ h' aT 1 v (((fV size gen ser s).take i).map jJ) G∧dZ h G∧cZ h h',fN (dQ size s.length) 6,⟨0,.slice none 0 0,[],by omega,rfl,eJ.nil,(λb hb=>by cases hb),cT.refl⟩,?_⟩;rintro ρ h' ⟨i,v,G,hi,hvs,O,fG,w⟩;simp only[hY,iZ,kP,and_true] at hvs;obtain⟨x0,x1,x2,x3,x10,x11,x12⟩:=hvs;unfold aEF;rw[x0,x1,x2,x3,x10,x11,x12];have hpm:dQ size s.length≤5000:=by
   unfold dQ;split
   ·have:(s.length+(size-25)-1)/(size-25)≤s.length+(size-25)-1:=Nat.div_le_self _ _;omega
   ·omega
  by_cases hlt:i<dQ size s.length
  ·have g:((i:Int)<(dQ size s.length:Int))=True:=eq_true (by omega);have him:i*(size-25)≤5000*512:=Nat.mul_le_mul (by omega) (by omega);have him1:(i+1)*(size-25)≤5001*512:=Nat.mul_le_mul (by omega) (by omega);have hsm:(i+1)*(size-25)=i*(size-25)+(size-25):=Nat.succ_mul _ _;have w1:IntKind.i64.wrap ((size:Int)-25)=((size-25:Nat):Int):=by rw[eI (by omega) (by omega)];omega
   have w2:IntKind.i64.wrap ((i:Int)*((size-25:Nat):Int))=((i*(size-25):Nat):Int):=by rw[←Int.natCast_mul,eI (by omega) (by omega)]
   have w3:=nP (i:=i) (by omega);have w4:IntKind.i64.wrap (((i+1:Nat):Int)*((size-25:Nat):Int))=(((i+1)*(size-25):Nat):Int):=by rw[←Int.natCast_mul,eI (by omega) (by omega)]
   have hfront:i*(size-25)≤s.length:=by
    by_cases c:i=0
    ·subst c;omega
    ·have:=aC0 (k:=i-1) ok hs (by omega);rw[Nat.sub_add_cancel (by omega)] at this;omega
   have hfr:(fV size gen ser s)[i]? =some (nR size gen ser i (dQ size s.length) (jA (size-25) s i)):=by
    unfold fV;rw[wW,List.getElem?_range hlt];rfl
   have hpl:=(aF7 ok hs hlt).1;have tail:∀m:Nat,i*(size-25)≤m->m≤s.length->(s.take m).drop (i*(size-25))=jA (size-25) s i->tU k (λvs h'=>(∃(i:Nat) (v:Value) (G:List Nat),i≤dQ size s.length∧vs=[.int .i64 (size:Int),.int .u64 (gen:Int),.int .u64 (ser:Int),.string (tx s),.int .i64 (dQ size s.length:Int),v,.int .i64 (i:Int)]∧eJ h' aT 1 v (((fV size gen ser s).take i).map jJ) G∧dZ h G∧cZ h h')∧fN (dQ size s.length) 6 vs h'<fN (dQ size s.length) 6 ([0,1,2,3,10,11,12].map ρ) h') (.int .i64 (size:Int)) (.int .u64 (gen:Int)) (.int .u64 (ser:Int)) (.string (tx s)) (.int .i64 (dQ size s.length:Int)) v (.int .i64 (i:Int)) (.int .i64 ((i*(size-25):Nat):Int)) (.int .i64 (m:Int)) h':=by
    intro m hm1 hm2 hm3;unfold tU;have c1:cC PG (Instr.sliceAt aT (.string (tx s)) (some (.int .i64 ((i*(size-25):Nat):Int))) (some (.int .i64 (m:Int))) none)=some (.string (tx (jA (size-25) s i))):=by
     have:=kL (P:=PG) (t:=aT) (l:=s) (i:=i*(size-25)) (j:=m) (lo:=some (.int .i64 ((i*(size-25):Nat):Int))) (hi:=some (.int .i64 (m:Int))) aT.und (.inr ⟨_,rfl⟩) (.inr ⟨_,rfl⟩) hm1 hm2;rw[this,hm3]
    simp only[c1,cB,reduceIte,cJ,Nat.reduceAdd];refine aL2 size gen ser i (dQ size s.length) _ ok g1 g2 (by omega) (by omega) hpl λh2 u2=>?_;simp only[aFw,cB,reduceIte,cJ,Nat.reduceAdd];intro r20 hr20;refine gY ?_
    try rw[cO]
    have O3:=aF2 (h:=h2) (r:=r20) (nR size gen ser i (dQ size s.length) (jA (size-25) s i));have u3:cZ h2 (h2.set r20 (.cells #[.string (tx (nR size gen ser i (dQ size s.length) (jA (size-25) s i)))] aT)):=cT.new hr20;generalize h2.set r20 (.cells #[.string (tx (nR size gen ser i (dQ size s.length) (jA (size-25) s i)))] aT)=h3 at *;have fl:=jS size gen ser s;refine lL cU.und cU.und aT.info aT.size aT.bytes aT.zero rfl (by decide) ((O.ext u2).ext u3) O3.slR (by simp[jJ,fI]) (by rw[iF,mN];simp only[iP,kI,iF];omega) ?_;intro v4 h4 G4 O4 u4 g4 _;simp only[w3,cB,reduceIte,cJ,Nat.reduceAdd];have e3:=(w.trans u2).trans u3;refine⟨⟨i+1,v4,G4,by omega,rfl,?_,λb hb=>?_,e3.fresh u4 fG⟩,by simp[fN,x12];omega⟩
    ·rw[zLR,hfr,wB];exact O4
    ·rcases g4 b hb with e|e
     ·exact fG b e
     ·exact e3.none e
   by_cases cc:s.length<(i+1)*(size-25)
   ·have g2:((s.length:Int)<(((i+1)*(size-25):Nat):Int))=True:=eq_true (by omega);simp only[g,w1,nD,w2,w3,w4,iO,g2,cB,reduceIte,cJ,Nat.reduceAdd];refine tail s.length hfront (mG _) ?_;unfold jA;rw[zLJ,qX (by rw[jC];omega)]
   ·have g2:((s.length:Int)<(((i+1)*(size-25):Nat):Int))=False:=eq_false (by omega);simp only[g,w1,nD,w2,w3,w4,iO,g2,cB,reduceIte,cJ,Nat.reduceAdd];refine tail _ (by omega) (by omega) ?_;unfold jA;rw[zLy,hsm,aB4]
  ·have g:((i:Int)<(dQ size s.length:Int))=False:=eq_false (by omega);have et:(fV size gen ser s).take i=fV size gen ser s:=qX (by rw[jS];omega);rw[et] at O;simp only[g,cB,reduceIte,cJ,Nat.reduceAdd];exact hk h' v G O fG w
def aCz:cC PG (build cH #[])=some kB.zero.v:=by kernel_rfl
def aVu(a b c d:Int):cC PG (build cH #[(0,.int .u64 a),(1,.int .u64 b),(2,.int .i64 c),(3,.int .i64 d)])=some (.agg #[.int .u64 a,.int .u64 b,.int .i64 c,.int .i64 d,.string (tx [])]):=by kernel_rfl
def aMX{h:PH}{r:Nat}{x:kB}(B:Bx h r x.cells):cD PG h (loadAt cH (pT r 0))=some x.v:=cH.agg B (by show 0+5≤5;decide)
def aI6{s:Tx}{n:Nat}{b:UInt8}(h:s[n]? =some b):lC ((s.drop n).take 1)=b.toNat:=by
 have:(s.drop n).take 1=[b]:=by
  obtain⟨hl,e⟩:=zLA.1 h;rw[aAy hl,e];rfl
 rw[this];simp[lC]
def aRr{s:Tx}{n:Nat}{a b:UInt8}(h:s[n]? =some a)(h2:s[n+1]? =some b):lC ((s.drop n).take 2)=a.toNat*256+b.toNat:=by
 have:(s.drop n).take 2=[a,b]:=by
  obtain⟨hl,e⟩:=zLA.1 h;obtain⟨hl2,e2⟩:=zLA.1 h2;rw[aAy hl,e,aAy hl2,e2];rfl
 rw[this];simp[lC]
def aGS(b:UInt8):cC PG (convert dK aR (.int .u8 (b.toNat:Int)))=some (.int .i64 (b.toNat:Int)):=by
 rw[show cC PG (convert dK aR (.int .u8 (b.toNat:Int)))=some (.int .i64 (IntKind.i64.wrap (b.toNat:Int))) from by kernel_rfl];have:=b.toNat_lt;rw[eI (by omega) (by omega)]
def kB.noB(f:kB):kB:=⟨f.gen,f.ser,f.part,f.parts,[]⟩
def aQU(s:Tx)(i:Nat):lC ((s.drop i).take 8)<18446744073709551616:=by
 have:=aIm ((s.drop i).take 8);have h2:((s.drop i).take 8).length≤8:=by rw[mN];omega
 have h3:256^((s.drop i).take 8).length≤256^8:=aMW (by decide) h2;omega
def aNN{h0 h:PH}{r1 r34:Nat}{size least:Nat}{s:Tx}(ok:fU size)(hl:s.length=size)(hs:nQ s=true)(h1:¬(size-25<jW s∨gX s≤jB s))(h2:¬aFd size (pI s))(hle:least=aEQ size (pI s))(Z1:Bx h r1 kB.zero.cells)(B:Bx h r34 (pI s).cells)(hp:gX s<256)(htl:(mB s).length=jW s)(w:cZ h0 h)(f1:h0 r1=none){k:cF}
  (hk:∀h',cZ h0 h'->k (.tuple #[(wH size s).1.v,.int .i64 (wH size s).2]) h'):nX k (.int .i64 (size:Int)) (.string (tx s)) (pT r1 0) (pT r34 0) (.int .i64 (least:Int)) h:=by
 unfold nX;have h512:=ok.2;have er:wH size s=if 4096<aEQ size (pI s)∨nR size (aAx s) (aAq s) (jB s) (gX s) (mB s)≠s then(kB.zero,5) else(pI s,0):=by
  unfold wH;rw[if_neg (by simpa using ok),if_neg (by simpa using hl),if_neg (by rw[hs];decide),if_neg h1,if_neg h2]
 rw[er,←hle] at hk;have fin:∀{h':PH} (f:kB) (e:Int),(∀h',cZ h0 h'->k (.tuple #[f.v,.int .i64 e]) h')->Bx h' r1 kB.zero.cells->cZ h0 h'->cM PG (cQ cH (pT r1 0) f.v) h' λ_ h8=>bY (cD PG h8 (loadAt cH (pT r1 0))) λv9=>k (.tuple #[v9,.int .i64 e]) h8:=by
  intro h' f e hk B w;refine cH.put B (vs:=f.cells) (o:=0) rfl (by show 0+5≤5;decide) f.isC λh2 B2 u2=>?_;have B2:Bx h2 r1 f.cells:=B2;simp only[aMX B2,iH,zPP];exact hk h2 (w.fresh u2 (dZ.one f1))
 by_cases c1:4096<least
 ·have g1:((4096:Int)<(least:Int))=True:=eq_true (by omega);rw[if_pos (.inl c1)] at hk;simp only[g1,aCz,cB,reduceIte,cJ,Nat.reduceAdd];exact fin kB.zero 5 hk Z1 w
 ·have g1:((4096:Int)<(least:Int))=False:=eq_false (by omega);have b0:cX h ⟨r34,0,none⟩=some (.int .u64 (aAx s:Int)):=B.cell 0;have b1:cX h ⟨r34,0+1,none⟩=some (.int .u64 (aAq s:Int)):=B.cell 1;have b2:cX h ⟨r34,0+2,none⟩=some (.int .i64 (jB s:Int)):=B.cell 2;have b3:cX h ⟨r34,0+3,none⟩=some (.int .i64 (gX s:Int)):=B.cell 3;have b4:cX h ⟨r34,0+4,none⟩=some (.string (tx (mB s))):=B.cell 4;simp only[g1,cH.f0,cH.f1,cH.f2,cH.f3,cH.f4,cI.load,aR.load,aT.load,b0,b1,b2,b3,b4,cB,reduceIte,cJ,Nat.reduceAdd];have h64:=ok.1;refine aL2 size (aAx s) (aAq s) (jB s) (gX s) (mB s) ok (aQU s 1) (aQU s 9) (by omega) (by omega) (by omega) λh2 u2=>?_;by_cases c2:nR size (aAx s) (aAq s) (jB s) (gX s) (mB s)=s
  ·have q:decide (nR size (aAx s) (aAq s) (jB s) (gX s) (mB s)=s)=true:=decide_eq_true c2;rw[if_neg (by rintro(a|a);exact c1 a;exact a c2)] at hk;simp only[aJJ,q,aMX (B.ext u2),cB,reduceIte,cJ,Nat.reduceAdd];exact fin (pI s) 0 hk (Z1.ext u2) (w.trans u2)
  ·have q:decide (nR size (aAx s) (aAq s) (jB s) (gX s) (mB s)=s)=false:=decide_eq_false c2;rw[if_pos (.inr c2)] at hk;simp only[aJJ,q,aCz,cB,reduceIte,cJ,Nat.reduceAdd];exact fin kB.zero 5 hk (Z1.ext u2) (w.trans u2)
def aRs{h:PH}(size:Nat)(s:Tx)(hs:s.length≤1000000){k:cF}(hk:∀h',cZ h h'->k (.tuple #[(wH size s).1.v,.int .i64 (wH size s).2]) h'):bT PG aBJ #[.int .i64 (size:Int),.string (tx s)] h k:=by
 apply sK.call;unfold sK;intro r1 hr1
 try rw[cO]
 have Z1:Bx (h.set r1 (.cells (dF PG cH) cH)) r1 kB.zero.cells:=cH.zbox;have u1:cZ h (h.set r1 (.cells (dF PG cH) cH)):=cT.new hr1;generalize h.set r1 (.cells (dF PG cH) cH)=h1 at *;have fin:∀{h':PH} (e:Int),wH size s=(kB.zero,e)->Bx h' r1 kB.zero.cells->cZ h h'->cM PG (cQ cH (pT r1 0) kB.zero.v) h' λ_ h8=>bY (cD PG h8 (loadAt cH (pT r1 0))) λv9=>k (.tuple #[v9,.int .i64 e]) h8:=by
  intro h' e he B w;refine cH.put B (vs:=kB.zero.cells) (o:=0) rfl (by show 0+5≤5;decide) kB.zero.isC λh2 B2 u2=>?_;have B2:Bx h2 r1 kB.zero.cells:=B2;simp only[aMX B2,iH,zPP];have:=hk h2 (w.fresh u2 (dZ.one hr1));rw[he] at this;exact this
 refine aDJ size ?_;by_cases ok:fU size
 ·have h64:=ok.1;have h512:=ok.2;by_cases hl:s.length=size
  ·have q:((s.length:Int) !=(size:Int))=false:=by simp[hl]
   simp only[ok,decide_true,iO,dY,q,cB,reduceIte,cJ,Nat.reduceAdd];refine aNc s hs λh4 u4=>?_;have e4:=u1.trans u4;cases hsl:nQ s with
   | false=>
    have er:wH size s=(kB.zero,8):=by unfold wH;rw[if_neg (by simpa using ok),if_neg (by simpa using hl),if_pos hsl]
    simp only[aCz,cB,reduceIte,cJ,Nat.reduceAdd];exact fin 8 er (Z1.ext u4) e4
   | true=>
    have c1:cC PG (Instr.sliceAt aT (.string (tx s)) (some (.int .i64 1)) (some (.int .i64 9)) none)=some (.string (tx ((s.drop 1).take 8))):=by
     have:=kL (P:=PG) (t:=aT) (l:=s) (i:=1) (j:=9) (lo:=some (.int .i64 1)) (hi:=some (.int .i64 9)) aT.und (.inr ⟨_,rfl⟩) (.inr ⟨_,rfl⟩) (by omega) (by omega);rw[this,zLy]
    have c2:cC PG (Instr.sliceAt aT (.string (tx s)) (some (.int .i64 9)) (some (.int .i64 17)) none)=some (.string (tx ((s.drop 9).take 8))):=by
     have:=kL (P:=PG) (t:=aT) (l:=s) (i:=9) (j:=17) (lo:=some (.int .i64 9)) (hi:=some (.int .i64 17)) aT.und (.inr ⟨_,rfl⟩) (.inr ⟨_,rfl⟩) (by omega) (by omega);rw[this,zLy]
    obtain⟨b17,hb17⟩:∃b,s[17]? =some b:=⟨_,kO (by omega)⟩;obtain⟨b18,hb18⟩:∃b,s[18]? =some b:=⟨_,kO (by omega)⟩;obtain⟨b19,hb19⟩:∃b,s[19]? =some b:=⟨_,kO (by omega)⟩;obtain⟨b20,hb20⟩:∃b,s[20]? =some b:=⟨_,kO (by omega)⟩;have i17:cC PG (Instr.index aT (.string (tx s)) (.int .i64 17))=some (.int .u8 b17.toNat):=nL (j:=17) aT.und hb17;have i18:cC PG (Instr.index aT (.string (tx s)) (.int .i64 18))=some (.int .u8 b18.toNat):=nL (j:=18) aT.und hb18;have i19:cC PG (Instr.index aT (.string (tx s)) (.int .i64 19))=some (.int .u8 b19.toNat):=nL (j:=19) aT.und hb19;have i20:cC PG (Instr.index aT (.string (tx s)) (.int .i64 20))=some (.int .u8 b20.toNat):=nL (j:=20) aT.und hb20;have d17:jB s=b17.toNat:=aI6 hb17;have d18:gX s=b18.toNat:=aI6 hb18;have d19:jW s=b19.toNat*256+b20.toNat:=aRr hb19 hb20;have l17:=b17.toNat_lt;have l18:=b18.toNat_lt;have l19:=b19.toNat_lt;have l20:=b20.toNat_lt;have w1:IntKind.i64.wrap ((b19.toNat:Int)*256)=((b19.toNat*256:Nat):Int):=by rw[eI (by omega) (by omega)];omega
    have w2:IntKind.i64.wrap (((b19.toNat*256:Nat):Int)+(b20.toNat:Int))=(jW s:Int):=by rw[eI (by omega) (by omega)];omega
    have w3:IntKind.i64.wrap ((size:Int)-25)=((size-25:Nat):Int):=by rw[eI (by omega) (by omega)];omega
    simp only[c1,c2,i17,i18,aGS,cB,reduceIte,cJ,Nat.reduceAdd];refine aBP (by rw[mN];omega) ?_;refine aBP (by rw[mN];omega) ?_;rw[←d17,←d18];show bY (cC PG (build cH #[(0,.int .u64 (aAx s:Int)),(1,.int .u64 (aAq s:Int)),(2,.int .i64 (jB s:Int)),(3,.int .i64 (gX s:Int))])) _;simp only[aVu,iH,zPP];intro r34 hr34
    try rw[cO]
    refine cH.fill (vs:=(pI s).noB.cells) hr34 rfl (pI s).noB.isC λh5 B5 u5=>?_;have e5:=e4.trans u5;have Z5:=(Z1.ext u4).ext u5;have n1:r34≠r1:=λe=>(Z1.ext u4).known (e▸hr34);have b2:cX h5 ⟨r34,0+2,none⟩=some (.int .i64 (jB s:Int)):=B5.cell 2;have b3:cX h5 ⟨r34,0+3,none⟩=some (.int .i64 (gX s:Int)):=B5.cell 3;have er1:wH size s=if size-25<jW s∨gX s≤jB s then(kB.zero,5)
      else if aFd size (pI s) then(kB.zero,5)
      else if 4096<aEQ size (pI s)∨nR size (aAx s) (aAq s) (jB s) (gX s) (mB s)≠s then(kB.zero,5)
      else(pI s,0):=by
     unfold wH;rw[if_neg (by simpa using ok),if_neg (by simpa using hl),if_neg (by rw[hsl];decide)]
    by_cases k1:size-25<jW s
    ·have g1:(((size-25:Nat):Int)<(jW s:Int))=True:=eq_true (by omega);rw[if_pos (.inl k1)] at er1;simp only[i19,i20,aGS,nD,w1,w2,w3,g1,aCz,cB,reduceIte,cJ,Nat.reduceAdd];exact fin 5 er1 Z5 e5
    ·have g1:(((size-25:Nat):Int)<(jW s:Int))=False:=eq_false (by omega);by_cases k2:gX s≤jB s
     ·have g2:((gX s:Int)≤(jB s:Int))=True:=eq_true (by omega);rw[if_pos (.inr k2)] at er1;simp only[i19,i20,aGS,nD,w1,w2,w3,g1,cH.f2,cH.f3,aR.load,b2,b3,g2,aCz,cB,reduceIte,cJ,Nat.reduceAdd];exact fin 5 er1 Z5 e5
     ·have g2:((gX s:Int)≤(jB s:Int))=False:=eq_false (by omega);rw[if_neg (by omega)] at er1;have w4:IntKind.i64.wrap ((21:Int)+(jW s:Int))=((21+jW s:Nat):Int):=by rw[eI (by omega) (by omega)];omega
      have c3:cC PG (Instr.sliceAt aT (.string (tx s)) (some (.int .i64 21)) (some (.int .i64 ((21+jW s:Nat):Int))) none)=some (.string (tx (mB s))):=by
       have:=kL (P:=PG) (t:=aT) (l:=s) (i:=21) (j:=21+jW s) (lo:=some (.int .i64 21)) (hi:=some (.int .i64 ((21+jW s:Nat):Int))) aT.und (.inr ⟨_,rfl⟩) (.inr ⟨_,rfl⟩) (by omega) (by omega);rw[this,zLy,aB4];rfl
      have htl:(mB s).length=jW s:=by unfold mB;rw[mN,jC];omega
      simp only[i19,i20,aGS,nD,w1,w2,w3,g1,cH.f2,cH.f3,cH.f4,aR.load,b2,b3,g2,w4,c3,cB,reduceIte,cJ,Nat.reduceAdd];refine aT.put B5 (o:=4) (by show 4<5;decide) rfl λh6 B6 u6=>?_;have B6:Bx h6 r34 (pI s).cells:=B6;have Z6:=Z5.upd u6 (by simpa using λe=>n1 e.symm);have e6:cZ h h6:=e5.fresh u6 (dZ.one (e4.none hr34));have c2':cX h6 ⟨r34,0+2,none⟩=some (.int .i64 (jB s:Int)):=B6.cell 2;have c3':cX h6 ⟨r34,0+3,none⟩=some (.int .i64 (gX s:Int)):=B6.cell 3;have w5:IntKind.i64.wrap ((gX s:Int)-1)=((gX s-1:Nat):Int):=by rw[eI (by omega) (by omega)];omega
      have wm:∀z:Nat,z≤1000->IntKind.i64.wrap (((gX s-1:Nat):Int)*((size-25:Nat):Int))=(((gX s-1)*(size-25):Nat):Int)∧IntKind.i64.wrap ((((gX s-1)*(size-25):Nat):Int)+(z:Int))=(((gX s-1)*(size-25)+z:Nat):Int):=λz hz=>by
       have:(gX s-1)*(size-25)≤256*512:=Nat.mul_le_mul (by omega) (by omega);refine⟨by rw[←Int.natCast_mul,eI (by omega) (by omega)],by rw[eI (by omega) (by omega)];omega⟩
      -- the bad lengths
      have nb:¬(size-25<jW s∨gX s≤jB s):=by omega
      have last:¬aFd size (pI s)->(bY (cD PG h6 (fK BinOp.eql aR (.tmp 90) (.tmp 93) (.int .i64 (jB s:Int)) (.int .i64 ((gX s-1:Nat):Int)))) λv139=>cN v139 (nX k (.int .i64 (size:Int)) (.string (tx s)) (pT r1 0) (pT r34 0) (.int .i64 (((gX s-1)*(size-25)+jW s:Nat):Int)) h6) (nX k (.int .i64 (size:Int)) (.string (tx s)) (pT r1 0) (pT r34 0) (.int .i64 (((gX s-1)*(size-25)+1:Nat):Int)) h6)):=by
       intro hbad;by_cases cl:jB s+1=gX s
       ·have ql:((jB s:Int)==((gX s-1:Nat):Int))=true:=by rw[beq_iff_eq];omega
        simp only[fO,ql,cB,reduceIte,cJ,Nat.reduceAdd];refine aNN ok hl hsl nb hbad ?_ Z6 B6 (by omega) htl e6 hr1 hk;unfold aEQ;rw[if_pos (show(pI s).part+1=(pI s).parts from cl)];show _=(gX s-1)*(size-25)+(mB s).length;rw[htl]
       ·have ql:((jB s:Int)==((gX s-1:Nat):Int))=false:=by rw[beq_eq_false_iff_ne];omega
        simp only[fO,ql,cB,reduceIte,cJ,Nat.reduceAdd];refine aNN ok hl hsl nb hbad ?_ Z6 B6 (by omega) htl e6 hr1 hk;unfold aEQ;rw[if_neg (show ¬(pI s).part+1=(pI s).parts from cl)];rfl
      have dB:aFd size (pI s)↔(jB s+1<gX s∧jW s≠size-25)∨(0<jB s∧jW s=0):=by
       rw[←htl];exact Iff.rfl
      have er2:aFd size (pI s)->wH size s=(kB.zero,5):=λhb=>by rw[er1,if_pos hb]
      have wz:=wm (jW s) (by omega);have wo:=wm 1 (by omega);have wo2:IntKind.i64.wrap ((((gX s-1)*(size-25):Nat):Int)+1)=(((gX s-1)*(size-25)+1:Nat):Int):=wo.2;by_cases k3:jB s<gX s-1
      ·have g3:((jB s:Int)<((gX s-1:Nat):Int))=True:=eq_true (by omega);by_cases k4:jW s=size-25
       ·have q4:((jW s:Int) !=((size-25:Nat):Int))=false:=by simp[k4]
        by_cases k5:0<jB s
        ·have g5:((0:Int)<(jB s:Int))=True:=eq_true (by omega);have q6:((jW s:Int)==0)=false:=by rw[beq_eq_false_iff_ne];omega
         simp only[cH.f2,cH.f3,aR.load,c2',c3',w5,g3,w3,dY,q4,g5,fO,q6,nD,wz.1,wo2,wz.2,cB,reduceIte,cJ,Nat.reduceAdd];have:=last (by rw[dB];omega);simp only[fO,cB,reduceIte,cJ,Nat.reduceAdd] at this;exact this
        ·have g5:((0:Int)<(jB s:Int))=False:=eq_false (by omega);simp only[cH.f2,cH.f3,aR.load,c2',c3',w5,g3,w3,dY,q4,g5,fO,nD,wz.1,wo2,wz.2,cB,reduceIte,cJ,Nat.reduceAdd];have:=last (by rw[dB];omega);simp only[fO,cB,reduceIte,cJ,Nat.reduceAdd] at this;exact this
       ·have q4:((jW s:Int) !=((size-25:Nat):Int))=true:=by rw[bne_iff_ne];omega
        simp only[cH.f2,cH.f3,aR.load,c2',c3',w5,g3,w3,dY,q4,aCz,cB,reduceIte,cJ,Nat.reduceAdd];exact fin 5 (er2 (by rw[dB];omega)) Z6 e6
      ·have g3:((jB s:Int)<((gX s-1:Nat):Int))=False:=eq_false (by omega);by_cases k5:0<jB s
       ·have g5:((0:Int)<(jB s:Int))=True:=eq_true (by omega);by_cases k6:jW s=0
        ·have q6:((jW s:Int)==0)=true:=by simp[k6]
         simp only[cH.f2,cH.f3,aR.load,c2',c3',w5,g3,g5,fO,q6,aCz,cB,reduceIte,cJ,Nat.reduceAdd];exact fin 5 (er2 (by rw[dB];omega)) Z6 e6
        ·have q6:((jW s:Int)==0)=false:=by rw[beq_eq_false_iff_ne];omega
         simp only[cH.f2,cH.f3,aR.load,c2',c3',w5,w3,g3,g5,fO,q6,nD,wz.1,wo2,wz.2,cB,reduceIte,cJ,Nat.reduceAdd];have:=last (by rw[dB];omega);simp only[fO,cB,reduceIte,cJ,Nat.reduceAdd] at this;exact this
       ·have g5:((0:Int)<(jB s:Int))=False:=eq_false (by omega);simp only[cH.f2,cH.f3,aR.load,c2',c3',w5,w3,g3,g5,fO,nD,wz.1,wo2,wz.2,cB,reduceIte,cJ,Nat.reduceAdd];have:=last (by rw[dB];omega);simp only[fO,cB,reduceIte,cJ,Nat.reduceAdd] at this;exact this
  ·have q:((s.length:Int) !=(size:Int))=true:=by rw[bne_iff_ne];omega
   have er:wH size s=(kB.zero,6):=by unfold wH;rw[if_neg (by simpa using ok),if_pos hl]
   simp only[ok,decide_true,iO,dY,q,aCz,cB,reduceIte,cJ,Nat.reduceAdd];exact fin 6 er Z1 u1
 ·have er:wH size s=(kB.zero,1):=by unfold wH;rw[if_pos ok]
  simp only[ok,decide_false,aCz,cB,reduceIte,cJ,Nat.reduceAdd];exact fin 1 er Z1 u1
def aVq{size:Nat}{x:Tx}(h:(fR size x).2=0):(fR size x).1.part<(fR size x).1.parts:=by
 unfold fR at h ⊢;split at h
 ·cases h
 ·rename_i a;split at h
  ·cases h
  ·rename_i b;split at h
   ·cases h
   ·rename_i c;split at h
    ·rename_i d;rw[if_neg a,if_neg b,if_neg c,if_pos d];exact d.1.2.2.2
    ·cases h
def aTB(size gen ser:Nat)(xs:List Tx)(p q:Nat)(t:Tx):iX size gen ser xs 0 p t=iX size gen ser xs 0 q t:=by
 cases xs with
 | nil=>rfl
 | cons x xs=>
  rw[aEV,aEV];simp only[if_true]
def aRl{h:PH}{size gen ser:Nat}{xs:List Tx}(hsz:size≤1000)(h1:1≤size)(hx:∀s∈xs,s.length=size)(hl:xs.length≤5000){k:cF}
  (hk:∀h',cZ h h'->k (.tuple #[.string (tx (iX size gen ser xs 0 0 []).1),.int .i64 ((iX size gen ser xs 0 0 []).2:Int)]) h'):bT PG aAM #[.int .i64 (size:Int),.int .u64 (gen:Int),.int .u64 (ser:Int),.string (tx xs.flatten)] h k:=by
 apply xT.call;unfold xT;obtain⟨T,hT⟩:∃T,iX size gen ser xs 0 0 []=T:=⟨_,rfl⟩;rw[hT] at hk;have fl:=aAN hx;have flb:xs.length*size≤5000*1000:=Nat.mul_le_mul hl hsz;refine⟨λvs h'=>∃(n parts:Nat) (t:Tx),n≤xs.length∧vs=[.int .i64 (size:Int),.int .u64 (gen:Int),.int .u64 (ser:Int),.string (tx xs.flatten),.string (tx t),.int .i64 (parts:Int),.int .i64 (n:Int)]∧cZ h h'∧t.length≤n*1000∧parts<256∧n≤parts∧(if n=parts then T=(t,parts) else T=iX size gen ser (xs.drop n) n parts t),fN xs.length 6,⟨0,1,[],by omega,rfl,cT.refl,by simp,by omega,by omega,by rw[if_neg (by decide),zLb,aTB size gen ser xs 1 0];exact hT.symm⟩,?_⟩;rintro ρ h' ⟨n,parts,t,hn,hvs,w,ht,hp,hnp,hr⟩;simp only[hY,iZ,kP,and_true] at hvs;obtain⟨x0,x1,x2,x3,x10,x11,x12⟩:=hvs;unfold aDW;rw[x0,x1,x2,x3,x10,x11,x12];by_cases he:n=parts
 ·have g0:((n:Int)<(parts:Int))=False:=eq_false (by omega);rw[if_pos he] at hr;simp only[g0,cB,reduceIte,cJ,Nat.reduceAdd];have:=hk h' w;rw[hr] at this;exact this
 ·have g0:((n:Int)<(parts:Int))=True:=eq_true (by omega);rw[if_neg he] at hr;have g1:=nP (i:=n) (by omega);have hm1:(n+1)*size≤5001*1000:=Nat.mul_le_mul (by omega) hsz;have hm0:n*size≤5001*1000:=Nat.mul_le_mul (by omega) hsz;have g2:IntKind.i64.wrap (((n+1:Nat):Int)*(size:Int))=(((n+1)*size:Nat):Int):=by rw[←Int.natCast_mul,eI (by omega) (by omega)]
  have g3:IntKind.i64.wrap ((n:Int)*(size:Int))=((n*size:Nat):Int):=by rw[←Int.natCast_mul,eI (by omega) (by omega)]
  by_cases hlt:n<xs.length
  ·have hle:(n+1)*size≤xs.length*size:=wA _ hlt;have gl:((xs.flatten.length:Int)<(((n+1)*size:Nat):Int))=False:=eq_false (by omega);obtain⟨x,hxx⟩:∃x,xs[n]? =some x:=⟨_,kO hlt⟩;have hxl:=hx x (wP hxx);have hms:n*size≤(n+1)*size:=wA _ (Nat.le_succ _);have c:cC PG (Instr.sliceAt aT (.string (tx xs.flatten)) (some (.int .i64 ((n*size:Nat):Int))) (some (.int .i64 (((n+1)*size:Nat):Int))) none)=some (.string (tx x)):=by
    have:=kL (P:=PG) (t:=aT) (l:=xs.flatten) (i:=n*size) (j:=(n+1)*size) (lo:=some (.int .i64 ((n*size:Nat):Int))) (hi:=some (.int .i64 (((n+1)*size:Nat):Int))) aT.und (.inr ⟨_,rfl⟩) (.inr ⟨_,rfl⟩) hms (by omega);rw[this,aOL hx hxx]
   have ed:xs.drop n=x::xs.drop (n+1):=by
    rw[aAy hlt];have:xs[n]=x:=by rw[kO hlt] at hxx;simpa using hxx
    rw[this]
   rw[ed,aEV] at hr;obtain⟨rf1,rf2⟩:=aLK size x;simp only[g0,g1,nD,g2,iO,gl,g3,c,cB,reduceIte,cJ,Nat.reduceAdd];refine aRs size x (by omega) λh2 u2=>?_;rw[aOE];simp only[cB,reduceIte,cJ,Nat.reduceAdd];intro r16 hr16
   try rw[cO]
   refine cH.fill (vs:=(fR size x).1.cells) hr16 rfl (fR size x).1.isC λh3 B3 u3=>?_;have e3:=(w.trans u2).trans u3;have b0:cX h3 ⟨r16,0,none⟩=some (.int .u64 ((fR size x).1.gen:Int)):=B3.cell 0;have b1:cX h3 ⟨r16,0+1,none⟩=some (.int .u64 ((fR size x).1.ser:Int)):=B3.cell 1;have b2:cX h3 ⟨r16,0+2,none⟩=some (.int .i64 ((fR size x).1.part:Int)):=B3.cell 2;have b3:cX h3 ⟨r16,0+3,none⟩=some (.int .i64 ((fR size x).1.parts:Int)):=B3.cell 3;have b4:cX h3 ⟨r16,0+4,none⟩=some (.string (tx (fR size x).1.b)):=B3.cell 4;have nq:∀{a b:Nat},a=b->((a:Int) !=(b:Int))=false:=λe=>by simp[e]
   have nn:∀{a b:Nat},a≠b->((a:Int) !=(b:Int))=true:=λe=>by rw[bne_iff_ne];omega
   have fail:aGL gen ser n (if n=0 then(fR size x).1.parts else parts) (fR size x)->k (.tuple #[.string {data:=#[]},.int .i64 0]) h3:=λhb=>by
    rw[if_pos hb] at hr;have:=hk h3 e3;rw[hr] at this;exact this
   by_cases c1:(fR size x).2=0
   ·have q1:((fR size x).2 !=0)=false:=by rw[c1];rfl
    have hlt2:=aVq c1;by_cases c2:(fR size x).1.gen=gen
    ·by_cases c3:(fR size x).1.ser=ser
     ·by_cases c4:(fR size x).1.part=n
      ·have ea:cC PG (binOp .add aT (.string (tx t)) (.string (tx (fR size x).1.b)))=some (.string (tx (t++(fR size x).1.b))):=jT (by omega);have goal:¬aGL gen ser n (if n=0 then(fR size x).1.parts else parts) (fR size x)->(∃(n' parts':Nat) (t':Tx),n'≤xs.length∧[.int .i64 (size:Int),.int .u64 (gen:Int),.int .u64 (ser:Int),.string (tx xs.flatten),.string (tx (t++(fR size x).1.b)),.int .i64 ((fR size x).1.parts:Int),.int .i64 ((n+1:Nat):Int)]=[Value.int .i64 (size:Int),.int .u64 (gen:Int),.int .u64 (ser:Int),.string (tx xs.flatten),.string (tx t'),.int .i64 (parts':Int),.int .i64 (n':Int)]∧cZ h h3∧t'.length≤n'*1000∧parts'<256∧n'≤parts'∧(if n'=parts' then T=(t',parts') else T=iX size gen ser (xs.drop n') n' parts' t')):=by
        intro hb;rw[if_neg hb] at hr;refine⟨n+1,(fR size x).1.parts,_,by omega,rfl,e3,by rw[jO];omega,rf1,by omega,?_⟩;by_cases c6:n+1=(fR size x).1.parts
        ·rw[if_pos c6] at hr ⊢;exact hr
        ·rw[if_neg c6] at hr ⊢;have:(if n=0 then(fR size x).1.parts else parts)=(fR size x).1.parts:=by
          split
          ·rfl
          ·rename_i h0;have h5:(fR size x).1.parts=parts:=Classical.byContradiction λe=>hb (.inr (.inr (.inr (.inr (by rw[if_neg h0];exact e)))));exact h5.symm
         rw[this] at hr;exact hr
       by_cases hn0:n=0
       ·have gz:((0:Int)<(n:Int))=False:=eq_false (by omega);simp only[dY,q1,cH.f0,cH.f1,cH.f2,cH.f3,cH.f4,cI.load,aR.load,aT.load,b0,b1,b2,b3,b4,nq c2,nq c3,nq c4,gz,ea,g1,cB,reduceIte,cJ,Nat.reduceAdd];exact⟨goal (by
         rintro(a|a|a|a|a)
         ·exact a c1
         ·exact a c2
         ·exact a c3
         ·exact a c4
         ·rw[if_pos hn0] at a;exact a rfl),by simp[fN,x12];omega⟩
       ·have gz:((0:Int)<(n:Int))=True:=eq_true (by omega);by_cases c5:(fR size x).1.parts=parts
        ·simp only[dY,q1,cH.f0,cH.f1,cH.f2,cH.f3,cH.f4,cI.load,aR.load,aT.load,b0,b1,b2,b3,b4,nq c2,nq c3,nq c4,gz,nq c5,ea,g1,cB,reduceIte,cJ,Nat.reduceAdd];exact⟨goal (by
          rintro(a|a|a|a|a)
          ·exact a c1
          ·exact a c2
          ·exact a c3
          ·exact a c4
          ·rw[if_neg hn0] at a;exact a c5),by simp[fN,x12];omega⟩
        ·simp only[dY,q1,cH.f0,cH.f1,cH.f2,cH.f3,cI.load,aR.load,b0,b1,b2,b3,nq c2,nq c3,nq c4,gz,nn c5,cB,reduceIte,cJ,Nat.reduceAdd];exact fail (.inr (.inr (.inr (.inr (by rw[if_neg hn0];exact c5)))))
      ·simp only[dY,q1,cH.f0,cH.f1,cH.f2,cI.load,aR.load,b0,b1,b2,nq c2,nq c3,nn c4,cB,reduceIte,cJ,Nat.reduceAdd];exact fail (.inr (.inr (.inr (.inl c4))))
     ·simp only[dY,q1,cH.f0,cH.f1,cI.load,aR.load,b0,b1,nq c2,nn c3,cB,reduceIte,cJ,Nat.reduceAdd];exact fail (.inr (.inr (.inl c3)))
    ·simp only[dY,q1,cH.f0,cI.load,aR.load,b0,nn c2,cB,reduceIte,cJ,Nat.reduceAdd];exact fail (.inr (.inl c2))
   ·have q1:((fR size x).2 !=0)=true:=bne_iff_ne.2 c1;simp only[dY,q1,cB,reduceIte,cJ,Nat.reduceAdd];exact fail (.inl c1)
  ·have gl:((xs.flatten.length:Int)<(((n+1)*size:Nat):Int))=True:=by
    have:n=xs.length:=by omega
    have hms:(n+1)*size=n*size+size:=Nat.succ_mul _ _;rw[this] at hms;exact eq_true (by rw[this];omega)
   rw[aBA (by omega)] at hr;simp only[g0,g1,nD,g2,iO,gl,cB,reduceIte,cJ,Nat.reduceAdd];have:=hk h' w;rw[hr] at this;exact this
def aT2{h:PH}{size gen:Nat}{xs:List Tx}(ok:fU size)(hx:∀s∈xs,s.length=size)(hl:xs.length≤5000){k:cF}
  (hk:∀h' v F,eJ h' aT 1 v ((jU size gen (xs.length+1) xs 0).1.map jJ) F->dZ h F->cZ h h'->k (.tuple #[v,.int .i64 ((jU size gen (xs.length+1) xs 0).2:Int)]) h'):bT PG aBj #[.int .i64 (size:Int),.int .u64 (gen:Int),.string (tx xs.flatten)] h k:=by
 apply aAZ.call;unfold aAZ;obtain⟨T,hT⟩:∃T,jU size gen (xs.length+1) xs 0=T:=⟨_,rfl⟩;rw[hT] at hk;have h64:=ok.1;have h512:=ok.2;have fl:=aAN hx;have flb:xs.length*size≤5000*512:=Nat.mul_le_mul hl h512;refine aDJ size ?_;simp only[ok,decide_true,cB,reduceIte,cJ,Nat.reduceAdd];refine⟨λvs h'=>∃(used ser f:Nat) (v:Value) (out:List Tx) (F:List Nat),used≤xs.length∧ser≤used∧out.length=ser∧xs.length<f+used∧vs=[.int .i64 (size:Int),.int .u64 (gen:Int),.string (tx xs.flatten),v,.int .i64 (used:Int)]∧eJ h' aT 1 v (out.map jJ) F∧dZ h F∧cZ h h'∧T=(out++(jU size gen f (xs.drop used) ser).1,used+(jU size gen f (xs.drop used) ser).2),fN xs.length 4,⟨0,0,xs.length+1,.slice none 0 0,[],[],by omega,by omega,rfl,by omega,rfl,eJ.nil,(λb hb=>by cases hb),cT.refl,by rw[zLb,hT,zLU,iS]⟩,?_⟩;rintro ρ h' ⟨used,ser,f,v,out,F,hu,hs,ho,hf,hvs,O,fF,w,hr⟩;simp only[hY,iZ,kP,and_true] at hvs;obtain⟨x0,x1,x2,x8,x9⟩:=hvs;unfold aE7;rw[x0,x1,x2,x8,x9];have hm0:used*size≤xs.length*size:=wA _ hu;have g3:IntKind.i64.wrap ((used:Int)*(size:Int))=((used*size:Nat):Int):=by rw[←Int.natCast_mul,eI (by omega) (by omega)]
 have c:cC PG (Instr.sliceAt aT (.string (tx xs.flatten)) (some (.int .i64 ((used*size:Nat):Int))) none none)=some (.string (tx (xs.drop used).flatten)):=by
  have:=kL (P:=PG) (t:=aT) (l:=xs.flatten) (i:=used*size) (j:=xs.flatten.length) (lo:=some (.int .i64 ((used*size:Nat):Int))) (hi:=none) aT.und (.inr ⟨_,rfl⟩) (.inl ⟨rfl,rfl⟩) (by omega) (mG _);rw[this,zLJ,aGK hx]
 obtain⟨f,rfl⟩:∃g,f=g+1:=⟨f-1,by omega⟩;have hle:=aLz (size:=size) (gen:=gen) (ser:=ser) (xs.drop used) 0 0 [];rw[jC] at hle;simp only[tP O.slR,ho,cvN ser (by omega),nD,g3,c,cB,reduceIte,cJ,Nat.reduceAdd];refine aRl (by omega) (by omega) (λs hs=>hx s (List.mem_of_mem_drop hs)) (by rw[jC];omega) λh2 u2=>?_;unfold jU at hr;by_cases c0:(iX size gen ser (xs.drop used) 0 0 []).2=0
 ·rw[if_pos c0,zLQ,zLP] at hr;have q0:(((iX size gen ser (xs.drop used) 0 0 []).2:Int)==0)=true:=by simp[c0]
  simp only[fO,q0,cB,reduceIte,cJ,Nat.reduceAdd];have:=hk h2 v F;have hr':T=(out,used):=hr;rw[hr'] at this;exact this (O.ext u2) fF (w.trans u2)
 ·rw[if_neg c0] at hr;have q0:(((iX size gen ser (xs.drop used) 0 0 []).2:Int)==0)=false:=by rw[beq_eq_false_iff_ne];omega
  simp only[fO,q0,aFw,cB,reduceIte,cJ,Nat.reduceAdd];intro r13 hr13;refine gY ?_
  try rw[cO]
  have S1:=(aFX (h:=h2) (r:=r13) (iX size gen ser (xs.drop used) 0 0 []).1).slR;have u3:cZ h2 (h2.set r13 (.cells #[.string (tx (iX size gen ser (xs.drop used) 0 0 []).1)] aT)):=cT.new hr13;refine lL cU.und cU.und aT.info aT.size aT.bytes aT.zero rfl (by decide) ((O.ext u2).ext u3) S1 (by simp[fI]) (by simp only[iF,iP,kI];omega) ?_;intro v4 h4 F4 O4 u4 g4 _;have O4:eJ h4 aT 1 v4 ((out++[(iX size gen ser (xs.drop used) 0 0 []).1]).map jJ) F4:=by rw[wB];exact O4
  have gu:IntKind.i64.wrap ((used:Int)+((iX size gen ser (xs.drop used) 0 0 []).2:Int))=((used+(iX size gen ser (xs.drop used) 0 0 []).2:Nat):Int):=by rw[eI (by omega) (by omega)];omega
  have e3:=(w.trans u2).trans u3;simp only[gu,cB,reduceIte,cJ,Nat.reduceAdd];rw[pR] at hr;refine⟨⟨used+(iX size gen ser (xs.drop used) 0 0 []).2,ser+1,f,v4,_,F4,by omega,by omega,by rw[jO,ho];rfl,by omega,rfl,O4,fF.grow e3 g4,e3.fresh u4 fF,?_⟩,by simp[fN,x9];omega⟩;rw[hr,vP,Nat.add_assoc];rfl
def aHI:cC PG (build cA #[])=some Hd.zero.v:=by kernel_rfl
def aOK(a b:Int):cC PG (build cA #[(0,.int .u64 a),(1,.int .i64 b)])=some (.agg #[.int .u64 a,.int .i64 b]):=by kernel_rfl
def aVG(a:Int):cC PG (build cA #[(0,.int .u64 a)])=some (.agg #[.int .u64 a,.int .i64 0]):=by kernel_rfl
def aA8{h:PH}{r:Nat}{x:Hd}(B:Bx h r x.cells):cD PG h (loadAt cA (pT r 0))=some x.v:=cA.agg B (by show 0+2≤2;decide)
def aP3{h:PH}(size:Nat)(x:Hd)(hg:x.gen<18446744073709551616)(hs:x.seg<1000000){k:cF}(hk:∀h',cZ h h'->k (.tuple #[.string (tx (fQ size x).1),.int .i64 (fQ size x).2]) h'):bT PG yF #[.int .i64 (size:Int),x.v] h k:=by
 apply tK.call;unfold tK;intro r1 hr1
 try rw[cO]
 have u1:cZ h (h.set r1 (.cells (Value.cells x.v) cA)):=cT.new hr1;have B1:Bx (h.set r1 (.cells (Value.cells x.v) cA)) r1 x.cells:=Bx.new;generalize h.set r1 (.cells (Value.cells x.v) cA)=h1 at *;have bad:(¬fU size∨x.gen=0∨1<x.seg)->k (.tuple #[.string {data:=#[]},.int .i64 1]) h1:=λc=>by
  have e:fQ size x=([],1):=by unfold fQ;rw[if_pos c]
  have:=hk h1 u1;rw[e] at this;exact this
 refine aDJ size ?_;have b0:cX h1 ⟨r1,0,none⟩=some (.int .u64 (x.gen:Int)):=B1.cell 0;have b1:cX h1 ⟨r1,0+1,none⟩=some (.int .i64 (x.seg:Int)):=B1.cell 1;by_cases c1:fU size
 ·have h64:=c1.1;have h512:=c1.2;by_cases c2:x.gen=0
  ·have g2:((x.gen:Int)<1)=True:=eq_true (by omega);simp only[c1,decide_true,cA.f0,cI.load,b0,g2,cB,reduceIte,cJ,Nat.reduceAdd];exact bad (.inr (.inl c2))
  ·have g2:((x.gen:Int)<1)=False:=eq_false (by omega);have go:x.seg≤1->bY (cC PG (convert aR cI (.int .i64 (x.seg:Int)))) λv55=>
     bT PG fT #[.int .u64 (x.gen:Int),.int .i64 8] h1 λv56 h57=>
     cD PG h57 (loadAt aR (pT r1 (0+1)))=some (.int .i64 (x.seg:Int))∧(bY (cC PG (binOp BinOp.add aT (Value.string {data:=#[72]}) v56)) λv58=>
     bT PG fT #[v55,(Value.int IntKind.i64 1)] h57 λv59 h60=>
     (bY (cC PG (binOp BinOp.add aT v58 v59)) λv61=>
     bY (cC PG (binOp BinOp.sub aR (.int .i64 (size:Int)) (Value.int IntKind.i64 4))) λv62=>
     bY (cC PG (Builtin.len_ #[aT] aR #[v61])) λv63=>
     bY (cC PG (binOp BinOp.sub aR v62 v63)) λv64=>
     bY (jX PG (Instr.makeSlice cW v64 v64)) λx66=>∀r65,h60 r65=none->bY (cC PG (x66.2 r65)) λv67=>dT (PH.set h60 r65 x66.1) λh68=>
     bY (cD PG h68 (convert cW aT v67)) λv69=>
     bY (cC PG (binOp BinOp.add aT v61 v69)) λv70=>
     bT PG pM #[v70] h68 λv71 h72=>
     k (Value.tuple #[v71,(Value.int IntKind.i64 0)]) h72)):=by
    intro c3;have e:fQ size x=(mZ (nM size x),0):=by unfold fQ;rw[if_neg (by rintro(a|a|a);exact a c1;exact c2 a;omega)]
    rw[e] at hk;have e72:(⟨#[72]⟩:ByteArray)=tx [72]:=rfl;rw[e72];simp only[cvN x.seg (by omega),iH,zPP];refine lW (n:=x.gen) (c:=8) hg (by decide) λh2 u2=>?_;have a1:cC PG (binOp .add aT (.string (tx [72])) (.string (tx (be x.gen 8))))=some (.string (tx ([72]++be x.gen 8))):=jT (by simp[gU]);have b1':cX h2 ⟨r1,0+1,none⟩=some (.int .i64 (x.seg:Int)):=(B1.ext u2).cell 1;refine⟨by rw[aR.load];exact b1',?_⟩;simp only[a1,iH,zPP];refine lW (n:=x.seg) (c:=1) (by omega) (by decide) λh3 u3=>?_;have a2:cC PG (binOp .add aT (.string (tx ([72]++be x.gen 8))) (.string (tx (be x.seg 1))))=some (.string (tx ([72]++be x.gen 8++be x.seg 1))):=jT (by simp[gU]);have hl:([72]++be x.gen 8++be x.seg 1).length=10:=by simp[gU]
    have w1:IntKind.i64.wrap ((size:Int)-4)=(size:Int)-4:=eI (by omega) (by omega);have w2:IntKind.i64.wrap ((size:Int)-4-((10:Nat):Int))=((size-14:Nat):Int):=by rw[eI (by omega) (by omega)];omega
    simp only[a2,aJ3,w1,iO,hl,w2,iH,zPP];refine aPP (size-14) (by omega) λh4 u4=>?_;have eb: [72]++be x.gen 8++be x.seg 1++kT (size-14)=nM size x:=by unfold nM;simp only[vP]
    have a3:cC PG (binOp .add aT (.string (tx ([72]++be x.gen 8++be x.seg 1))) (.string (tx (kT (size-14)))))=some (.string (tx (nM size x))):=by
     rw[←eb];exact jT (by rw[hl,vT];omega)
    simp only[a3,iH,zPP];refine aLJ _ (by rw[←eb,jO,hl,vT];omega) λh5 u5=>?_;exact hk h5 ((((u1.trans u2).trans u3).trans u4).trans u5)
   by_cases c3:x.seg=0
   ·have q3:((x.seg:Int) !=0)=false:=by simp[c3]
    simp only[c1,decide_true,cA.f0,cA.f1,cI.load,aR.load,b0,b1,g2,dY,q3,cB,reduceIte,cJ,Nat.reduceAdd];have:=go (by omega);simp only[aR.load,iS] at this;exact this
   ·have q3:((x.seg:Int) !=0)=true:=by rw[bne_iff_ne];omega
    by_cases c4:x.seg=1
    ·have q4:((x.seg:Int) !=1)=false:=by simp[c4]
     simp only[c1,decide_true,cA.f0,cA.f1,cI.load,aR.load,b0,b1,g2,dY,q3,q4,cB,reduceIte,cJ,Nat.reduceAdd];have:=go (by omega);simp only[aR.load,iS] at this;exact this
    ·have q4:((x.seg:Int) !=1)=true:=by rw[bne_iff_ne];omega
     simp only[c1,decide_true,cA.f0,cA.f1,cI.load,aR.load,b0,b1,g2,dY,q3,q4,cB,reduceIte,cJ,Nat.reduceAdd];exact bad (.inr (.inr (by omega)))
 ·simp only[c1,decide_false,cB,reduceIte,cJ,Nat.reduceAdd];exact bad (.inl c1)
def hdz(s:Tx)(i:Nat):Bool:=((s.take i).drop 10).all (· == 0)
def aVT{h:PH}(size:Nat)(s:Tx)(hs:s.length≤1000000){k:cF}(hk:∀h',cZ h h'->k (.tuple #[(fZ size s).1.v,.int .i64 (fZ size s).2]) h'):bT PG aB3 #[.int .i64 (size:Int),.string (tx s)] h k:=by
 rw[←aVB] at hk;apply tG.call;unfold tG;intro r1 hr1
 try rw[cO]
 have Z1:Bx (h.set r1 (.cells (dF PG cA) cA)) r1 Hd.zero.cells:=cA.zbox;have u1:cZ h (h.set r1 (.cells (dF PG cA) cA)):=cT.new hr1;generalize h.set r1 (.cells (dF PG cA) cA)=h1 at *;have fin:∀{h':PH} (f:Hd) (e:Int),aHr size s=(f,e)->Bx h' r1 Hd.zero.cells->cZ h h'->cM PG (cQ cA (pT r1 0) f.v) h' λ_ h8=>bY (cD PG h8 (loadAt cA (pT r1 0))) λv9=>k (.tuple #[v9,.int .i64 e]) h8:=by
  intro h' f e he B w;refine cA.put B (vs:=f.cells) (o:=0) rfl (by show 0+2≤2;decide) f.isC λh2 B2 u2=>?_;have B2:Bx h2 r1 f.cells:=B2;simp only[aA8 B2,iH,zPP];have:=hk h2 (w.fresh u2 (dZ.one hr1));rw[he] at this;exact this
 refine aDJ size ?_;by_cases ok:fU size
 ·have h64:=ok.1;have h512:=ok.2;by_cases hl:s.length=size
  ·have q:((s.length:Int) !=(size:Int))=false:=by simp[hl]
   simp only[ok,decide_true,iO,dY,q,cB,reduceIte,cJ,Nat.reduceAdd];refine aNc s hs λh4 u4=>?_;have e4:=u1.trans u4;cases hsl:nQ s with
   | false=>
    have er:aHr size s=(Hd.zero,8):=by unfold aHr;rw[if_neg (by simpa using ok),if_neg (by simpa using hl),if_pos hsl]
    simp only[aHI,cB,reduceIte,cJ,Nat.reduceAdd];exact fin Hd.zero 8 er (Z1.ext u4) e4
   | true=>
    have er:aHr size s=if aFu size s then(qC s,0) else(Hd.zero,5):=by unfold aHr;rw[if_neg (by simpa using ok),if_neg (by simpa using hl),if_neg (by rw[hsl];decide)]
    have c1:cC PG (Instr.sliceAt aT (.string (tx s)) (some (.int .i64 1)) (some (.int .i64 9)) none)=some (.string (tx ((s.drop 1).take 8))):=by
     have:=kL (P:=PG) (t:=aT) (l:=s) (i:=1) (j:=9) (lo:=some (.int .i64 1)) (hi:=some (.int .i64 9)) aT.und (.inr ⟨_,rfl⟩) (.inr ⟨_,rfl⟩) (by omega) (by omega);rw[this,zLy]
    obtain⟨b9,hb9⟩:∃b,s[9]? =some b:=⟨_,kO (by omega)⟩;obtain⟨b0,hb0⟩:∃b,s[0]? =some b:=⟨_,kO (by omega)⟩;have i9:cC PG (Instr.index aT (.string (tx s)) (.int .i64 9))=some (.int .u8 b9.toNat):=nL (j:=9) aT.und hb9;have i0:cC PG (Instr.index aT (.string (tx s)) (.int .i64 0))=some (.int .u8 b0.toNat):=nL (j:=0) aT.und hb0;have d9:(qC s).seg=b9.toNat:=aI6 hb9;have l9:=b9.toNat_lt;have t1:s.take 1=[72]↔b0=72:=by
     have:s.take 1=[b0]:=by
      obtain⟨hl0,e⟩:=zLA.1 hb0;cases s with
      | nil=>cases hl0
      | cons y s=>simp at e;simp[e]
     rw[this];simp
    simp only[c1,i9,aGS,cB,reduceIte,cJ,Nat.reduceAdd];refine aBP (by rw[mN];omega) ?_;rw[←d9];show bY (cC PG (build cA #[(0,.int .u64 ((qC s).gen:Int)),(1,.int .i64 ((qC s).seg:Int))])) _;simp only[aOK,iH,zPP];intro r29 hr29
    try rw[cO]
    refine cA.fill (vs:=(qC s).cells) hr29 rfl (qC s).isC λh5 B5 u5=>?_;have e5:=e4.trans u5;have Z5:=(Z1.ext u4).ext u5;have bg:cX h5 ⟨r29,0,none⟩=some (.int .u64 ((qC s).gen:Int)):=B5.cell 0;have bs:cX h5 ⟨r29,0+1,none⟩=some (.int .i64 ((qC s).seg:Int)):=B5.cell 1;have q0:((b0.toNat:Int)==72)=decide (b0=72):=by
     rw[xQ,beq_iff_eq,decide_eq_true_iff];constructor
     ·intro e;apply UInt8.toNat_inj.1;have:b0.toNat=72:=by omega
      rw[this];rfl
     ·intro e;rw[e];rfl
    have loop:∀b:Bool,b=decide (b0=72∧(qC s).gen≠0∧(qC s).seg<2)->gV [0,1,4,6,7,8] (λn61 ρ h=>aBl k n61 (ρ 0) (ρ 1) (ρ 4) (ρ 6) (ρ 7) (ρ 8) h) [.int .i64 (size:Int),.string (tx s),pT r1 0,pT r29 0,.bool b,.int .i64 10] h5:=by
     intro b hb;refine⟨λvs h'=>∃i:Nat,10≤i∧i≤size-4∧vs=[.int .i64 (size:Int),.string (tx s),pT r1 0,pT r29 0,.bool (decide (b0=72∧(qC s).gen≠0∧(qC s).seg<2)&&hdz s i),.int .i64 (i:Int)]∧h'=h5,fN size 5,⟨10,by omega,by omega,?_,rfl⟩,?_⟩
     ·have:(s.take 10).drop 10=[]:=aBA (by rw[mN];omega);unfold hdz;rw[this,hb];simp
     rintro ρ h' ⟨i,hi,hi2,hvs,rfl⟩;simp only[hY,iZ,kP,and_true] at hvs;obtain⟨x0,x1,x4,x6,x7,x8⟩:=hvs;unfold aBl;rw[x0,x1,x4,x6,x7,x8];have w4:IntKind.i64.wrap ((size:Int)-4)=((size-4:Nat):Int):=by rw[eI (by omega) (by omega)];omega
     by_cases hlt:i<size-4
     ·have g:((i:Int)<((size-4:Nat):Int))=True:=eq_true (by omega);have gi:=nP (i:=i) (by omega);obtain⟨y,hy⟩:∃y,s[i]? =some y:=⟨_,kO (by omega)⟩;have iy:cC PG (Instr.index aT (.string (tx s)) (.int .i64 (i:Int)))=some (.int .u8 y.toNat):=nL (j:=i) aT.und hy;have et:(s.take (i+1)).drop 10=(s.take i).drop 10++[y]:=by
       rw[zLR,hy,List.drop_append_of_le_length (by rw[mN];omega)];rfl
      have qy:((y.toNat:Int)==0)=decide (y=0):=by
       rw[xQ,beq_iff_eq,decide_eq_true_iff];constructor
       ·intro e;apply UInt8.toNat_inj.1;have:y.toNat=0:=by omega
        rw[this];rfl
       ·intro e;rw[e];rfl
      have en:(decide (b0=72∧(qC s).gen≠0∧(qC s).seg<2)&&hdz s (i+1))=((decide (b0=72∧(qC s).gen≠0∧(qC s).seg<2)&&hdz s i)&&decide (y=0)):=by
       have:hdz s (i+1)=(hdz s i&&decide (y=0)):=by
        have e0:(y==0)=decide (y=0):=by rw[xQ,beq_iff_eq,decide_eq_true_iff]
        unfold hdz;rw[et,List.all_append,List.all_cons,List.all_nil,Bool.and_true,e0]
       rw[this,Bool.and_assoc]
      cases cb:(decide (b0=72∧(qC s).gen≠0∧(qC s).seg<2)&&hdz s i) with
      | true=>
       rw[cb,zLo] at en;simp only[w4,g,iy,fO,qy,gi,cB,reduceIte,cJ,Nat.reduceAdd];exact⟨⟨i+1,by omega,by omega,by rw[en],by first|rfl|trivial⟩,by simp[fN,x8];omega⟩
      | false=>
       rw[cb,zLn] at en;simp only[w4,g,gi,cB,reduceIte,cJ,Nat.reduceAdd];exact⟨⟨i+1,by omega,by omega,by rw[en],by first|rfl|trivial⟩,by simp[fN,x8];omega⟩
     ·have g:((i:Int)<((size-4:Nat):Int))=False:=eq_false (by omega);obtain rfl:i=size-4:=by omega
      have ed:(decide (b0=72∧(qC s).gen≠0∧(qC s).seg<2)&&hdz s (size-4))=decide (aFu size s):=by
       rw[xQ,rQ,decide_eq_true_iff,decide_eq_true_iff];unfold aFu hdz;rw[t1,aJD];simp only[beq_iff_eq];exact⟨λ⟨⟨a,b,c⟩,d⟩=>⟨a,b,c,d⟩,λ⟨a,b,c,d⟩=>⟨⟨a,b,c⟩,d⟩⟩
      rw[ed];by_cases cd:aFu size s
      ·rw[if_pos cd] at er;simp only[w4,g,cd,decide_true,aA8 B5,cB,reduceIte,cJ,Nat.reduceAdd];exact fin (qC s) 0 er Z5 e5
      ·rw[if_neg cd] at er;simp only[w4,g,cd,decide_false,aHI,cB,reduceIte,cJ,Nat.reduceAdd];exact fin Hd.zero 5 er Z5 e5
    by_cases k0:b0=72
    ·have g0:decide (b0=72)=true:=decide_eq_true k0;by_cases k1:(qC s).gen=0
     ·have g1:((0:Int)<((qC s).gen:Int))=False:=eq_false (by omega);simp only[i0,fO,q0,g0,cA.f0,cI.load,bg,g1,cB,reduceIte,cJ,Nat.reduceAdd];exact loop false (by rw[eq_comm];exact decide_eq_false (λx=>x.2.1 k1))
     ·have g1:((0:Int)<((qC s).gen:Int))=True:=eq_true (by omega);have e2:decide (((qC s).seg:Int)<2)=decide (b0=72∧(qC s).gen≠0∧(qC s).seg<2):=by
       rw[xQ,decide_eq_true_iff,decide_eq_true_iff];exact⟨λh=>⟨k0,k1,by omega⟩,λh=>by omega⟩
      simp only[i0,fO,q0,g0,cA.f0,cA.f1,cI.load,aR.load,bg,g1,bs,cB,reduceIte,cJ,Nat.reduceAdd];exact loop _ e2
    ·have g0:decide (b0=72)=false:=decide_eq_false k0;simp only[i0,fO,q0,g0,cB,reduceIte,cJ,Nat.reduceAdd];exact loop false (by rw[eq_comm];exact decide_eq_false (λx=>k0 x.1))
  ·have q:((s.length:Int) !=(size:Int))=true:=by rw[bne_iff_ne];omega
   have er:aHr size s=(Hd.zero,6):=by unfold aHr;rw[if_neg (by simpa using ok),if_pos hl]
   simp only[ok,decide_true,iO,dY,q,aHI,cB,reduceIte,cJ,Nat.reduceAdd];exact fin Hd.zero 6 er Z1 u1
 ·have er:aHr size s=(Hd.zero,1):=by unfold aHr;rw[if_pos ok]
  simp only[ok,decide_false,aHI,cB,reduceIte,cJ,Nat.reduceAdd];exact fin Hd.zero 1 er Z1 u1
def wJ(size:Nat)(x y:Tx):Nat->Hd×Int
 | 0=>(Hd.zero,-1)
 | 1=>zP (Hd.zero,-1) 0 (fZ size x)
 | _=>zP (zP (Hd.zero,-1) 0 (fZ size x)) 1 (fZ size y)
def aQd{h:PH}{v:Value}(size:Nat)(x y:Tx)(S:hM h 1 v ([x,y].map jJ))(hx:x.length≤1000000)(hy:y.length≤1000000){k:cF}(hk:∀h',cZ h h'->k (.tuple #[(nC size x y).1.v,.int .i64 (nC size x y).2]) h'):bT PG aAJ #[.int .i64 (size:Int),v] h k:=by
 rw[←aQo] at hk;apply xS.call;unfold xS;intro r1 hr1
 try rw[cO]
 have Z1:Bx (h.set r1 (.cells (dF PG cA) cA)) r1 Hd.zero.cells:=cA.zbox;have u1:cZ h (h.set r1 (.cells (dF PG cA) cA)):=cT.new hr1;generalize h.set r1 (.cells (dF PG cA) cA)=h1 at *;simp only[aHI,cB,reduceIte,cJ,Nat.reduceAdd];intro r4 hr4
 try rw[cO]
 refine cA.fill (vs:=Hd.zero.cells) hr4 rfl Hd.zero.isC λh2 B2 u2=>?_;have Z2:=Z1.ext u2;have n14:r1≠r4:=Z1.apart hr4;have e2:=u1.trans u2;have f1:dZ h [r1]:=dZ.one hr1;have f4:dZ h [r4]:=dZ.one (u1.none hr4);have lv:cC PG (Builtin.len_ #[cU] aR #[v])=some (.int .i64 2):=tP S;refine⟨λvs h'=>∃i:Nat,i≤2∧vs=[.int .i64 (size:Int),v,pT r1 0,pT r4 0,.int .i64 (wJ size x y i).2,.int .i64 (i:Int)]∧Bx h' r4 (wJ size x y i).1.cells∧Bx h' r1 Hd.zero.cells∧cZ h h',fN 2 5,⟨0,by omega,rfl,B2,Z2,e2⟩,?_⟩;rintro ρ h' ⟨i,hi,hvs,B,Zb,w⟩;simp only[hY,iZ,kP,and_true] at hvs;obtain⟨x0,x1,x4,x6,x7,x8⟩:=hvs;unfold aDQ;rw[x0,x1,x4,x6,x7,x8];by_cases hlt:i<2
 ·have g:((i:Int)<2)=True:=eq_true (by omega);have gi:=nP (i:=i) (by omega);obtain⟨s,hs⟩:∃s,[x,y][i]? =some s:=⟨_,kO (show i<[x,y].length from hlt)⟩;have hsl:s.length≤1000000:=by
   have:=wP hs;simp only[iR,zLg,or_false] at this;rcases this with rfl|rfl<;>assumption
  obtain⟨a,i1,i2⟩:=aFR (S.ext w) hs;have step:wJ size x y (i+1)=zP (wJ size x y i) (i:Int) (fZ size s):=by
   have:i=0∨i=1:=by omega
   rcases this with rfl|rfl
   ·simp at hs;subst hs;rfl
   ·simp at hs;subst hs;rfl
  simp only[lv,g,i1,i2,cB,reduceIte,cJ,Nat.reduceAdd];refine aVT size s hsl λh3 u3=>?_;simp only[cB,reduceIte,cJ,Nat.reduceAdd];intro r18 hr18
  try rw[cO]
  refine cA.fill (vs:=(fZ size s).1.cells) hr18 rfl (fZ size s).1.isC λh5 B5 u5=>?_;have e5:=(w.trans u3).trans u5;have D4:=(B.ext u3).ext u5;have D1:=(Zb.ext u3).ext u5;have b0:cX h5 ⟨r18,0,none⟩=some (.int .u64 ((fZ size s).1.gen:Int)):=B5.cell 0;have c0:cX h5 ⟨r4,0,none⟩=some (.int .u64 ((wJ size x y i).1.gen:Int)):=D4.cell 0;have stay:wJ size x y (i+1)=wJ size x y i->nJ k (λvs h'=>(∃i:Nat,i≤2∧vs=[.int .i64 (size:Int),v,pT r1 0,pT r4 0,.int .i64 (wJ size x y i).2,.int .i64 (i:Int)]∧Bx h' r4 (wJ size x y i).1.cells∧Bx h' r1 Hd.zero.cells∧cZ h h')∧fN 2 5 vs h'<fN 2 5 ([0,1,4,6,7,8].map ρ) h') (.int .i64 (size:Int)) v (pT r1 0) (pT r4 0) (.int .i64 (wJ size x y i).2) (.int .i64 (i:Int)) h5:=by
   intro en;unfold nJ yL;simp only[gi,cB,reduceIte,cJ,Nat.reduceAdd];rw[←en];rw[←en] at D4;exact⟨⟨i+1,by omega,rfl,D4,D1,e5⟩,by simp[fN,x8];omega⟩
  have move:wJ size x y (i+1)=((fZ size s).1,(i:Int))->cM PG (cQ cA (pT r4 0) (fZ size s).1.v) h5 λ_ h60=>nJ k (λvs h'=>(∃i:Nat,i≤2∧vs=[.int .i64 (size:Int),v,pT r1 0,pT r4 0,.int .i64 (wJ size x y i).2,.int .i64 (i:Int)]∧Bx h' r4 (wJ size x y i).1.cells∧Bx h' r1 Hd.zero.cells∧cZ h h')∧fN 2 5 vs h'<fN 2 5 ([0,1,4,6,7,8].map ρ) h') (.int .i64 (size:Int)) v (pT r1 0) (pT r4 0) (.int .i64 (i:Int)) (.int .i64 (i:Int)) h60:=by
   intro en;refine cA.put D4 (vs:=(fZ size s).1.cells) (o:=0) rfl (by show 0+2≤2;decide) (fZ size s).1.isC λh6 B6 u6=>?_;have B6:Bx h6 r4 (fZ size s).1.cells:=B6;unfold nJ yL;simp only[gi,cB,reduceIte,cJ,Nat.reduceAdd];exact⟨⟨i+1,by omega,by rw[en],by rw[en];exact B6,D1.upd u6 (by simpa using n14),e5.fresh u6 f4⟩,by simp[fN,x8];omega⟩
  by_cases c1:(fZ size s).2=0
  ·have q1:((fZ size s).2==0)=true:=by rw[c1];rfl
   by_cases c2:(wJ size x y i).2<0
   ·have g2:((wJ size x y i).2<0)=True:=eq_true c2;simp only[fO,q1,g2,aA8 B5,cB,reduceIte,cJ,Nat.reduceAdd];exact move (by rw[step];exact if_pos ⟨c1,.inl c2⟩)
   ·have g2:((wJ size x y i).2<0)=False:=eq_false c2;by_cases c3:(wJ size x y i).1.gen<(fZ size s).1.gen
    ·have g3:(((wJ size x y i).1.gen:Int)<((fZ size s).1.gen:Int))=True:=eq_true (by omega);simp only[fO,q1,g2,cA.f0,cI.load,b0,c0,g3,aA8 B5,cB,reduceIte,cJ,Nat.reduceAdd];exact move (by rw[step];exact if_pos ⟨c1,.inr c3⟩)
    ·have g3:(((wJ size x y i).1.gen:Int)<((fZ size s).1.gen:Int))=False:=eq_false (by omega);simp only[fO,q1,g2,cA.f0,cI.load,b0,c0,g3,cB,reduceIte,cJ,Nat.reduceAdd];exact stay (by rw[step];exact if_neg (λz=>z.2.elim c2 c3))
  ·have q1:((fZ size s).2==0)=false:=by rw[beq_eq_false_iff_ne];exact c1
   simp only[fO,q1,cB,reduceIte,cJ,Nat.reduceAdd];exact stay (by rw[step];exact if_neg (λz=>c1 z.1))
 ·have g:((i:Int)<2)=False:=eq_false (by omega);obtain rfl:i=2:=by omega
  have g2:(((2:Nat):Int)<2)=False:=eq_false (by decide);have B:Bx h' r4 (zP (zP (Hd.zero,-1) 0 (fZ size x)) 1 (fZ size y)).1.cells:=B;simp only[lv,g2,aA8 B,cB,reduceIte,cJ,Nat.reduceAdd];refine cA.put Zb (vs:=(zP (zP (Hd.zero,-1) 0 (fZ size x)) 1 (fZ size y)).1.cells) (o:=0) rfl (by show 0+2≤2;decide) (Hd.isC _) λh6 B6 u6=>?_;have B6:Bx h6 r1 (zP (zP (Hd.zero,-1) 0 (fZ size x)) 1 (fZ size y)).1.cells:=B6;simp only[aA8 B6,cB,reduceIte,cJ,Nat.reduceAdd];exact hk h6 (w.fresh u6 f1)
def aT8{h:PH}(x:Hd)(hg:x.gen<18446744073709551616){k:cF}(hk:∀h',cZ h h'->k (.tuple #[(gL x).1.v,.int .i64 (gL x).2]) h'):bT PG aBi #[x.v] h k:=by
 apply aAl.call;unfold aAl;intro r1 hr1
 try rw[cO]
 have u1:cZ h (h.set r1 (.cells (Value.cells x.v) cA)):=cT.new hr1;have B1:Bx (h.set r1 (.cells (Value.cells x.v) cA)) r1 x.cells:=Bx.new;generalize h.set r1 (.cells (Value.cells x.v) cA)=h1 at *;intro r3 hr3
 try rw[cO]
 have Z3:Bx (h1.set r3 (.cells (dF PG cA) cA)) r3 Hd.zero.cells:=cA.zbox;have u3:cZ h1 (h1.set r3 (.cells (dF PG cA) cA)):=cT.new hr3;have C1:=B1.ext u3;generalize h1.set r3 (.cells (dF PG cA) cA)=h3 at *;have e3:=u1.trans u3;have b0:cX h3 ⟨r1,0,none⟩=some (.int .u64 (x.gen:Int)):=C1.cell 0;have b1:cX h3 ⟨r1,0+1,none⟩=some (.int .i64 (x.seg:Int)):=C1.cell 1;have fin:∀(f:Hd) (e:Int),gL x=(f,e)->cM PG (cQ cA (pT r3 0) f.v) h3 λ_ h8=>bY (cD PG h8 (loadAt cA (pT r3 0))) λv9=>k (.tuple #[v9,.int .i64 e]) h8:=by
  intro f e hr;refine cA.put Z3 (vs:=f.cells) (o:=0) rfl (by show 0+2≤2;decide) f.isC λh2 B2 u2=>?_;have B2:Bx h2 r3 f.cells:=B2;simp only[aA8 B2,iH,zPP];have:=hk h2 (e3.fresh u2 (dZ.one (u1.none hr3)));rw[hr] at this;exact this
 by_cases c:x.gen=18446744073709551615
 ·have wg:IntKind.u64.wrap ((x.gen:Int)+1)=0:=by rw[c];decide
  have q:((0:Int)==0)=true:=rfl;simp only[cA.f0,cI.load,b0,wg,fO,q,aHI,cB,reduceIte,cJ,Nat.reduceAdd];exact fin Hd.zero 12 (by unfold gL;rw[if_pos c])
 ·have wg:IntKind.u64.wrap ((x.gen:Int)+1)=((x.gen+1:Nat):Int):=by rw[jY (by omega) (by omega)];omega
  have q:(((x.gen+1:Nat):Int)==0)=false:=by rw[beq_eq_false_iff_ne];omega
  by_cases c2:x.seg=0
  ·have q2:((x.seg:Int)==0)=true:=by simp[c2]
   simp only[cA.f0,cA.f1,cI.load,aR.load,b0,b1,wg,fO,q,q2,aOK,cB,reduceIte,cJ,Nat.reduceAdd];exact fin ⟨x.gen+1,1⟩ 0 (by unfold gL;rw[if_neg c,if_pos c2])
  ·have q2:((x.seg:Int)==0)=false:=by rw[beq_eq_false_iff_ne];omega
   simp only[cA.f0,cA.f1,cI.load,aR.load,b0,b1,wg,fO,q,q2,aOK,cB,reduceIte,cJ,Nat.reduceAdd];exact fin ⟨x.gen+1,0⟩ 0 (by unfold gL;rw[if_neg c,if_neg c2])
def aIS{h:PH}{r:Nat}{d:Dk}{F:List Nat}(D:rS r d h F)(h2:2≤d.sectors){k:cF}(hk:k (.int .i64 (d.segs:Int)) h):bT PG pO #[pT r 0] h k:=by
 apply wN.call;unfold wN;obtain⟨bv,L⟩:=D.b;have hm:=D.ok.many;have w1:IntKind.i64.wrap ((d.sectors:Int)-2)=((d.sectors-2:Nat):Int):=by rw[eI (by omega) (by omega)];omega
 have w2:cC PG (binOp .quo aR (.int .i64 ((d.sectors-2:Nat):Int)) (.int .i64 2))=some (.int .i64 (d.segs:Int)):=by
  have e:Int.tdiv ((d.sectors-2:Nat):Int) 2=(d.segs:Int):=rfl;have e2:IntKind.i64.wrap (d.segs:Int)=(d.segs:Int):=eI (by omega) (by unfold Dk.segs;omega);rw[aKS (by decide),e,e2]
 simp only[dC.f1,aR.load,L.sectors,w1,w2,cB,reduceIte,cJ,Nat.reduceAdd];exact hk
def aO0{h:PH}{r:Nat}{d:Dk}{F:List Nat}(D:rS r d h F)(h2:2≤d.sectors)(x:Hd)(hs:x.seg≤1){k:cF}(hk:∀h',cZ h h'->k (.int .i64 (d.base x.seg:Int)) h'):bT PG wK #[pT r 0,x.v] h k:=by
 apply aAk.call;unfold aAk;have hm:=D.ok.many;intro r1 hr1
 try rw[cO]
 have u1:cZ h (h.set r1 (.cells (Value.cells x.v) cA)):=cT.new hr1;have B1:Bx (h.set r1 (.cells (Value.cells x.v) cA)) r1 x.cells:=Bx.new;generalize h.set r1 (.cells (Value.cells x.v) cA)=h1 at *;have b1:cX h1 ⟨r1,0+1,none⟩=some (.int .i64 (x.seg:Int)):=B1.cell 1;have hsg:d.segs≤4096:=by unfold Dk.segs;omega
 by_cases c:x.seg=1
 ·have q:((x.seg:Int)==1)=true:=by simp[c]
  have w2:IntKind.i64.wrap ((2:Int)+(d.segs:Int))=(d.base x.seg:Int):=by
   rw[eI (by omega) (by omega),c];unfold Dk.base;omega
  simp only[cA.f1,aR.load,b1,fO,q,cB,reduceIte,cJ,Nat.reduceAdd];refine aIS (D.ext u1) h2 ?_;simp only[w2,cB,reduceIte,cJ,Nat.reduceAdd];exact hk h1 u1
 ·have q:((x.seg:Int)==1)=false:=by rw[beq_eq_false_iff_ne];omega
  have e:d.base x.seg=2:=by
   have:x.seg=0:=by omega
   rw[this];unfold Dk.base;omega
  simp only[cA.f1,aR.load,b1,fO,q,cB,reduceIte,cJ,Nat.reduceAdd];have:=hk h1 u1;rw[e] at this;exact this
def aLU{h:PH}{a:Nat}{d:Dk}{F G:List Nat}{v:Value}{l:List Tx}(D:rS a d h F)(n:Nat)(hn:n≤1000000)(O:eJ h aT 1 v (l.map jJ) G)(hd:∀b∈G,b∉F)(hb:d.buf.length+l.length≤1000000){k:cF}(hk:∀h' F',rS a (iQ d n l).1 h' F'->eN h F h' F'->k (.int .i64 (iQ d n l).2) h'):bT PG sZ #[pT a 0,.int .i64 (n:Int),v] h k:=by
 apply aBS.call;unfold aBS;obtain⟨T,hT⟩:∃T,iQ d n l=T:=⟨_,rfl⟩;rw[hT] at hk;refine⟨λvs h'=>∃(i:Nat) (d':Dk) (F':List Nat),i≤l.length∧vs=[pT a 0,.int .i64 (n:Int),v,.int .i64 (i:Int)]∧rS a d' h' F'∧eJ h' aT 1 v (l.map jJ) G∧(∀b∈G,b∉F')∧T=iQ d' (n+i) (l.drop i)∧d'.buf.length≤d.buf.length+i∧eN h F h' F',fN l.length 3,⟨0,d,F,by omega,rfl,D,O,hd,hT.symm,by omega,eN.refl⟩,?_⟩;rintro ρ h' ⟨i,d',F',hi,hvs,D',O',hd',hT',hb',st⟩;simp only[hY,iZ,kP,and_true] at hvs;obtain⟨x0,x1,x2,x7⟩:=hvs;unfold aFI;rw[x0,x1,x2,x7];by_cases hlt:i<l.length
 ·have g:((i:Int)<(l.length:Int))=True:=eq_true (by omega);have gi:=nP (i:=i) (by omega);have gn:IntKind.i64.wrap ((n:Int)+(i:Int))=((n+i:Nat):Int):=by rw[eI (by omega) (by omega)];omega
  obtain⟨x,hx⟩:∃x,l[i]? =some x:=⟨_,kO hlt⟩;have ed:l.drop i=x::l.drop (i+1):=by
   rw[aAy hlt];have:l[i]=x:=by rw[kO hlt] at hx;simpa using hx
   rw[this]
  rw[ed,aJr] at hT';obtain⟨p,i1,i2⟩:=aFR O'.slR hx;simp only[tP O'.slR,g,i1,i2,gn,cB,reduceIte,cJ,Nat.reduceAdd];refine aRQ D' _ x (by omega) λh5 F5 D5 s5=>?_;have st5:=st.trans s5;by_cases c:(d'.wr ((n+i:Nat):Int) x).2=0
  ·have q:((d'.wr ((n+i:Nat):Int) x).2 !=0)=false:=by rw[c];rfl
   rw[if_neg (λe=>e c)] at hT';simp only[dY,q,gi,cB,reduceIte,cJ,Nat.reduceAdd];obtain⟨O5,hd5⟩:=O'.step s5 hd';have:=aOJ d' ((n+i:Nat):Int) x;exact⟨⟨i+1,_,F5,by omega,rfl,D5,O5,hd5,by rw[←Nat.add_assoc];exact hT',by omega,st5⟩,by simp[fN,x7];omega⟩
  ·have q:((d'.wr ((n+i:Nat):Int) x).2 !=0)=true:=bne_iff_ne.2 c;rw[if_pos c] at hT';simp only[dY,q,cB,reduceIte,cJ,Nat.reduceAdd];subst hT';exact hk h5 F5 D5 st5
 ·have g:((i:Int)<(l.length:Int))=False:=eq_false (by omega);have ed:l.drop i=[]:=aBA (by omega);rw[ed] at hT';have hT':T=d'.fl:=hT';simp only[tP O'.slR,g,cB,reduceIte,cJ,Nat.reduceAdd];refine aMP D' (by omega) λh5 F5 D5 s5=>?_;subst hT';exact hk h5 F5 D5 (st.trans s5)
def aPj{h:PH}{a:Nat}{d:Dk}{F:List Nat}(D:rS a d h F)(h4:4≤d.sectors)(x:Hd)(hs:x.seg≤1)(hb:d.buf.length≤1000000){k:cF}
  (hk:∀h' v G,eJ h' aT 1 v ((jU d.size x.gen (d.segs+1) (d.secs (d.base x.seg) d.segs) 0).1.map jJ) G->dZ h G->cZ h h'->k (.tuple #[v,.int .i64 ((jU d.size x.gen (d.segs+1) (d.secs (d.base x.seg) d.segs) 0).2:Int)]) h'):bT PG yM #[pT a 0,x.v] h k:=by
 apply pB.call;unfold pB;have hm:=D.ok.many;have hz:=D.ok.size;have hfit:=aAP d h4 hs;have hsg:d.segs≤4096:=by unfold Dk.segs;omega
 intro r1 hr1
 try rw[cO]
 have u1:cZ h (h.set r1 (.cells (Value.cells x.v) cA)):=cT.new hr1;have B1:Bx (h.set r1 (.cells (Value.cells x.v) cA)) r1 x.cells:=Bx.new;generalize h.set r1 (.cells (Value.cells x.v) cA)=h1 at *;refine⟨λvs h'=>∃i:Nat,i≤d.segs∧vs=[pT a 0,pT r1 0,.string (tx (d.secs (d.base x.seg) i).flatten),.int .i64 (i:Int)]∧Bx h' r1 x.cells∧cZ h h',fN d.segs 3,⟨0,by omega,rfl,B1,u1⟩,?_⟩;rintro ρ h' ⟨i,hi,hvs,B,w⟩;simp only[hY,iZ,kP,and_true] at hvs;obtain⟨x0,x3,x6,x7⟩:=hvs;unfold aC8;rw[x0,x3,x6,x7];refine aIS (D.ext w) (by omega) ?_;have hfl:(d.secs (d.base x.seg) i).flatten.length=i*d.size:=by rw[aAN (aF1 D.ok (by omega)),Dk.secs_len]
 have hz2:=hz.2;have him:i*d.size≤4096*512:=Nat.mul_le_mul (by omega) hz2;by_cases hlt:i<d.segs
 ·have g:((i:Int)<(d.segs:Int))=True:=eq_true (by omega);have gi:=nP (i:=i) (by omega);have gn:IntKind.i64.wrap ((d.base x.seg:Int)+(i:Int))=((d.base x.seg+i:Nat):Int):=by rw[eI (by omega) (by omega)];omega
  have erd:d.rd ((d.base x.seg+i:Nat):Int)=(d.at (d.base x.seg+i),0):=by
   unfold Dk.rd;rw[if_neg (by omega)];rfl
  have hal:=D.ok.at_len (n:=d.base x.seg+i) (by omega);simp only[g,aA8 B,cB,reduceIte,cJ,Nat.reduceAdd];refine aO0 (D.ext w) (by omega) x hs λh5 u5=>?_;simp only[gn,cB,reduceIte,cJ,Nat.reduceAdd];refine aKR ((D.ext w).ext u5) _ hb ?_;rw[erd];have ea:cC PG (binOp .add aT (.string (tx (d.secs (d.base x.seg) i).flatten)) (.string (tx (d.at (d.base x.seg+i)))))=some (.string (tx (d.secs (d.base x.seg) (i+1)).flatten)):=by
   rw[aNE];exact jT (by omega)
  simp only[ea,gi,cB,reduceIte,cJ,Nat.reduceAdd];exact⟨⟨i+1,by omega,rfl,B.ext u5,w.trans u5⟩,by simp[fN,x7];omega⟩
 ·have g:((i:Int)<(d.segs:Int))=False:=eq_false (by omega);obtain rfl:i=d.segs:=by omega
  obtain⟨bv,L⟩:=(D.ext w).b;have bg:cX h' ⟨r1,0,none⟩=some (.int .u64 (x.gen:Int)):=B.cell 0;simp only[g,dC.f0,aR.load,L.size,cA.f0,cI.load,bg,cB,reduceIte,cJ,Nat.reduceAdd];have sl:=Dk.secs_len d (d.base x.seg) d.segs;refine aT2 hz (aF1 D.ok (by omega)) (by omega) λh6 v G O6 f6 u6=>?_;rw[sl] at O6 ⊢;simp only[cB,reduceIte,cJ,Nat.reduceAdd];exact hk h6 v G O6 (f6.of w) (w.trans u6)
def Wl.ocells(r:Nat)(x:Wl):List Value:=[pT r 0,.int .u64 (x.hd.gen:Int),.int .i64 (x.hd.seg:Int),.int .i64 (x.slot:Int),.int .i64 (x.used:Int),.int .i64 (x.ser:Int),.bool x.ready,.bool x.broken]
structure WoA(a w:Nat)(d:Dk)(x:Wl)(h:PH)(F:List Nat):Prop where
 here:∃Fd,F=w::Fd∧Bx h w (x.ocells a)∧rS a d h Fd∧w∉Fd
 ok:WOk d x
 ser:x.ser≤x.used
 gen:x.hd.gen<18446744073709551616
def WoA.upd{a w:Nat}{d:Dk}{x:Wl}{h h':PH}{F K:List Nat}(H:WoA a w d x h F)(u:cT K h h')(hK:∀b∈F,b∉K):WoA a w d x h' F:=by
 obtain⟨Fd,rfl,B,D,n⟩:=H.here;exact⟨⟨Fd,rfl,B.upd u (hK w (by simp)),D.upd u (λb hb=>hK b (by simp[hb])),n⟩,H.ok,H.ser,H.gen⟩
def WoA.known{a w:Nat}{d:Dk}{x:Wl}{h:PH}{F:List Nat}(H:WoA a w d x h F):∀b∈F,h b≠none:=by
 obtain⟨Fd,rfl,B,D,n⟩:=H.here;intro b hb;rcases iR.1 hb with rfl|hb
 ·exact B.known
 ·exact D.known b hb
def WoA.good(a w:Nat)(d:Dk)(x:Wl):aHM (WoA a w d x):=⟨λH=>H.known,λH u hK=>H.upd u hK⟩
def WoA.ext{a w:Nat}{d:Dk}{x:Wl}{h h':PH}{F:List Nat}(H:WoA a w d x h F)(u:cZ h h'):WoA a w d x h' F:=(WoA.good a w d x).ext H u
structure WoB(a w:Nat)(x:Wl)(h:PH):Prop where
 disk:cX h ⟨w,0,none⟩=some (pT a 0)
 head:cD PG h (loadAt cA (pT w (0+1)))=some x.hd.v
 gen:cX h ⟨w,0+1,none⟩=some (.int .u64 (x.hd.gen:Int))
 slot:cX h ⟨w,0+3,none⟩=some (.int .i64 (x.slot:Int))
 used:cX h ⟨w,0+4,none⟩=some (.int .i64 (x.used:Int))
 ser:cX h ⟨w,0+5,none⟩=some (.int .i64 (x.ser:Int))
 ready:cX h ⟨w,0+6,none⟩=some (.bool x.ready)
 broken:cX h ⟨w,0+7,none⟩=some (.bool x.broken)
def WoB.of{a w:Nat}{x:Wl}{h:PH}(B:Bx h w (x.ocells a)):WoB a w x h:=
 ⟨B.cell 0,cA.agg B (by show 0+1+2≤8;decide),B.cell 1,B.cell 3,B.cell 4,B.cell 5,B.cell 6,B.cell 7⟩
def aJn{x:Wl}(h:x.broken=false){e:Int}(he:e≠13):x.brk e=x:=aSD h he
def aRv{h0 h:PH}{a w:Nat}{d':Dk}{x:Wl}{F0 Fd:List Nat}{e:Int}(B:Bx h w (x.ocells a))(D:rS a d' h Fd)(n:w∉Fd)(ok:WOk d' x)(ser:x.ser≤x.used)(gen:x.hd.gen<18446744073709551616)(st:eN h0 F0 h (w::Fd))(he:e=13){k:cF}
  (hk:∀h' F',WoA a w d' (x.brk e) h' F'->eN h0 F0 h' F'->k (.int .i64 e) h'):cM PG (cQ iU (pT w (0+7)) (.bool true)) h λ_ h2=>k (.int .i64 e) h2:=by
 refine iU.put B (o:=7) (by show 7<8;decide) rfl λh2 B2 u2=>?_;subst he;have B2:Bx h2 w ((x.brk 13).ocells a):=B2;refine hk h2 (w::Fd) ⟨⟨Fd,rfl,B2,D.upd u2 (lM n),n⟩,ok.brk 13,ser,gen⟩ ⟨st.upd.then u2 (λb hb=>?_),st.grow⟩;simp only[iL] at hb;exact st.grow b (by rw[hb];simp)
def aMV{h:PH}{a w:Nat}{d:Dk}{x:Wl}{F:List Nat}(H:WoA a w d x h F)(s:Tx)(hs:s.length≤1000000)(hb:d.buf.length≤980000){k:cF}
  (hk:∀h' F',WoA a w (fS d x s).1 (fS d x s).2.1 h' F'->eN h F h' F'->k (.int .i64 (fS d x s).2.2) h'):bT PG rW #[pT w 0,.string (tx s)] h k:=by
 apply lN.call;unfold lN;obtain⟨Fd,rfl,B,D,n1⟩:=id H.here;obtain⟨bv,LD⟩:=D.b;have L:=WoB.of B;have hm:=D.ok.many;have h4:=H.ok.four;have hu:=H.ok.used;have hz:=D.ok.size;have hsg:d.segs≤4096:=by unfold Dk.segs;omega
 have hwo:=H.ok.check s;have hkW:=hk;unfold fS at hk;cases hx:x.broken with
 | true=>
  have lb:=L.broken;rw[hx] at lb;rw[if_pos hx] at hk;simp only[dA.f6,iU.load,lb,cB,reduceIte,cJ,Nat.reduceAdd];exact hk h _ H eN.refl
 | false=>
  have lb:=L.broken;rw[hx] at lb;rw[if_neg (by rw[hx];decide)] at hk;by_cases c1:4096<s.length
  ·have g1:((4096:Int)<(s.length:Int))=True:=eq_true (by omega);rw[if_pos ((aBZ hz).2 c1),aJn hx (by decide)] at hk;simp only[dA.f6,iU.load,lb,iO,g1,cB,reduceIte,cJ,Nat.reduceAdd];exact hk h _ H eN.refl
  ·have g1:((4096:Int)<(s.length:Int))=False:=eq_false (by omega);have hp0:dQ d.size s.length≠0:=λe=>c1 ((aBZ hz).1 e);rw[if_neg hp0] at hk;simp only[dA.f0,dA.f6,iU.load,lb,iO,g1,fW.load,L.disk,dC.f0,aR.load,LD.size,cB,reduceIte,cJ,Nat.reduceAdd];refine aNr d.size s.length (by omega) ?_;refine⟨L.disk,?_⟩;refine aIS D (by omega) ?_;by_cases c2:d.segs<dQ d.size s.length
   ·have g2:((d.segs:Int)<(dQ d.size s.length:Int))=True:=eq_true (by omega);rw[if_pos c2,aJn hx (by decide)] at hk;simp only[g2,cB,reduceIte,cJ,Nat.reduceAdd];exact hk h _ H eN.refl
   ·have g2:((d.segs:Int)<(dQ d.size s.length:Int))=False:=eq_false (by omega);rw[if_neg c2] at hk;simp only[g2,dA.f1,L.head,cB,reduceIte,cJ,Nat.reduceAdd];refine aT8 x.hd H.gen λh4' u4=>?_;obtain⟨N,hN⟩:∃N,gL x.hd=N:=⟨_,rfl⟩;have hng:=aOc H.gen;have hns:=aJK x.hd;have hnh:=aNZ (h:=x.hd) hz;have hn13:N.2≠13:=by
     rw[←hN];unfold gL;split
     ·show(12:Int)≠13;decide
     ·show(0:Int)≠13;decide
    rw[hN] at hng hns hnh hk ⊢;obtain⟨N1,N2⟩:=N;simp only at hng hns hnh hk hn13;simp only[cB,reduceIte,cJ,Nat.reduceAdd];intro r28 hr28
    try rw[cO]
    refine cA.fill (vs:=N1.cells) hr28 rfl N1.isC λh5 B5 u5=>?_;have e5:=u4.trans u5;by_cases c3:N2=0
    ·have q3:(N2 !=0)=false:=by rw[c3];rfl
     have L5:=WoB.of (B.ext e5);obtain⟨bv5,LD5⟩:=(D.ext e5).b;have n28:r28∉w::Fd:=λhm=>(H.ext u4).known r28 hm hr28;have n28':r28≠w∧r28∉Fd:=by simpa using n28
     have b0:cX h5 ⟨r28,0,none⟩=some (.int .u64 (N1.gen:Int)):=B5.cell 0;rw[if_neg (λe=>e c3)] at hk;simp only[dY,q3,dA.f0,fW.load,L5.disk,dC.f0,aR.load,LD5.size,cA.f0,cI.load,b0,cB,reduceIte,cJ,Nat.reduceAdd];refine aRu d.size N1.gen 0 s hz hng (by decide) hs λh7 v G O7 f7 u7=>?_;have e7:=e5.trans u7;have L7:=WoB.of (B.ext e7);obtain⟨bv7,LD7⟩:=(D.ext e7).b;have B7:=B5.ext u7;simp only[dA.f0,fW.load,L7.disk,dC.f0,aR.load,LD7.size,aA8 B7,cB,reduceIte,cJ,Nat.reduceAdd];refine aP3 d.size N1 hng (by omega) λh8 u8=>?_;have e8:=e7.trans u8;have L8:=WoB.of (B.ext e8);simp only[dA.f0,fW.load,L8.disk,aA8 (B7.ext u8),cB,reduceIte,cJ,Nat.reduceAdd];refine aO0 (D.ext e8) (by omega) N1 hns λh9' u9=>?_;have e9:=e8.trans u9;have L9':=WoB.of (B.ext e9);refine⟨L9'.disk,?_⟩;have fl:(fV d.size N1.gen 0 s).length=dQ d.size s.length:=jS ..;have hfit:=aAP d h4 hns;have dG:∀b∈G,b∉Fd:=λb hb hf=>D.known b hf (e5.none (f7 b hb));refine aLU (D.ext e9) (d.base N1.seg) (by omega) ((O7.ext u8).ext u9) dG (by omega) λh9 F9 D9 s9=>?_;obtain⟨B9,n9⟩:=(B.ext e9).step s9 n1;have st9:eN h (w::Fd) h9 (w::F9):=(eN.ext e9).trans (eN.in n1 s9);obtain⟨Bn,mn⟩:=((B7.ext u8).ext u9).step s9 n28'.2;have hpo:=oL (fV d.size N1.gen 0 s) D.ok (d.base N1.seg);have hpb:=aBQ (fV d.size N1.gen 0 s) d (d.base N1.seg);have hck:=WOk.ck (gen:=N1.gen) D.ok h4 hns hp0 (by omega);have hd':iQ d (d.base N1.seg) (fV d.size N1.gen 0 s)=lX d N1 s:=rfl;rw[hd'] at D9 hpo hpb ⊢;have hck:(lX d N1 s).2=0∨(lX d N1 s).2=13:=hck;by_cases c4:(lX d N1 s).2=0
     ·have q4:((lX d N1 s).2 !=0)=false:=by rw[c4];rfl
      rw[if_neg (λe=>e c4)] at hk;have L9:=WoB.of B9;have hsl:=H.ok.slot;have w1:IntKind.i64.wrap ((1:Int)-(x.slot:Int))=((1-x.slot:Nat):Int):=by rw[eI (by omega) (by omega)];omega
      simp only[dY,q4,dA.f0,dA.f2,fW.load,aR.load,L9.disk,L9.slot,w1,aFw,cB,reduceIte,cJ,Nat.reduceAdd];intro r79 hr79;refine gY ?_
      try rw[cO]
      have O12:=aF2 (h:=h9) (r:=r79) (fQ d.size N1).1;have u12:cZ h9 (h9.set r79 (.cells #[.string (tx (fQ d.size N1).1)] aT)):=cT.new hr79;generalize h9.set r79 (.cells #[.string (tx (fQ d.size N1).1)] aT)=h12 at *;have n79:∀b∈[r79],b∉F9:=λb hb hf=>by
       simp only[iL] at hb;rw[hb] at hf;exact D9.known r79 hf hr79
      refine aLU (D9.ext u12) (1-x.slot) (by omega) O12 n79 (by simp only[iP,kI];omega) λh13 F13 D13 s13=>?_;obtain⟨B13,n13⟩:=(B9.ext u12).step s13 n9;have st13:eN h (w::Fd) h13 (w::F13):=(st9.trans (eN.ext u12)).trans (eN.in n9 s13);obtain⟨En,en⟩:=(Bn.ext u12).step s13 mn;obtain⟨O13,-⟩:=(((O7.ext u8).ext u9).step s9 dG).1.ext u12 |>.step s13 (((O7.ext u8).ext u9).step s9 dG).2;have hpo2:=oL [(fQ d.size N1).1] hpo.1 (1-x.slot);have hio:=aLx [(fQ d.size N1).1] (d:=(lX d N1 s).1) (1-x.slot) (by rw[hpo.2.2.1];simp only[iP,kI];omega) (λy hy=>by
       simp only[iL] at hy;rw[hy,hpo.2.1];exact(hnh c3).2)
      obtain⟨P,hP⟩:∃P,iQ (lX d N1 s).1 (1-x.slot) [(fQ d.size N1).1]=P:=⟨_,rfl⟩;rw[hP] at D13 hpo2 hk hio ⊢;have geo:P.1.sectors=d.sectors:=hpo2.2.2.1.trans hpo.2.2.1;by_cases c5:P.2=0
      ·have q5:(P.2 !=0)=false:=by rw[c5];rfl
       rw[if_neg (λe=>e c5)] at hk;have eW:fS d x s=(P.1,⟨N1,1-x.slot,dQ d.size s.length,1,true,false⟩,0):=by
        unfold fS;rw[if_neg (by rw[hx];decide),if_neg hp0,if_neg c2,hN];simp only;rw[if_neg (λe=>e c3),if_neg (λe=>e c4),hP,if_neg (λe=>e c5)]
       rw[eW] at hwo;simp only[dY,q5,dA.f1,dA.f2,dA.f3,dA.f4,dA.f5,aA8 En,cB,reduceIte,cJ,Nat.reduceAdd];refine cA.put B13 (vs:=N1.cells) (o:=1) rfl (by show 1+2≤8;decide) N1.isC λh14 B14 u14=>?_;have c14:cX h14 ⟨w,0+3,none⟩=some (.int .i64 (x.slot:Int)):=B14.cell 3;simp only[dA.f2,aR.load,c14,w1,cB,reduceIte,cJ,Nat.reduceAdd];refine aR.put B14 (o:=3) (by show 3<8;decide) rfl λh15 B15 u15=>?_;simp only[tP O13.slR,fl,dA.f3,dA.f4,dA.f5,cB,reduceIte,cJ,Nat.reduceAdd];refine aR.put B15 (o:=4) (by show 4<8;decide) rfl λh16 B16 u16=>?_;refine aR.put B16 (o:=5) (by show 5<8;decide) rfl λh17 B17 u17=>?_;refine iU.put B17 (o:=6) (by show 6<8;decide) rfl λh18 B18 u18=>?_;have B18:Bx h18 w (Wl.ocells a ⟨N1,1-x.slot,dQ d.size s.length,1,true,x.broken⟩):=B18;rw[hx] at B18;have uu:=(((u14.trans u15).trans u16).trans u17).trans u18;exact hk h18 (w::F13) ⟨⟨F13,rfl,B18,D13.upd uu (lM n13),n13⟩,hwo.1,by show 1≤dQ d.size s.length;omega,hng⟩ ⟨st13.upd.trans (uu.mono λb hb=>.inl (by simp only[iL] at hb;simp[hb])),st13.grow⟩
      ·have q5:(P.2 !=0)=true:=bne_iff_ne.2 c5;rw[if_pos c5] at hk;simp only[dY,q5,dA.f6,cB,reduceIte,cJ,Nat.reduceAdd];exact aRv B13 D13 n13 (H.ok.to hpo2.1 geo) H.ser H.gen st13 (hio.resolve_left c5) hk
     ·have q4:((lX d N1 s).2 !=0)=true:=bne_iff_ne.2 c4;rw[if_pos c4] at hk;simp only[dY,q4,dA.f6,cB,reduceIte,cJ,Nat.reduceAdd];exact aRv B9 D9 n9 (H.ok.to hpo.1 hpo.2.2.1) H.ser H.gen st9 (hck.resolve_left c4) hk
    ·have q3:(N2 !=0)=true:=bne_iff_ne.2 c3;rw[if_pos c3,aJn hx hn13] at hk;simp only[dY,q3,cB,reduceIte,cJ,Nat.reduceAdd];exact hk h5 _ (H.ext e5) (eN.ext e5)
def aWs(a:Nat):cC PG (build dA #[(0,pT a 0)])=some (.agg (Wl.ocells a Wl.zero).toArray):=by kernel_rfl
def aNY{h0 h:PH}{a w:Nat}{d:Dk}{hd:Hd}{slot us se:Nat}{F0 F:List Nat}(B:Bx h w (Wl.ocells a ⟨hd,slot,us,se,false,false⟩))(D:rS a d h F)(n1:w∉F)(h4:4≤d.sectors)(hs:hd.seg≤1)(h1:slot≤1)(hg:hd.gen<18446744073709551616)(hb:d.buf.length≤1000000)(st:eN h0 F0 h F)(fw:w∈F0∨h0 w=none){k:cF}
  (hk:∀h' F' v G,WoA a w d (zN d hd slot).1 h' F'->eJ h' aT 1 v ((zN d hd slot).2.map jJ) G->(∀b∈G,b∉F')->eN h0 F0 h' (F'++G)->k (.tuple #[pT w 0,v,.int .i64 0]) h'):vF k (pT a 0) (pT w 0) h:=by
 unfold vF;have L:=WoB.of B;have hm:=D.ok.many;have hsg:d.segs≤4096:=by unfold Dk.segs;omega
 simp only[dA.f1,L.head,cB,reduceIte,cJ,Nat.reduceAdd];refine aPj D h4 hd hs hb λh7 v G O7 f7 e7=>?_;have sl:=Dk.secs_len d (d.base hd.seg) d.segs;have hle:=aIh (size:=d.size) (gen:=hd.gen) (d.segs+1) (d.secs (d.base hd.seg) d.segs) 0;have hma:=aHz (size:=d.size) (gen:=hd.gen) (d.segs+1) (d.secs (d.base hd.seg) d.segs) 0;rw[sl] at hle;have hw:(zN d hd slot)=(⟨hd,slot,(jU d.size hd.gen (d.segs+1) (d.secs (d.base hd.seg) d.segs) 0).2,(jU d.size hd.gen (d.segs+1) (d.secs (d.base hd.seg) d.segs) 0).1.length,false,false⟩,(jU d.size hd.gen (d.segs+1) (d.secs (d.base hd.seg) d.segs) 0).1):=rfl;rw[hw] at hk;have hok:WOk d (zN d hd slot).1:=WOk.mk' D.ok h4 hs h1;rw[hw] at hok;obtain⟨R,hR⟩:∃R,jU d.size hd.gen (d.segs+1) (d.secs (d.base hd.seg) d.segs) 0=R:=⟨_,rfl⟩;rw[hR] at hk hok O7 hle hma ⊢;have B7:=B.ext e7;have D7:=D.ext e7;simp only[dA.f3,dA.f4,cB,reduceIte,cJ,Nat.reduceAdd];refine aR.put B7 (o:=4) (by show 4<8;decide) rfl λh8 B8 u8=>?_;simp only[tP O7.slR,dA.f4,cB,reduceIte,cJ,Nat.reduceAdd];refine aR.put B8 (o:=5) (by show 5<8;decide) rfl λh9 B9 u9=>?_;have B9:Bx h9 w (Wl.ocells a ⟨hd,slot,R.2,R.1.length,false,false⟩):=B9;have u89:=u8.trans u9;have nw:w∉G:=λhx=>B.known (f7 w hx);have dG:∀b∈G,b∉F:=λb hb hf=>D.known b hf (f7 b hb);refine hk h9 (w::F) v G ⟨⟨F,rfl,B9,D7.upd u89 (lM n1),n1⟩,hok,hma,hg⟩ (O7.upd u89 (lM nw)) (λb hb hm=>?_) ⟨?_,λb hb=>?_⟩
 ·rcases iR.1 hm with rfl|hm
  ·exact nw hb
  ·exact dG b hb hm
 ·exact(st.upd.trans e7.upd).then u89 (λb hb=>by
   simp only[iL] at hb;rw[hb];exact fw)
 ·simp only[zLT,iR,xN] at hb;rcases hb with rfl|hb|hb
  ·exact fw
  ·exact st.grow b hb
  ·exact st.none (f7 b hb)
def aR3{h:PH}{a:Nat}{d:Dk}{F:List Nat}(D:rS a d h F)(hb:d.buf.length≤999000){k:cF}
  (bad:∀h' F',rS a (fH d).1 h' F'->eN h F h' F'->(fH d).2.2≠0->k (.tuple #[.pointer none,.slice none 0 0,.int .i64 (fH d).2.2]) h')
  (hk:∀h' F' w v G,WoA a w (fH d).1 (fH d).2.1.1 h' F'->eJ h' aT 1 v ((fH d).2.1.2.map jJ) G->(∀b∈G,b∉F')->eN h F h' (F'++G)->(fH d).2.2=0->k (.tuple #[pT w 0,v,.int .i64 0]) h'):bT PG aBo #[pT a 0] h k:=by
 apply sG.call;unfold sG;have hm:=D.ok.many;have hz:=D.ok.size;unfold fH at bad hk;obtain⟨bv,LD⟩:=D.b;by_cases c4:d.sectors<4
 ·have g:((d.sectors:Int)<4)=True:=eq_true (by omega);rw[if_pos c4] at bad;simp only[dC.f1,aR.load,LD.sectors,g,cB,reduceIte,cJ,Nat.reduceAdd];exact bad h F D eN.refl (by show(1:Int)≠0;decide)
 ·have g:((d.sectors:Int)<4)=False:=eq_false (by omega);rw[if_neg c4] at bad hk;simp only[dC.f1,aR.load,LD.sectors,g,cB,reduceIte,cJ,Nat.reduceAdd];refine aMP D (by omega) λh5 F5 D5 st5=>?_;by_cases c5:d.fl.2=0
  ·have q:(d.fl.2 !=0)=false:=by rw[c5];rfl
   rw[if_neg (λe=>e c5)] at bad hk;have eg:d.fl.1.size=d.size:=d.fl_geo.1;have es:d.fl.1.sectors=d.sectors:=d.fl_geo.2;have eb:d.fl.1.buf.length≤999000:=zLE (aSX d) hb;have rd:∀n:Nat,n<d.sectors->d.fl.1.rd (n:Int)=(d.fl.1.at n,0):=λn hn=>by
    unfold Dk.rd;rw[if_neg (by omega)];rfl
   simp only[dY,q,cB,reduceIte,cJ,Nat.reduceAdd];refine aKR D5 0 (by omega) ?_;rw[show d.fl.1.rd 0=(d.fl.1.at 0,0) from rd 0 (by omega)];simp only[cB,reduceIte,cJ,Nat.reduceAdd];refine aKR D5 1 (by omega) ?_;rw[show d.fl.1.rd 1=(d.fl.1.at 1,0) from rd 1 (by omega)];simp only[aWs,cB,reduceIte,cJ,Nat.reduceAdd];intro r17 hr17
   try rw[cO]
   have u6:cZ h5 (h5.set r17 (.cells (Value.cells (.agg (Wl.ocells a Wl.zero).toArray)) dA)):=cT.new hr17;have B6:Bx (h5.set r17 (.cells (Value.cells (.agg (Wl.ocells a Wl.zero).toArray)) dA)) r17 (Wl.ocells a Wl.zero):=Bx.new;generalize h5.set r17 (.cells (Value.cells (.agg (Wl.ocells a Wl.zero).toArray)) dA)=h6 at *;have n5:r17∉F5:=λhm=>D5.known r17 hm hr17;have fw:r17∈F∨h r17=none:=st5.none hr17;have al0:=D5.ok.at_len (n:=0) (by omega);have al1:=D5.ok.at_len (n:=1) (by omega);rw[eg] at al0 al1;unfold fU at hz;obtain⟨bv6,LD6⟩:=(D5.ext u6).b;have ls:=LD6.size;rw[eg] at ls;simp only[dC.f0,aR.load,ls,aUa,cB,reduceIte,cJ,Nat.reduceAdd];intro r22 hr22;refine gY ?_
   try rw[cO]
   have O9:=aPX (h:=h6) (r:=r22) (d.fl.1.at 0) (d.fl.1.at 1);have u9:cZ h6 (h6.set r22 (.cells #[.string (tx (d.fl.1.at 0)),.string (tx (d.fl.1.at 1))] aT)):=cT.new hr22;generalize h6.set r22 (.cells #[.string (tx (d.fl.1.at 0)),.string (tx (d.fl.1.at 1))] aT)=h9 at *;refine aQd d.size _ _ O9.slR (by omega) (by omega) λh10 u10=>?_;have e10:=(u6.trans u9).trans u10;have B10:=(B6.ext u9).ext u10;have D10:=D5.ext e10;have st10:=st5.trans (eN.ext (F:=F5) e10);obtain⟨N,hN⟩:∃N,nC d.size (d.fl.1.at 0) (d.fl.1.at 1)=N:=⟨_,rfl⟩;have hno:=aHw d.size (d.fl.1.at 0) (d.fl.1.at 1);have hng:=aMD d.size (d.fl.1.at 0) (d.fl.1.at 1);rw[hN] at bad hk hno hng ⊢;obtain⟨N1,N2⟩:=N;simp only[dA.f1,dA.f2,cB,reduceIte,cJ,Nat.reduceAdd];refine cA.put B10 (vs:=N1.cells) (o:=1) rfl (by show 1+2≤8;decide) N1.isC λh11 B11 u11=>?_;refine aR.put B11 (o:=3) (by show 3<8;decide) rfl λh12 B12 u12=>?_;have c12:cX h12 ⟨r17,0+3,none⟩=some (.int .i64 N2):=B12.cell 3;have u112:=u11.trans u12;have D12:=D10.upd u112 (lM n5);have st12:eN h F h12 F5:=⟨st10.upd.then u112 (λb hb=>by
    simp only[iL] at hb;rw[hb];exact fw),st10.grow⟩
   by_cases c:N2<0
   ·have g:(N2<0)=True:=eq_true c;rw[if_pos c] at bad hk;simp only[dA.f1,dA.f2,aR.load,c12,g,aVG,cB,reduceIte,cJ,Nat.reduceAdd];refine cA.put B12 (vs:=Hd.cells ⟨1,0⟩) (o:=1) rfl (by show 1+2≤8;decide) (Hd.isC _) λh13 B13 u13=>?_;refine aR.put B13 (o:=3) (by show 3<8;decide) rfl λh14 B14 u14=>?_;have B14:Bx h14 r17 (Wl.ocells a ⟨⟨1,0⟩,1,0,0,false,false⟩):=B14;have u134:=u13.trans u14;have D14:=D12.upd u134 (lM n5);have L14:=WoB.of B14;have st14:eN h F h14 F5:=⟨st12.upd.then u134 (λb hb=>by
     simp only[iL] at hb;rw[hb];exact fw),st12.grow⟩
    obtain⟨bv14,LD14⟩:=D14.b;have ls:=LD14.size;rw[eg] at ls;simp only[dC.f0,aR.load,ls,dA.f1,L14.head,cB,reduceIte,cJ,Nat.reduceAdd];refine aP3 d.size ⟨1,0⟩ (by decide) (by decide) λh16 e16=>?_;simp only[aFw,cB,reduceIte,cJ,Nat.reduceAdd];intro r61 hr61;refine gY ?_
    try rw[cO]
    have O17:=aF2 (h:=h16) (r:=r61) (fQ d.size ⟨1,0⟩).1;have u17:cZ h16 (h16.set r61 (.cells #[.string (tx (fQ d.size ⟨1,0⟩).1)] aT)):=cT.new hr61;generalize h16.set r61 (.cells #[.string (tx (fQ d.size ⟨1,0⟩).1)] aT)=h17 at *;have e17:=e16.trans u17;have n61:∀b∈[r61],b∉F5:=λb hb hf=>by
     simp only[iL] at hb;rw[hb] at hf;exact D14.known r61 hf (e16.none hr61)
    refine aLU (D14.ext e17) 1 (by decide) O17 n61 (by simp only[iP,kI];omega) λh18 F18 D18 s18=>?_;obtain⟨B18,n18⟩:=(B14.ext e17).step s18 n5;have st18:=(st14.trans (eN.ext e17)).trans s18;obtain⟨P,hP⟩:∃P,iQ d.fl.1 1 [(fQ d.size ⟨1,0⟩).1]=P:=⟨_,rfl⟩;have hpo:=oL [(fQ d.size ⟨1,0⟩).1] D5.ok 1;have hpb:=aBQ [(fQ d.size ⟨1,0⟩).1] d.fl.1 1;rw[hP] at bad hk D18 hpo hpb ⊢;by_cases c6:P.2=0
    ·have q6:(P.2 !=0)=false:=by rw[c6];rfl
     rw[if_neg (λe=>e c6)] at hk;simp only[dY,q6,cB,reduceIte,cJ,Nat.reduceAdd];simp only[iP,kI] at hpb;refine aNY B18 D18 n18 (by rw[hpo.2.2.1];omega) (by decide) (by decide) (by decide) (by omega) st18 fw λh' F' v G W O dj st=>?_;exact hk h' F' r17 v G W O dj st rfl
    ·have q6:(P.2 !=0)=true:=bne_iff_ne.2 c6;rw[if_pos c6] at bad;simp only[dY,q6,cB,reduceIte,cJ,Nat.reduceAdd];exact bad h18 F18 D18 st18 c6
   ·have g:(N2<0)=False:=eq_false c;rw[if_neg c] at hk;simp only[dA.f2,aR.load,c12,g,cB,reduceIte,cJ,Nat.reduceAdd];have en:N2=((N2.toNat:Nat):Int):=by omega
    have B12:Bx h12 r17 (Wl.ocells a ⟨N1,N2.toNat,0,0,false,false⟩):=by
     rw[en] at B12;exact B12
    refine aNY B12 D12 n5 (by rw[es];omega) hno.1 (by have:=hno.2;simp only at this;omega) hng (by omega) st12 fw λh' F' v G W O dj st=>?_;exact hk h' F' r17 v G W O dj st rfl
  ·have q:(d.fl.2 !=0)=true:=bne_iff_ne.2 c5;rw[if_pos c5] at bad;simp only[dY,q,cB,reduceIte,cJ,Nat.reduceAdd];exact bad h5 F5 D5 st5 c5
def aM5{h:PH}{q:Pl}(w:q.wf){k:cF}(hbad:¬jL q->∀h',cZ h h'->k (.tuple #[.string (tx []),.int .i64 1]) h')(hk:jL q->∀h',cZ h h'->k (.tuple #[.string (tx q.bs),.int .i64 0]) h'):bT PG mT #[.agg q.cells.toArray] h k:=by
 apply qN.call;unfold qN;intro r hr
 try rw[cO]
 have u1:cZ h (h.set r (.cells (Value.cells (.agg q.cells.toArray)) cG)):=cT.new hr;have B1:Bx (h.set r (.cells (Value.cells (.agg q.cells.toArray)) cG)) r q.cells:=Bx.new;generalize h.set r (.cells (Value.cells (.agg q.cells.toArray)) cG)=h1 at *;have l0:∀{h':PH},cZ h1 h'->cD PG h' (loadAt cI (pT r 0))=some (.int .u64 q.h):=λu=>by rw[cI.load,(B1.ext u).cell];rfl
 have l1:∀{h':PH},cZ h1 h'->cD PG h' (loadAt aR (pT r 1))=some (.int .i64 q.i):=λu=>by rw[aR.load,(B1.ext u).cell];rfl
 have q0:({data:=#[]}:ByteArray)=tx []:=rfl;by_cases h0:q.i<0
 ·have g:=eq_true h0;simp only[cG.f1,l1 cT.refl,g,q0,cB,reduceIte,cJ,Nat.reduceAdd];exact hbad (λc=>by have:=c.1;omega) _ u1
 have g:=eq_false h0;by_cases h2:65535<q.i
 ·have g2:=eq_true h2;simp only[cG.f1,l1 cT.refl,g,g2,q0,cB,reduceIte,cJ,Nat.reduceAdd];exact hbad (λc=>by have:=c.2;omega) _ u1
 have g2:=eq_false h2;have hk:=hk ⟨by omega,by omega⟩;obtain⟨H,i⟩:=q;obtain⟨w1,w2⟩:=w;simp only at *;obtain⟨H,rfl⟩:=zLm w1;obtain⟨i,rfl⟩:=zLm (Int.not_lt.1 h0);have c1:IntKind.u64.wrap (i:Int)=(i:Int):=jY (by omega) (by omega);simp only[cG.f1,cG.f0,l1 cT.refl,l0 cT.refl,g,g2,aD7,c1,cB,reduceIte,cJ,Nat.reduceAdd];refine lW (by omega) (by decide) λh2 u2=>?_;simp only[l1 u2,eq_self,true_and];refine lW (by omega) (by decide) λh3 u3=>?_;rw[jT (by simp only[gU];decide)];simp only[cB,reduceIte,cJ,Nat.reduceAdd];unfold Pl.bs at hk;exact hk _ (u1.trans (u2.trans u3))
def aAI{i:It}:i.right=true↔aDu i:=by
 unfold It.right aDu;simp only[rQ,aGj,decide_eq_true_eq];constructor
 ·rintro⟨a,b⟩;exact⟨by omega,by omega,b⟩
 ·rintro⟨a,b,c⟩;exact⟨by omega,c⟩
def aAT{i:Nt}:i.right=true↔aEP i:=by
 unfold Nt.right aEP;simp only[rQ,decide_eq_true_eq,and_assoc]
def aWA{x:Int×Pk}(h:x.2.right=true):(aCy x).length≤84:=by
 have:=(Pk.right_iff.1 h).2.2.2.2;simp only[aCy,Pk.bs,jO,gU,aHh];omega
def aLB(l:List (Int×Pk))(x:Int×Pk):lG (l++[x])=lG l++aCy x:=by
 induction l with
 | nil=>simp[lG]
 | cons y l ih=>simp[lG,ih]
def aFa:∀{l:List (Int×Pk)},(∀x∈l,x.2.right=true)->(lG l).length≤84*l.length
 | [],_=>by simp[lG]
 | x::l,h=>by
  have h1:=aWA (h x (by simp));have h2:=aFa (l:=l) λy hy=>h y (by simp[hy]);simp only[lG,jO,iP];omega
def aM6{h:PH}{v:Value}{l:List It}(V:hM h 5 v (l.map It.cells))(hl:l.length≤100000)(w:∀i∈l,i.p.wf){k:cF}
  (hbad:¬(l.length≤255∧∀i∈l,i.right=true)->∀h',cZ h h'->k (.tuple #[.string (tx []),.int .i64 1]) h') (hk:l.length≤255->(∀i∈l,i.right=true)->∀h',cZ h h'->k (.tuple #[.string (tx (rX (l.map It.x))),.int .i64 0]) h'):
  bT PG qZ #[v] h k:=by
 have lx:=V.len (t':=aR) bZ.und;rw[iF] at lx;have q0:({data:=#[]}:ByteArray)=tx []:=rfl;apply qO.call;unfold qO;by_cases h2:255<l.length
 ·have g:((255:Int)<(l.length:Int))=True:=eq_true (by omega);simp only[lx,g,q0,cB,reduceIte,cJ,Nat.reduceAdd];exact hbad (λc=>by have:=c.1;omega) _ cT.refl
 have g:((255:Int)<(l.length:Int))=False:=eq_false (by omega);have c1:IntKind.u64.wrap (l.length:Int)=(l.length:Int):=jY (by omega) (by omega);simp only[lx,g,aD7,c1,cB,reduceIte,cJ,Nat.reduceAdd];refine lW (by omega) (by decide) λh2 u2=>?_;refine⟨λvs h'=>∃i:Nat,i≤l.length∧vs=[v,.string (tx (be l.length 1++lG ((l.take i).map It.x))),.int .i64 (i:Int)]∧cZ h h'∧∀y∈l.take i,y.right=true,fN l.length 2,⟨0,by omega,by simp[lG],u2,by simp⟩,?_⟩;rintro ρ h' ⟨i,hi,hvs,u,hr⟩;simp only[hY,iZ,kP,and_true] at hvs;obtain⟨e0,e1,e2⟩:=hvs;unfold aEC;rw[e0,e1,e2];by_cases hlt:i<l.length
 ·have hd:((i:Int)<(l.length:Int))=True:=by apply eq_true;omega
  obtain⟨m,hm⟩:∃m,l[i]? =some m:=⟨_,kO hlt⟩;have hmem:m∈l:=wP hm;have look:∃b o,cC PG (indexAt bZ v (.int .i64 (i:Int)))=some (pT b o)∧∀{h'':PH},cZ h h''->cD PG h'' (loadAt cE (pT b o))=some (m.val)∧cD PG h'' (loadAt aR (pT b (o+4)))=some (.int .i64 m.g)∧cD PG h'' (loadAt bX (pT b o))=some (.agg m.p.cells.toArray):=by
   obtain⟨b,o,cs,e',fr,h1,hb,hle,hex⟩:=V.at bZ.und cE.info cE.size (k:=.i64) (j:=(i:Int)) (r:=m.cells) (by omega) (by rw[wW,wY,hm];rfl);have hd:∀i n,i+n≤5->(cs.extract (o+i) (o+i+n)).toList=(m.cells.drop i).take n:=λi n hi=>by
    rw[←hex];simp only[zLD,zLx,aB4,zLy,pR,aIP];congr 1;omega
   refine⟨b,o,h1,fun {h''} u=>?_⟩;have hb':=u.get hb;refine⟨?_,?_,?_⟩
   ·rw[cE.loadAgg hb' hle];congr 2;exact zLw (hd 0 5 (by decide))
   ·rw[aR.load];unfold cX;simp only[hb'];have:=congrArg (λl:List Value=>l[0]?) (hd 4 1 (by decide));simp only[zLD,zLx,zLP,aB4,aET,aJQ] at this;simpa[It.cells,Pk.cells] using this
   ·rw[bX.loadAgg hb' (by omega)];congr 2;exact zLw (hd 0 4 (by decide))
  obtain⟨b,o,a1,a2⟩:=look;have ei:=nP (i:=i) (by omega);have wm:=w m hmem;simp only[lx,hd,a1,(a2 u).1,cB,reduceIte,cJ,Nat.reduceAdd];refine aMG m wm.1 wm.2.2.1 λh3 u3=>?_;have e3:=u.trans u3;by_cases hm2:m.right=true
  ·have ok:=aAI.1 hm2;have hp:m.p.right=true:=ok.2.2;obtain⟨n,hn⟩:∃n:Nat,m.g=(n:Int):=zLm (by have:=ok.1;omega);have ex:m.x=((n:Int),m.p):=by rw[aMv ok,hn]
   have hn':n≤255:=by have:=ok.2.1;omega
   have c2:IntKind.u64.wrap (n:Int)=(n:Int):=jY (by omega) (by omega);have hlen:(lG ((l.take i).map It.x)).length≤84*255:=by
    have:=aFa (l:=(l.take i).map It.x) (by
     simp only[aIX];intro y hy;have oy:=aAI.1 (hr y hy);rw[aMv oy];exact oy.2.2)
    rw[iF,mN] at this;omega
   simp only[hm2,cE.f0,cE.f1,(a2 e3).2.1,(a2 e3).2.2,hn,aD7,c2,cB,reduceIte,cJ,Nat.reduceAdd];refine lW (by omega) (by decide) λh4 u4=>?_;have e4:=e3.trans u4;have s1:cC PG (binOp .add aT (.string (tx (be l.length 1++lG ((l.take i).map It.x)))) (.string (tx (be n 1))))=some (.string (tx ((be l.length 1++lG ((l.take i).map It.x))++be n 1))):=jT (by simp only[gU,jO];omega);simp only[(a2 e4).2.2,s1,eq_self,true_and,cB,reduceIte,cJ,Nat.reduceAdd];refine aL8 wm hp λh5 u5=>?_;have hpl:m.p.bs.length≤84:=by
    have:=(Pk.right_iff.1 hp).2.2.2.2;simp only[Pk.bs,jO,gU,aHh];omega
   have s2:cC PG (binOp .add aT (.string (tx ((be l.length 1++lG ((l.take i).map It.x))++be n 1))) (.string (tx m.p.bs)))=some (.string (tx (be l.length 1++lG ((l.take (i+1)).map It.x)))):=by
    rw[jT (by simp only[gU,jO];omega),zLR,hm];simp only[Option.toList,wB,hY,iZ,aLB,ex,aCy,wY,vP]
   simp only[s2,ei,cB,reduceIte,cJ,Nat.reduceAdd];refine⟨⟨i+1,by omega,rfl,e4.trans u5,λy hy=>?_⟩,by simp[fN,e2];omega⟩;rw[zLR,hm] at hy;rcases xN.1 hy with hy|hy
   ·exact hr y hy
   ·simp at hy;subst hy;exact hm2
  ·have hf:m.right=false:=by simpa using hm2
   simp only[hf,q0,cB,reduceIte,cJ,Nat.reduceAdd];exact hbad (λc=>hm2 (c.2 m hmem)) _ e3
 ·have hd:((i:Int)<(l.length:Int))=False:=by apply eq_false;omega
  rw[qX (by omega)] at hr e1 ⊢;simp only[lx,hd,cB,reduceIte,cJ,Nat.reduceAdd];have hk:=hk (by omega) hr _ u;unfold rX at hk;rw[iF] at hk;exact hk
def aNw{h:PH}{v:Value}{l:List Nt}(V:hM h 5 v (l.map Nt.cells))(hl:l.length≤100000)(w:∀i∈l,i.p.wf){k:cF}
  (hbad:¬(l.length≤255∧∀i∈l,i.right=true)->∀h',cZ h h'->k (.tuple #[.string (tx []),.int .i64 1]) h') (hk:l.length≤255->(∀i∈l,i.right=true)->∀h',cZ h h'->k (.tuple #[.string (tx (rX (l.map Nt.x))),.int .i64 0]) h'):
  bT PG qT #[v] h k:=by
 have lx:=V.len (t':=aR) cY.und;rw[iF] at lx;have q0:({data:=#[]}:ByteArray)=tx []:=rfl;apply qP.call;unfold qP;by_cases h2:255<l.length
 ·have g:((255:Int)<(l.length:Int))=True:=eq_true (by omega);simp only[lx,g,q0,cB,reduceIte,cJ,Nat.reduceAdd];exact hbad (λc=>by have:=c.1;omega) _ cT.refl
 have g:((255:Int)<(l.length:Int))=False:=eq_false (by omega);have c1:IntKind.u64.wrap (l.length:Int)=(l.length:Int):=jY (by omega) (by omega);simp only[lx,g,aD7,c1,cB,reduceIte,cJ,Nat.reduceAdd];refine lW (by omega) (by decide) λh2 u2=>?_;refine⟨λvs h'=>∃i:Nat,i≤l.length∧vs=[v,.string (tx (be l.length 1++lG ((l.take i).map Nt.x))),.int .i64 (i:Int)]∧cZ h h'∧∀y∈l.take i,y.right=true,fN l.length 2,⟨0,by omega,by simp[lG],u2,by simp⟩,?_⟩;rintro ρ h' ⟨i,hi,hvs,u,hr⟩;simp only[hY,iZ,kP,and_true] at hvs;obtain⟨e0,e1,e2⟩:=hvs;unfold aEL;rw[e0,e1,e2];by_cases hlt:i<l.length
 ·have hd:((i:Int)<(l.length:Int))=True:=by apply eq_true;omega
  obtain⟨m,hm⟩:∃m,l[i]? =some m:=⟨_,kO hlt⟩;have hmem:m∈l:=wP hm;have look:∃b o,cC PG (indexAt cY v (.int .i64 (i:Int)))=some (pT b o)∧∀{h'':PH},cZ h h''->cD PG h'' (loadAt cK (pT b o))=some (.agg m.cells.toArray)∧cD PG h'' (loadAt aR (pT b o))=some (.int .i64 m.k)∧cD PG h'' (loadAt bX (pT b (o+1)))=some (.agg m.p.cells.toArray):=by
   obtain⟨b,o,cs,e',fr,h1,hb,hle,hex⟩:=V.at cY.und cK.info cK.size (k:=.i64) (j:=(i:Int)) (r:=m.cells) (by omega) (by rw[wW,wY,hm];rfl);have hd:∀i n,i+n≤5->(cs.extract (o+i) (o+i+n)).toList=(m.cells.drop i).take n:=λi n hi=>by
    rw[←hex];simp only[zLD,zLx,aB4,zLy,pR,aIP];congr 1;omega
   refine⟨b,o,h1,fun {h''} u=>?_⟩;have hb':=u.get hb;refine⟨?_,?_,?_⟩
   ·rw[cK.loadAgg hb' hle];congr 2;exact zLw (hd 0 5 (by decide))
   ·rw[aR.load];unfold cX;simp only[hb'];have:=congrArg (λl:List Value=>l[0]?) (hd 0 1 (by decide));simp only[zLD,zLx,zLP,aB4,aET,aJQ] at this;simpa[Nt.cells,Pk.cells] using this
   ·rw[bX.loadAgg hb' (by omega)];congr 2;exact zLw (hd 1 4 (by decide))
  obtain⟨b,o,a1,a2⟩:=look;have ei:=nP (i:=i) (by omega);have wm:=w m hmem;simp only[lx,hd,a1,(a2 u).1,cB,reduceIte,cJ,Nat.reduceAdd];refine aLe m wm.1 wm.2.2.1 λh3 u3=>?_;have e3:=u.trans u3;by_cases hm2:m.right=true
  ·have ok:=aAT.1 hm2;have hp:m.p.right=true:=ok.2.2;obtain⟨n,hn⟩:∃n:Nat,m.k=(n:Int):=zLm (by have:=ok.1;omega);have ex:m.x=((n:Int),m.p):=by rw[aMt ok,hn]
   have hn':n≤255:=by have:=ok.2.1;omega
   have c2:IntKind.u64.wrap (n:Int)=(n:Int):=jY (by omega) (by omega);have hlen:(lG ((l.take i).map Nt.x)).length≤84*255:=by
    have:=aFa (l:=(l.take i).map Nt.x) (by
     simp only[aIX];intro y hy;have oy:=aAT.1 (hr y hy);rw[aMt oy];exact oy.2.2)
    rw[iF,mN] at this;omega
   simp only[hm2,cK.f0,cK.f1,(a2 e3).2.1,(a2 e3).2.2,hn,aD7,c2,cB,reduceIte,cJ,Nat.reduceAdd];refine lW (by omega) (by decide) λh4 u4=>?_;have e4:=e3.trans u4;have s1:cC PG (binOp .add aT (.string (tx (be l.length 1++lG ((l.take i).map Nt.x)))) (.string (tx (be n 1))))=some (.string (tx ((be l.length 1++lG ((l.take i).map Nt.x))++be n 1))):=jT (by simp only[gU,jO];omega);simp only[(a2 e4).2.2,s1,eq_self,true_and,cB,reduceIte,cJ,Nat.reduceAdd];refine aL8 wm hp λh5 u5=>?_;have hpl:m.p.bs.length≤84:=by
    have:=(Pk.right_iff.1 hp).2.2.2.2;simp only[Pk.bs,jO,gU,aHh];omega
   have s2:cC PG (binOp .add aT (.string (tx ((be l.length 1++lG ((l.take i).map Nt.x))++be n 1))) (.string (tx m.p.bs)))=some (.string (tx (be l.length 1++lG ((l.take (i+1)).map Nt.x)))):=by
    rw[jT (by simp only[gU,jO];omega),zLR,hm];simp only[Option.toList,wB,hY,iZ,aLB,ex,aCy,wY,vP]
   simp only[s2,ei,cB,reduceIte,cJ,Nat.reduceAdd];refine⟨⟨i+1,by omega,rfl,e4.trans u5,λy hy=>?_⟩,by simp[fN,e2];omega⟩;rw[zLR,hm] at hy;rcases xN.1 hy with hy|hy
   ·exact hr y hy
   ·simp at hy;subst hy;exact hm2
  ·have hf:m.right=false:=by simpa using hm2
   simp only[hf,q0,cB,reduceIte,cJ,Nat.reduceAdd];exact hbad (λc=>hm2 (c.2 m hmem)) _ e3
 ·have hd:((i:Int)<(l.length:Int))=False:=by apply eq_false;omega
  rw[qX (by omega)] at hr e1 ⊢;simp only[lx,hd,cB,reduceIte,cJ,Nat.reduceAdd];have hk:=hk (by omega) hr _ u;unfold rX at hk;rw[iF] at hk;exact hk
def ixQ{r o i:Nat}(hi:i<2):cC PG (indexAt cR (pT r o) (.int .i64 (i:Int)))=some (pT r (o+i*2)):=by
 have ix:=sN (P:=PG) (t:=cR) (b:=r) (o:=o) (k:=.i64) (j:=(i:Int)) cR.und cG.info cG.size (by omega) (by omega);rw[ix,wY]
def aV3{r o:Nat}:cC PG (indexAt cR (pT r o) (.int .i64 0))=some (pT r o):=ixQ (i:=0) (by decide)
def aWM{r o:Nat}:cC PG (indexAt cR (pT r o) (.int .i64 1))=some (pT r (o+2)):=ixQ (i:=1) (by decide)
def lJ.neq{h:PH}{x y:Operand}(p q p' q':Pl):cD PG h (fK .neq cR x y (lJ p q) (lJ p' q'))=some (.bool (!decide (p=p'∧q=q'))):=by
 refine aKG (by kernel_rfl) ?_;rw[aMI cR.und cG.info cG.size (λj=>if j=0 then decide (p=p') else decide (q=q'))]
 ·congr 1;simp[List.range,List.range.loop]
 ·intro j hj;have:j=0∨j=1:=by omega
  rcases this with rfl|rfl
  ·exact⟨_,_,aAK cG.und rfl cG.info cG.size,aAK cG.und rfl cG.info cG.size,Pl.eqIn (d:=9997) p p'⟩
  ·exact⟨_,_,aAK cG.und rfl cG.info cG.size,aAK cG.und rfl cG.info cG.size,Pl.eqIn (d:=9997) q q'⟩
def aJS{h:PH}{q:Pl}(w:q.wf){k:cF}(hk:∀h' s e,(e=0∧jL q∨e=1∧¬jL q)->s.length≤100000->cZ h h'->k (.tuple #[.string (tx s),.int .i64 e]) h'):bT PG mT #[.agg q.cells.toArray] h k:=
 aM5 w (λc h' u=>hk h' [] 1 (.inr ⟨rfl,c⟩) (by simp) u) (λc h' u=>hk h' _ 0 (.inl ⟨rfl,c⟩) (by simp[Pl.bs,gU]) u)
def aRW{h:PH}{v:Value}{l:List It}(V:hM h 5 v (l.map It.cells))(hl:l.length≤100000)(w:∀i∈l,i.p.wf){k:cF}
  (hk:∀h' s e,(e=0∧(∀i∈l,aDu i)∨e=1∧¬(l.length≤255∧∀i∈l,aDu i))->s.length≤100000->cZ h h'->k (.tuple #[.string (tx s),.int .i64 e]) h'):bT PG qZ #[v] h k:=
 aM6 V hl w (λc h' u=>hk h' [] 1 (.inr ⟨rfl,λd=>c ⟨d.1,λi hi=>aAI.2 (d.2 i hi)⟩⟩) (by simp) u) (λc d h' u=>hk h' _ 0 (.inl ⟨rfl,λi hi=>aAI.1 (d i hi)⟩) (by
  have:=aFa (l:=l.map It.x) (by
   simp only[aIX];intro y hy;rw[aMv (aAI.1 (d y hy))];exact(aAI.1 (d y hy)).2.2)
  simp only[rX,jO,gU,iF] at *;omega) u)
def aRj{h:PH}{v:Value}{l:List Nt}(V:hM h 5 v (l.map Nt.cells))(hl:l.length≤100000)(w:∀i∈l,i.p.wf){k:cF}
  (hk:∀h' s e,(e=0∧(∀i∈l,aEP i)∨e=1∧¬(l.length≤255∧∀i∈l,aEP i))->s.length≤100000->cZ h h'->k (.tuple #[.string (tx s),.int .i64 e]) h'):bT PG qT #[v] h k:=
 aNw V hl w (λc h' u=>hk h' [] 1 (.inr ⟨rfl,λd=>c ⟨d.1,λi hi=>aAT.2 (d.2 i hi)⟩⟩) (by simp) u) (λc d h' u=>hk h' _ 0 (.inl ⟨rfl,λi hi=>aAT.1 (d i hi)⟩) (by
  have:=aFa (l:=l.map Nt.x) (by
   simp only[aIX];intro y hy;rw[aMt (aAT.1 (d y hy))];exact(aAT.1 (d y hy)).2.2)
  simp only[rX,jO,gU,iF] at *;omega) u)
def aQ8{h:PH}{r:Rc}{v vn:Value}(V:jV h v r.s.its)(VN:yJ h vn r.ns)(wf:r.wf)(hi:r.s.its.length≤100000)(hn:r.ns.length≤100000){k:cF}
  (hk:∀h' s e,(e=0∧xG r∨e=1∧¬xG r)->cZ h h'->k (.tuple #[.string (tx s),.int .i64 e]) h'):bT PG qL #[r.v v vn] h k:=by
 apply rI.call;unfold rI;intro r1 hr1
 try rw[cO]
 have u1:cZ h (h.set r1 (.cells (Value.cells (r.v v vn)) bW)):=cT.new hr1;have B1:Bx (h.set r1 (.cells (Value.cells (r.v v vn)) bW)) r1 (r.cells v vn):=Bx.new;generalize h.set r1 (.cells (Value.cells (r.v v vn)) bW)=h1 at *;have q0:({data:=#[]}:ByteArray)=tx []:=rfl;have q1:({data:=#[1]}:ByteArray)=tx [1]:=rfl;have q2:({data:=#[2]}:ByteArray)=tx [2]:=rfl;have lk:∀{h':PH},cZ h1 h'->cD PG h' (loadAt aR (pT r1 0))=some (.int .i64 r.k):=λu=>by rw[aR.load,(B1.ext u).cell];rfl
 have lp0:∀{h':PH},cZ h1 h'->cD PG h' (loadAt cG (pT r1 1))=some (.agg r.s.p0.cells.toArray):=λu=>aBz (B1.ext u) rfl;have lp1:∀{h':PH},cZ h1 h'->cD PG h' (loadAt cG (pT r1 3))=some (.agg r.s.p1.cells.toArray):=λu=>aBz (B1.ext u) rfl;have ltw:∀{h':PH},cZ h1 h'->cD PG h' (loadAt cR (pT r1 1))=some (lJ r.s.p0 r.s.p1):=λu=>aHb (B1.ext u) rfl;have lit:∀{h':PH},cZ h1 h'->cD PG h' (loadAt bZ (pT r1 5))=some v:=λu=>by rw[bZ.load,(B1.ext u).cell];rfl
 have lch:∀{h':PH},cZ h1 h'->cD PG h' (loadAt aR (pT r1 6))=some (.int .i64 r.ch):=λu=>by rw[aR.load,(B1.ext u).cell];rfl
 have lpl:∀{h':PH},cZ h1 h'->cD PG h' (loadAt cG (pT r1 7))=some (.agg r.pl.cells.toArray):=λu=>aBz (B1.ext u) rfl;have lph:∀{h':PH},cZ h1 h'->cD PG h' (loadAt cI (pT r1 7))=some (.int .u64 r.pl.h):=λu=>by rw[cI.load,(B1.ext u).cell];rfl
 have lpi:∀{h':PH},cZ h1 h'->cD PG h' (loadAt aR (pT r1 8))=some (.int .i64 r.pl.i):=λu=>by rw[aR.load,(B1.ext u).cell];rfl
 have lns:∀{h':PH},cZ h1 h'->cD PG h' (loadAt cY (pT r1 9))=some vn:=λu=>by rw[cY.load,(B1.ext u).cell];rfl
 have li:=It.len V;have ln:=Nt.len VN;by_cases k1:r.k=1
 ·have kk:(r.k==1)=true:=by simp[k1]
  have notok:∀{h':PH},cZ h1 h'->¬xG r->k (.tuple #[.string (tx []),.int .i64 1]) h':=λu c=>hk _ [] 1 (.inr ⟨rfl,c⟩) (u1.trans u);simp only[bW.f0,bW.f1,bR.f0,bR.f1,aV3,aWM,iS,Nat.reduceAdd,lk cT.refl,fO,kk,lp0 cT.refl,cB,reduceIte,cJ,Nat.reduceAdd];refine aJS wf.s.a λh2 s0 e0 c0 g0 u2=>?_;simp only[lp1 u2,cB,reduceIte,cJ,Nat.reduceAdd];refine aJS wf.s.b λh3 s1 e1 c1 g1 u3=>?_;have e3:=u2.trans u3;simp only[lit e3,cB,reduceIte,cJ,Nat.reduceAdd];refine aRW (V.ext (u1.trans e3)) hi wf.s.i λh4 s2 e2 c2 g2 u4=>?_;have e4:=e3.trans u4;rcases c0 with⟨rfl,c0⟩|⟨rfl,c0⟩
  case inr=>
   have n1:((1:Int) !=0)=true:=by decide
   simp only[dY,n1,q0,cB,reduceIte,cJ,Nat.reduceAdd];exact notok e4 λc=>c0 (c.a k1).1
  rcases c1 with⟨rfl,c1⟩|⟨rfl,c1⟩
  case inr=>
   have n1:((1:Int) !=0)=true:=by decide
   simp only[dY,n1,q0,cB,reduceIte,cJ,Nat.reduceAdd];exact notok e4 λc=>c1 (c.a k1).2.1
  rcases c2 with⟨rfl,c2⟩|⟨rfl,c2⟩
  case inr=>
   have n1:((1:Int) !=0)=true:=by decide
   simp only[dY,n1,q0,cB,reduceIte,cJ,Nat.reduceAdd];exact notok e4 λc=>c2 ⟨by have:=(vW c.plain k1).2.2.2;omega,(c.a k1).2.2⟩
  by_cases d1:40<r.s.its.length
  ·have g:((40:Int)<(r.s.its.length:Int))=True:=eq_true (by omega);simp only[dY,bW.f1,bR.f1,lit e4,li,g,q0,iS,Nat.reduceAdd,cB,reduceIte,cJ,Nat.reduceAdd];exact notok e4 λc=>by have:=(vW c.plain k1).2.2.2;omega
  have g:((40:Int)<(r.s.its.length:Int))=False:=eq_false (by omega);by_cases d2:r.ch=0
  case neg=>
   have g2:(r.ch !=0)=true:=by simp[d2]
   simp only[dY,bW.f1,bW.f2,bR.f1,lit e4,li,g,lch e4,g2,q0,iS,Nat.reduceAdd,cB,reduceIte,cJ,Nat.reduceAdd];exact notok e4 λc=>d2 (vW c.plain k1).1
  have g2:(r.ch !=0)=false:=by simp[d2]
  by_cases d3:r.pl.h=0
  case neg=>
   have g3:(r.pl.h !=0)=true:=by simp[d3]
   simp only[dY,bW.f1,bW.f2,bW.f3,bR.f1,cG.f0,lit e4,li,g,lch e4,g2,lph e4,g3,q0,iS,Nat.reduceAdd,cB,reduceIte,cJ,Nat.reduceAdd];exact notok e4 λc=>d3 (by rw[(vW c.plain k1).2.1];rfl)
  have g3:(r.pl.h !=0)=false:=by simp[d3]
  by_cases d4:r.pl.i=0
  case neg=>
   have g4:(r.pl.i !=0)=true:=by simp[d4]
   simp only[dY,bW.f1,bW.f2,bW.f3,bR.f1,cG.f0,cG.f1,lit e4,li,g,lch e4,g2,lph e4,g3,lpi e4,g4,q0,iS,Nat.reduceAdd,cB,reduceIte,cJ,Nat.reduceAdd];exact notok e4 λc=>d4 (by rw[(vW c.plain k1).2.1];rfl)
  have g4:(r.pl.i !=0)=false:=by simp[d4]
  by_cases d5:0<r.ns.length
  ·have g5:((0:Int)<(r.ns.length:Int))=True:=eq_true (by omega);simp only[dY,bW.f1,bW.f2,bW.f3,bW.f4,bR.f1,cG.f0,cG.f1,lit e4,li,g,lch e4,g2,lph e4,g3,lpi e4,g4,lns e4,ln,g5,q0,iS,Nat.reduceAdd,cB,reduceIte,cJ,Nat.reduceAdd];exact notok e4 λc=>by rw[(vW c.plain k1).2.2.1] at d5;simp at d5
  have g5:((0:Int)<(r.ns.length:Int))=False:=eq_false (by omega);have ok:xG r:=by
   refine⟨?_,λ_=>⟨c0,c1,c2⟩,λh2=>by rw[k1] at h2;cases h2⟩;unfold Rc.plain;rw[if_pos k1];have e5:r.ns.length=0:=by omega
   have e6:r.pl=Pl.zero:=by
    have:∀q:Pl,q.h=0->q.i=0->q=Pl.zero:=λq a b=>by
     obtain⟨x,y⟩:=q;simp only at a b;subst a b;rfl
    exact this _ d3 d4
   simp only[d2,e5,e6,decide_true,Bool.and_true,zLo,decide_eq_true_eq];omega
  have a1:cC PG (binOp .add aT (.string (tx [1])) (.string (tx s0)))=some (.string (tx ([1]++s0))):=jT (by simp only[iP,kI];omega);have a2:cC PG (binOp .add aT (.string (tx ([1]++s0))) (.string (tx s1)))=some (.string (tx (([1]++s0)++s1))):=jT (by simp only[jO,iP,kI];omega);have a3:cC PG (binOp .add aT (.string (tx (([1]++s0)++s1))) (.string (tx s2)))=some (.string (tx ((([1]++s0)++s1)++s2))):=jT (by simp only[jO,iP,kI];omega);simp only[dY,bW.f1,bW.f2,bW.f3,bW.f4,bR.f1,cG.f0,cG.f1,lit e4,li,g,lch e4,g2,lph e4,g3,lpi e4,g4,lns e4,ln,g5,q1,a1,a2,a3,iS,Nat.reduceAdd,cB,reduceIte,cJ,Nat.reduceAdd];exact hk _ _ 0 (.inl ⟨rfl,ok⟩) (u1.trans e4)
 have kk:(r.k==1)=false:=by simp[k1]
 by_cases k2:r.k=2
 case neg=>
  have kk2:(r.k==2)=false:=by simp[k2]
  simp only[bW.f0,lk cT.refl,fO,kk,kk2,q0,cB,reduceIte,cJ,Nat.reduceAdd];exact hk _ _ 1 (.inr ⟨rfl,λc=>by have:=(qS c.plain k1).1;exact k2 this⟩) u1
 have kk2:(r.k==2)=true:=by simp[k2]
 have notok:∀{h':PH},cZ h1 h'->¬xG r->k (.tuple #[.string (tx []),.int .i64 1]) h':=λu c=>hk _ [] 1 (.inr ⟨rfl,c⟩) (u1.trans u);simp only[bW.f0,bW.f3,lk cT.refl,fO,kk,kk2,lpl cT.refl,iS,cB,reduceIte,cJ,Nat.reduceAdd];refine aJS wf.pl λh2 s0 e0 c0 g0 u2=>?_;simp only[bW.f4,lns u2,iS,cB,reduceIte,cJ,Nat.reduceAdd];refine aRj (VN.ext (u1.trans u2)) hn wf.n λh4 s2 e2 c2 g2 u4=>?_;have e4:=u2.trans u4;rcases c0 with⟨rfl,c0⟩|⟨rfl,c0⟩
 case inr=>
  have n1:((1:Int) !=0)=true:=by decide
  simp only[dY,n1,q0,cB,reduceIte,cJ,Nat.reduceAdd];exact notok e4 λc=>c0 (c.b k2).1
 rcases c2 with⟨rfl,c2⟩|⟨rfl,c2⟩
 case inr=>
  have n1:((1:Int) !=0)=true:=by decide
  simp only[dY,n1,q0,cB,reduceIte,cJ,Nat.reduceAdd];exact notok e4 λc=>c2 ⟨by have:=(qS c.plain k1).2.2.2;omega,(c.b k2).2⟩
 by_cases d1:16<r.ns.length
 ·have g:((16:Int)<(r.ns.length:Int))=True:=eq_true (by omega);simp only[dY,bW.f4,lns e4,ln,g,q0,iS,Nat.reduceAdd,cB,reduceIte,cJ,Nat.reduceAdd];exact notok e4 λc=>by have:=(qS c.plain k1).2.2.2;omega
 have g:((16:Int)<(r.ns.length:Int))=False:=eq_false (by omega);by_cases d2:r.ch<0
 ·have f2:=eq_true d2;simp only[dY,bW.f4,bW.f2,lns e4,ln,g,lch e4,f2,q0,iS,Nat.reduceAdd,cB,reduceIte,cJ,Nat.reduceAdd];exact notok e4 λc=>by have:=(qS c.plain k1).2.2.1;omega
 have f2:=eq_false d2;by_cases d3:1<r.ch
 ·have f3:=eq_true d3;simp only[dY,bW.f4,bW.f2,lns e4,ln,g,lch e4,f2,f3,q0,iS,Nat.reduceAdd,cB,reduceIte,cJ,Nat.reduceAdd];exact notok e4 λc=>by have:=(qS c.plain k1).2.2.1;omega
 have f3:=eq_false d3;by_cases d4:0<r.s.its.length
 ·have f4:((0:Int)<(r.s.its.length:Int))=True:=eq_true (by omega);simp only[dY,bW.f4,bW.f2,bW.f1,bR.f1,lns e4,ln,g,lch e4,f2,f3,lit e4,li,f4,q0,iS,Nat.reduceAdd,cB,reduceIte,cJ,Nat.reduceAdd];exact notok e4 λc=>by rw[(qS c.plain k1).2.1] at d4;simp[Dm.zero] at d4
 have f4:((0:Int)<(r.s.its.length:Int))=False:=eq_false (by omega);by_cases d5:r.s.p0=Pl.zero∧r.s.p1=Pl.zero
 case neg=>
  have f5:decide (r.s.p0=Pl.zero∧r.s.p1=Pl.zero)=false:=by simpa using d5
  simp only[dY,bW.f4,bW.f2,bW.f1,bR.f1,bR.f0,lns e4,ln,g,lch e4,f2,f3,lit e4,li,f4,ltw e4,aHU,lJ.neq,f5,q0,iS,Nat.reduceAdd,cB,reduceIte,cJ,Nat.reduceAdd];exact notok e4 λc=>d5 (by rw[(qS c.plain k1).2.1];exact⟨rfl,rfl⟩)
 have f5:decide (r.s.p0=Pl.zero∧r.s.p1=Pl.zero)=true:=by simpa using d5
 have ok:xG r:=by
  refine⟨?_,λh1=>absurd h1 k1,λ_=>⟨c0,c2⟩⟩;unfold Rc.plain;rw[if_neg k1,if_pos k2,f5];have e5:r.s.its.length=0:=by omega
  have e6:r.ch=0∨r.ch=1:=by omega
  simp only[e5,decide_true,zLo,rQ,aGj,decide_eq_true_eq];exact⟨e6,by omega⟩
 obtain⟨c,hc⟩:∃c:Nat,r.ch=(c:Int):=zLm (by omega);have hc1:c≤1:=by omega
 have cw:IntKind.u64.wrap (c:Int)=(c:Int):=jY (by omega) (by omega);rw[hc] at f2 f3 lch;simp only[dY,bW.f4,bW.f2,bW.f1,bR.f1,bR.f0,lns e4,ln,g,lch e4,f2,f3,lit e4,li,f4,ltw e4,aHU,lJ.neq,f5,aD7,cw,iS,Nat.reduceAdd,cB,reduceIte,cJ,Nat.reduceAdd];refine lW (by omega) (by decide) λh5 u5=>?_;have a1:cC PG (binOp .add aT (.string (tx [2])) (.string (tx (be c 1))))=some (.string (tx ([2]++be c 1))):=jT (by simp only[iP,kI,gU];omega);have a2:cC PG (binOp .add aT (.string (tx ([2]++be c 1))) (.string (tx s0)))=some (.string (tx (([2]++be c 1)++s0))):=jT (by simp only[jO,iP,kI,gU];omega);have a3:cC PG (binOp .add aT (.string (tx (([2]++be c 1)++s0))) (.string (tx s2)))=some (.string (tx ((([2]++be c 1)++s0)++s2))):=jT (by simp only[jO,iP,kI,gU];omega);simp only[q2,a1,a2,a3,cB,reduceIte,cJ,Nat.reduceAdd];exact hk _ _ 0 (.inl ⟨rfl,ok⟩) (u1.trans (e4.trans u5))
def aVC{h:PH}{a:Nat}{L:List It}{room:Int}{F:List Nat}(H:RAt h a L room F){v:Value}{l:List Nt}(S:yJ h v l)(hv:l≠[]->∀x n c,v= .slice (some x) n c->x.block∉F)(hl:L.length+l.length≤1000)(w:∀n∈l,n.p.wf){k:cF}
  (hk:∀h' F' (n:Int),RAt h' a (lK room L l).1 room F'->cT F h h'->(∀b∈F',b∈F∨h b=none)->k (.tuple #[.int .i64 n,.int .i64 (lK room L l).2]) h'):bT PG aA6 #[pT a 0,v] h k:=by
 apply zI.call;unfold zI;have lv:=Nt.len S;refine⟨λvs h'=>∃(i:Nat) (L':List It) (F':List Nat),i≤l.length∧vs=[pT a 0,v,.int .i64 (i:Int)]∧RAt h' a L' room F'∧cT F h h'∧(∀b∈F',b∈F∨h b=none)∧L'.length≤L.length+i∧lK room L l=lK room L' (l.drop i),fN l.length 2,⟨0,L,F,by omega,rfl,H,cT.refl,(λb hb=>.inl hb),by omega,by simp⟩,?_⟩;rintro ρ h' ⟨i,L',F',hi,hvs,H',u,hF,hLL,hap⟩;simp only[hY,iZ,kP,and_true] at hvs;obtain⟨v0,v1,v2⟩:=hvs;unfold aD8;simp only[v0,v1,v2,hY,iZ];by_cases hlt:i<l.length
 ·have g1:((i:Int)<(l.length:Int))=True:=eq_true (by omega);have gi:=nP (i:=i) (by omega);have e1:l[i]? =some l[i]:=kO hlt;have hmem:l[i]∈l:=aJB hlt;obtain⟨pa,p1,q1⟩:=hM.ntb (hM.upd0 S u λhne=>hv (by simpa using hne)) e1;have hdrop:l.drop i=l[i]::l.drop (i+1):=aAy hlt;generalize l[i]=n at *;rw[hdrop] at hap;have wn:=w n hmem;simp only[lv,g1,p1,q1,cB,reduceIte,cJ,Nat.reduceAdd];refine aS7 H' (by omega) n wn.1 wn.2.2.1 λh3 F3 H3 u3 f3=>?_;have hF':∀b∈F',b∈F∨h b=none:=hF;have u':cT F h h3:=u.then u3 hF';have g3:∀b∈F3,b∈F∨h b=none:=λb hb=>by
   rcases f3 b hb with hb|hb
   ·exact hF b hb
   ·by_cases hbF:b∈F
    ·exact .inl hbF
    ·right;cases hx:h b with
     | none=>rfl
     | some o=>have:=u b o hx hbF;rw[hb] at this;cases this
  have hlen:(pQ L' room n).length≤L'.length+1:=aPF H'.srt room n;by_cases h0:rR L' room n=0
  ·simp only[lK,h0,ne_eq,not_true_eq_false,if_false] at hap;simp only[dY,h0,gi,cB,reduceIte,cJ,Nat.reduceAdd];refine⟨⟨i+1,_,F3,by omega,rfl,H3,u',g3,by omega,hap⟩,?_⟩;simp only[fN,zLL,zLK];omega
  ·have q:(rR L' room n !=0)=true:=by simp[h0]
   simp only[lK,ne_eq,h0,not_false_eq_true,if_true] at hap;simp only[dY,q,cB,reduceIte,cJ,Nat.reduceAdd];have:=hk h3 F3 (i:Int) (by rw[hap];exact H3) u' g3;rw[hap] at this;exact this
 ·have g1:((i:Int)<(l.length:Int))=False:=eq_false (by omega);rw[aBA (by omega)] at hap;simp only[lv,g1,cB,reduceIte,cJ,Nat.reduceAdd];have:=hk h' F' (l.length:Int) (by rw[hap];exact H') u hF;rw[hap] at this;exact this
def aSq{d:Dm}{room:Int}:chk d room=if ¬(jL d.p0∧jL d.p1) then 1 else if mP room d.its≠0 then mP room d.its else if nO d.its≠d.its then 15 else 0:=by
 unfold chk;by_cases h:jL d.p0∧jL d.p1
 ·by_cases e1:mP room d.its=1
  ·simp[h,e1]
  ·simp[h,e1]
 ·simp[h]
def aII{h:PH}{d:Dm}{v:Value}{room:Int}(V:jV h v d.its)(hl:d.its.length≤900)(w:d.wf){k:cF}(hk:∀h',cZ h h'->k (.int .i64 (chk d room)) h'):bT PG oM #[d.v v,.int .i64 room] h k:=by
 apply rJ.call;unfold rJ;intro r1 hr1
 try rw[cO]
 have u1:cZ h (h.set r1 (.cells (Value.cells (d.v v)) bR)):=cT.new hr1;have B1:Bx (h.set r1 (.cells (Value.cells (d.v v)) bR)) r1 (d.cells v):=Bx.new;generalize h.set r1 (.cells (Value.cells (d.v v)) bR)=h1 at *;have lit:∀{h':PH},cZ h1 h'->cD PG h' (loadAt bZ (pT r1 4))=some v:=λu=>by rw[bZ.load,(B1.ext u).cell];rfl
 simp only[bR.f1,iS,lit cT.refl,cB,reduceIte,cJ,Nat.reduceAdd];have main:∀(h6:PH) (tv:Value) (e:Int),(mP room d.its≠0∧tv= .pointer none∧e=mP room d.its)∨(mP room d.its=0∧e=0∧∃a F,tv=pT a 0∧RAt h6 a (nO d.its) room F)->cZ h1 h6->
   gV [2,5,6,7] (λn9 ρ h=>aAR k n9 (ρ 2) (ρ 5) (ρ 6) (ρ 7) h) [(pT r1 0),tv,.int .i64 e,(Value.int IntKind.i64 0)] h6:=by
  intro h6 tv e X u6;have hk:=hk _ (u1.trans u6);rw[aSq] at hk;have li:∀(q:Pl) (o:Nat),(d.cells v)[o+1]? =some (.int .i64 q.i)->cD PG h6 (loadAt aR (pT r1 (o+1)))=some (.int .i64 q.i):=λq o hq=>by rw[aR.load,(B1.ext u6).cell,hq]
  refine⟨λvs h'=>∃i:Nat,i≤2∧vs=[(pT r1 0),tv,.int .i64 e,.int .i64 (i:Int)]∧h'=h6∧(1≤i->jL d.p0)∧(2≤i->jL d.p1),fN 2 3,⟨0,by omega,rfl,rfl,by omega,by omega⟩,?_⟩;rintro ρ h' ⟨i,hi,hvs,rfl,o0,o1⟩;simp only[hY,iZ,kP,and_true] at hvs;obtain⟨v0,v1,v2,v3⟩:=hvs;unfold aAR;rw[v0,v1,v2,v3];by_cases hlt:i<2
  ·have g1:((i:Int)<2)=True:=eq_true (by omega);have gi:=nP (i:=i) (by omega);have ix:=ixP (r:=r1) hlt;obtain⟨q,hq,hc⟩:∃q:Pl,(d.cells v)[i*2+1]? =some (.int .i64 q.i)∧(q=d.p0∧i=0∨q=d.p1∧i=1):=by
    have:i=0∨i=1:=by omega
    rcases this with rfl|rfl
    ·exact⟨d.p0,rfl,.inl ⟨rfl,rfl⟩⟩
    ·exact⟨d.p1,rfl,.inr ⟨rfl,rfl⟩⟩
   have lq:=li q (i*2) hq;have bad:¬jL q->k (.int .i64 1) h':=λc=>by
    rw[if_pos (by
            rcases hc with⟨rfl,-⟩|⟨rfl,-⟩
            ·exact λx=>c x.1
            ·exact λx=>c x.2)] at hk
    exact hk
   by_cases d0:q.i<0
   ·have f0:=eq_true d0;simp only[g1,bR.f0,ix,cG.f1,lq,f0,cB,reduceIte,cJ,Nat.reduceAdd];exact bad λc=>by have:=c.1;omega
   have f0:=eq_false d0;by_cases d1:65535<q.i
   ·have f1:=eq_true d1;simp only[g1,bR.f0,ix,cG.f1,lq,f0,f1,cB,reduceIte,cJ,Nat.reduceAdd];exact bad λc=>by have:=c.2;omega
   have f1:=eq_false d1;have okq:jL q:=⟨by omega,by omega⟩;simp only[g1,bR.f0,ix,cG.f1,lq,f0,f1,gi,cB,reduceIte,cJ,Nat.reduceAdd];refine⟨⟨i+1,by omega,rfl,(by first|rfl|trivial),λ_=>?_,λh2=>?_⟩,by simp[fN,v3];omega⟩
   ·rcases hc with⟨rfl,-⟩|⟨rfl,hi1⟩
    ·exact okq
    ·exact o0 (by omega)
   ·rcases hc with⟨rfl,h0⟩|⟨rfl,-⟩
    ·omega
    ·exact okq
  ·have g1:((i:Int)<2)=False:=eq_false (by omega);rw[if_neg (by exact λc=>c ⟨o0 (by omega),o1 (by omega)⟩)] at hk;rcases X with⟨hne,rfl,rfl⟩|⟨h0,rfl,a,F,rfl,H⟩
   ·have q:(mP room d.its !=0)=true:=by simp[hne]
    rw[if_pos hne] at hk;simp only[g1,dY,q,cB,reduceIte,cJ,Nat.reduceAdd];exact hk
   ·rw[if_neg (by simpa using h0)] at hk;obtain⟨tvv,G,ha,hO,-,-⟩:=H.here;have lt:cD PG h' (loadAt bZ (pT a 0))=some tvv:=by
     rw[bZ.load];unfold cX;simp[ha]
    have hx:=aHH d.its;simp only[g1,dY,aJO,dD.f0,lt,bR.f1,iS,lit u6,cB,reduceIte,cJ,Nat.reduceAdd];refine aPr hO.slR (V.ext (u1.trans u6)) (by omega) ?_;by_cases hs:nO d.its=d.its
    ·rw[if_neg (by simpa using hs)] at hk;have hs':=decide_eq_true hs;simp only[hs',cB,reduceIte,cJ,Nat.reduceAdd];exact hk
    ·rw[if_pos hs] at hk;have hs':=decide_eq_false hs;simp only[hs',cB,reduceIte,cJ,Nat.reduceAdd];exact hk
 refine aSy (V.ext u1) hl (λm hm=>⟨(w.i m hm).1,(w.i m hm).2.2.1⟩) (λh6 u6 hne=>?_) (λa h6 F h0 H f u6=>?_)
 ·simp only[cB,reduceIte,cJ,Nat.reduceAdd];exact main h6 _ _ (.inl ⟨hne,rfl,rfl⟩) u6
 ·simp only[cB,reduceIte,cJ,Nat.reduceAdd];exact main h6 _ _ (.inr ⟨h0,rfl,a,F,rfl,H⟩) u6
def aJR{h:PH}{q:Pl}(w:q.wf){k:cF}(hk:∀h' s e,(e=0∧jL q∧s=q.bs∨e=1∧¬jL q)->s.length≤100000->cZ h h'->k (.tuple #[.string (tx s),.int .i64 e]) h'):bT PG mT #[.agg q.cells.toArray] h k:=
 aM5 w (λc h' u=>hk h' [] 1 (.inr ⟨rfl,c⟩) (by simp) u) (λc h' u=>hk h' _ 0 (.inl ⟨rfl,c,rfl⟩) (by simp[Pl.bs,gU]) u)
def aQ9{h:PH}{v:Value}{l:List It}(V:hM h 5 v (l.map It.cells))(hl:l.length≤100000)(w:∀i∈l,i.p.wf){k:cF}
  (hk:∀h' s e,(e=0∧(∀i∈l,aDu i)∧s=rX (l.map It.x)∨e=1∧¬(l.length≤255∧∀i∈l,aDu i))->s.length≤100000->cZ h h'->k (.tuple #[.string (tx s),.int .i64 e]) h'):bT PG qZ #[v] h k:=
 aM6 V hl w (λc h' u=>hk h' [] 1 (.inr ⟨rfl,λd=>c ⟨d.1,λi hi=>aAI.2 (d.2 i hi)⟩⟩) (by simp) u) (λc d h' u=>hk h' _ 0 (.inl ⟨rfl,λi hi=>aAI.1 (d i hi),rfl⟩) (by
  have:=aFa (l:=l.map It.x) (by
   simp only[aIX];intro y hy;rw[aMv (aAI.1 (d y hy))];exact(aAI.1 (d y hy)).2.2)
  simp only[rX,jO,gU,iF] at *;omega) u)
def aQv{h:PH}{v:Value}{l:List Nt}(V:hM h 5 v (l.map Nt.cells))(hl:l.length≤100000)(w:∀i∈l,i.p.wf){k:cF}
  (hk:∀h' s e,(e=0∧(∀i∈l,aEP i)∧s=rX (l.map Nt.x)∨e=1∧¬(l.length≤255∧∀i∈l,aEP i))->s.length≤100000->cZ h h'->k (.tuple #[.string (tx s),.int .i64 e]) h'):bT PG qT #[v] h k:=
 aNw V hl w (λc h' u=>hk h' [] 1 (.inr ⟨rfl,λd=>c ⟨d.1,λi hi=>aAT.2 (d.2 i hi)⟩⟩) (by simp) u) (λc d h' u=>hk h' _ 0 (.inl ⟨rfl,λi hi=>aAT.1 (d i hi),rfl⟩) (by
  have:=aFa (l:=l.map Nt.x) (by
   simp only[aIX];intro y hy;rw[aMt (aAT.1 (d y hy))];exact(aAT.1 (d y hy)).2.2)
  simp only[rX,jO,gU,iF] at *;omega) u)
def aRk{h:PH}{r:Rc}{v vn:Value}(V:jV h v r.s.its)(VN:yJ h vn r.ns)(wf:r.wf)(hi:r.s.its.length≤100000)(hn:r.ns.length≤100000){k:cF}
  (hk:∀h',cZ h h'->k (.tuple #[.string (tx r.bytes.1),.int .i64 r.bytes.2]) h'):bT PG qL #[r.v v vn] h k:=by
 apply rI.call;unfold rI;have hkN:∀h',¬xG r->cZ h h'->k (.tuple #[.string (tx []),.int .i64 1]) h':=λh' c u=>by
  have:=hk h' u;rcases wV r with⟨a,-⟩|⟨-,b⟩
  ·exact absurd a c
  ·rw[b] at this;exact this
 have hkY:∀h' s,xG r->s=r.bs->cZ h h'->k (.tuple #[.string (tx s),.int .i64 0]) h':=λh' s c e u=>by
  have:=hk h' u;rcases wV r with⟨-,b⟩|⟨a,-⟩
  ·rw[b] at this;rw[e];exact this
  ·exact absurd c a
 intro r1 hr1
 try rw[cO]
 have u1:cZ h (h.set r1 (.cells (Value.cells (r.v v vn)) bW)):=cT.new hr1;have B1:Bx (h.set r1 (.cells (Value.cells (r.v v vn)) bW)) r1 (r.cells v vn):=Bx.new;generalize h.set r1 (.cells (Value.cells (r.v v vn)) bW)=h1 at *;have q0:({data:=#[]}:ByteArray)=tx []:=rfl;have q1:({data:=#[1]}:ByteArray)=tx [1]:=rfl;have q2:({data:=#[2]}:ByteArray)=tx [2]:=rfl;have lk:∀{h':PH},cZ h1 h'->cD PG h' (loadAt aR (pT r1 0))=some (.int .i64 r.k):=λu=>by rw[aR.load,(B1.ext u).cell];rfl
 have lp0:∀{h':PH},cZ h1 h'->cD PG h' (loadAt cG (pT r1 1))=some (.agg r.s.p0.cells.toArray):=λu=>aBz (B1.ext u) rfl;have lp1:∀{h':PH},cZ h1 h'->cD PG h' (loadAt cG (pT r1 3))=some (.agg r.s.p1.cells.toArray):=λu=>aBz (B1.ext u) rfl;have ltw:∀{h':PH},cZ h1 h'->cD PG h' (loadAt cR (pT r1 1))=some (lJ r.s.p0 r.s.p1):=λu=>aHb (B1.ext u) rfl;have lit:∀{h':PH},cZ h1 h'->cD PG h' (loadAt bZ (pT r1 5))=some v:=λu=>by rw[bZ.load,(B1.ext u).cell];rfl
 have lch:∀{h':PH},cZ h1 h'->cD PG h' (loadAt aR (pT r1 6))=some (.int .i64 r.ch):=λu=>by rw[aR.load,(B1.ext u).cell];rfl
 have lpl:∀{h':PH},cZ h1 h'->cD PG h' (loadAt cG (pT r1 7))=some (.agg r.pl.cells.toArray):=λu=>aBz (B1.ext u) rfl;have lph:∀{h':PH},cZ h1 h'->cD PG h' (loadAt cI (pT r1 7))=some (.int .u64 r.pl.h):=λu=>by rw[cI.load,(B1.ext u).cell];rfl
 have lpi:∀{h':PH},cZ h1 h'->cD PG h' (loadAt aR (pT r1 8))=some (.int .i64 r.pl.i):=λu=>by rw[aR.load,(B1.ext u).cell];rfl
 have lns:∀{h':PH},cZ h1 h'->cD PG h' (loadAt cY (pT r1 9))=some vn:=λu=>by rw[cY.load,(B1.ext u).cell];rfl
 have li:=It.len V;have ln:=Nt.len VN;by_cases k1:r.k=1
 ·have kk:(r.k==1)=true:=by simp[k1]
  have notok:∀{h':PH},cZ h1 h'->¬xG r->k (.tuple #[.string (tx []),.int .i64 1]) h':=λu c=>hkN _ c (u1.trans u);simp only[bW.f0,bW.f1,bR.f0,bR.f1,aV3,aWM,iS,Nat.reduceAdd,lk cT.refl,fO,kk,lp0 cT.refl,cB,reduceIte,cJ,Nat.reduceAdd];refine aJR wf.s.a λh2 s0 e0 c0 g0 u2=>?_;simp only[lp1 u2,cB,reduceIte,cJ,Nat.reduceAdd];refine aJR wf.s.b λh3 s1 e1 c1 g1 u3=>?_;have e3:=u2.trans u3;simp only[lit e3,cB,reduceIte,cJ,Nat.reduceAdd];refine aQ9 (V.ext (u1.trans e3)) hi wf.s.i λh4 s2 e2 c2 g2 u4=>?_;have e4:=e3.trans u4;rcases c0 with⟨rfl,c0,y0⟩|⟨rfl,c0⟩
  case inr=>
   have n1:((1:Int) !=0)=true:=by decide
   simp only[dY,n1,q0,cB,reduceIte,cJ,Nat.reduceAdd];exact notok e4 λc=>c0 (c.a k1).1
  rcases c1 with⟨rfl,c1,y1⟩|⟨rfl,c1⟩
  case inr=>
   have n1:((1:Int) !=0)=true:=by decide
   simp only[dY,n1,q0,cB,reduceIte,cJ,Nat.reduceAdd];exact notok e4 λc=>c1 (c.a k1).2.1
  rcases c2 with⟨rfl,c2,y2⟩|⟨rfl,c2⟩
  case inr=>
   have n1:((1:Int) !=0)=true:=by decide
   simp only[dY,n1,q0,cB,reduceIte,cJ,Nat.reduceAdd];exact notok e4 λc=>c2 ⟨by have:=(vW c.plain k1).2.2.2;omega,(c.a k1).2.2⟩
  by_cases d1:40<r.s.its.length
  ·have g:((40:Int)<(r.s.its.length:Int))=True:=eq_true (by omega);simp only[dY,bW.f1,bR.f1,lit e4,li,g,q0,iS,Nat.reduceAdd,cB,reduceIte,cJ,Nat.reduceAdd];exact notok e4 λc=>by have:=(vW c.plain k1).2.2.2;omega
  have g:((40:Int)<(r.s.its.length:Int))=False:=eq_false (by omega);by_cases d2:r.ch=0
  case neg=>
   have g2:(r.ch !=0)=true:=by simp[d2]
   simp only[dY,bW.f1,bW.f2,bR.f1,lit e4,li,g,lch e4,g2,q0,iS,Nat.reduceAdd,cB,reduceIte,cJ,Nat.reduceAdd];exact notok e4 λc=>d2 (vW c.plain k1).1
  have g2:(r.ch !=0)=false:=by simp[d2]
  by_cases d3:r.pl.h=0
  case neg=>
   have g3:(r.pl.h !=0)=true:=by simp[d3]
   simp only[dY,bW.f1,bW.f2,bW.f3,bR.f1,cG.f0,lit e4,li,g,lch e4,g2,lph e4,g3,q0,iS,Nat.reduceAdd,cB,reduceIte,cJ,Nat.reduceAdd];exact notok e4 λc=>d3 (by rw[(vW c.plain k1).2.1];rfl)
  have g3:(r.pl.h !=0)=false:=by simp[d3]
  by_cases d4:r.pl.i=0
  case neg=>
   have g4:(r.pl.i !=0)=true:=by simp[d4]
   simp only[dY,bW.f1,bW.f2,bW.f3,bR.f1,cG.f0,cG.f1,lit e4,li,g,lch e4,g2,lph e4,g3,lpi e4,g4,q0,iS,Nat.reduceAdd,cB,reduceIte,cJ,Nat.reduceAdd];exact notok e4 λc=>d4 (by rw[(vW c.plain k1).2.1];rfl)
  have g4:(r.pl.i !=0)=false:=by simp[d4]
  by_cases d5:0<r.ns.length
  ·have g5:((0:Int)<(r.ns.length:Int))=True:=eq_true (by omega);simp only[dY,bW.f1,bW.f2,bW.f3,bW.f4,bR.f1,cG.f0,cG.f1,lit e4,li,g,lch e4,g2,lph e4,g3,lpi e4,g4,lns e4,ln,g5,q0,iS,Nat.reduceAdd,cB,reduceIte,cJ,Nat.reduceAdd];exact notok e4 λc=>by rw[(vW c.plain k1).2.2.1] at d5;simp at d5
  have g5:((0:Int)<(r.ns.length:Int))=False:=eq_false (by omega);have ok:xG r:=by
   refine⟨?_,λ_=>⟨c0,c1,c2⟩,λh2=>by rw[k1] at h2;cases h2⟩;unfold Rc.plain;rw[if_pos k1];have e5:r.ns.length=0:=by omega
   have e6:r.pl=Pl.zero:=by
    have:∀q:Pl,q.h=0->q.i=0->q=Pl.zero:=λq a b=>by
     obtain⟨x,y⟩:=q;simp only at a b;subst a b;rfl
    exact this _ d3 d4
   simp only[d2,e5,e6,decide_true,Bool.and_true,zLo,decide_eq_true_eq];omega
  have a1:cC PG (binOp .add aT (.string (tx [1])) (.string (tx s0)))=some (.string (tx ([1]++s0))):=jT (by simp only[iP,kI];omega);have a2:cC PG (binOp .add aT (.string (tx ([1]++s0))) (.string (tx s1)))=some (.string (tx (([1]++s0)++s1))):=jT (by simp only[jO,iP,kI];omega);have a3:cC PG (binOp .add aT (.string (tx (([1]++s0)++s1))) (.string (tx s2)))=some (.string (tx ((([1]++s0)++s1)++s2))):=jT (by simp only[jO,iP,kI];omega);simp only[dY,bW.f1,bW.f2,bW.f3,bW.f4,bR.f1,cG.f0,cG.f1,lit e4,li,g,lch e4,g2,lph e4,g3,lpi e4,g4,lns e4,ln,g5,q1,a1,a2,a3,iS,Nat.reduceAdd,cB,reduceIte,cJ,Nat.reduceAdd];refine hkY _ _ ok ?_ (u1.trans e4);rw[y0,y1,y2];unfold Rc.bs;rw[if_pos k1];simp only[vP];rfl
 have kk:(r.k==1)=false:=by simp[k1]
 by_cases k2:r.k=2
 case neg=>
  have kk2:(r.k==2)=false:=by simp[k2]
  simp only[bW.f0,lk cT.refl,fO,kk,kk2,q0,cB,reduceIte,cJ,Nat.reduceAdd];exact hkN _ (λc=>by have:=(qS c.plain k1).1;exact k2 this) u1
 have kk2:(r.k==2)=true:=by simp[k2]
 have notok:∀{h':PH},cZ h1 h'->¬xG r->k (.tuple #[.string (tx []),.int .i64 1]) h':=λu c=>hkN _ c (u1.trans u);simp only[bW.f0,bW.f3,lk cT.refl,fO,kk,kk2,lpl cT.refl,iS,cB,reduceIte,cJ,Nat.reduceAdd];refine aJR wf.pl λh2 s0 e0 c0 g0 u2=>?_;simp only[bW.f4,lns u2,iS,cB,reduceIte,cJ,Nat.reduceAdd];refine aQv (VN.ext (u1.trans u2)) hn wf.n λh4 s2 e2 c2 g2 u4=>?_;have e4:=u2.trans u4;rcases c0 with⟨rfl,c0,y0⟩|⟨rfl,c0⟩
 case inr=>
  have n1:((1:Int) !=0)=true:=by decide
  simp only[dY,n1,q0,cB,reduceIte,cJ,Nat.reduceAdd];exact notok e4 λc=>c0 (c.b k2).1
 rcases c2 with⟨rfl,c2,y2⟩|⟨rfl,c2⟩
 case inr=>
  have n1:((1:Int) !=0)=true:=by decide
  simp only[dY,n1,q0,cB,reduceIte,cJ,Nat.reduceAdd];exact notok e4 λc=>c2 ⟨by have:=(qS c.plain k1).2.2.2;omega,(c.b k2).2⟩
 by_cases d1:16<r.ns.length
 ·have g:((16:Int)<(r.ns.length:Int))=True:=eq_true (by omega);simp only[dY,bW.f4,lns e4,ln,g,q0,iS,Nat.reduceAdd,cB,reduceIte,cJ,Nat.reduceAdd];exact notok e4 λc=>by have:=(qS c.plain k1).2.2.2;omega
 have g:((16:Int)<(r.ns.length:Int))=False:=eq_false (by omega);by_cases d2:r.ch<0
 ·have f2:=eq_true d2;simp only[dY,bW.f4,bW.f2,lns e4,ln,g,lch e4,f2,q0,iS,Nat.reduceAdd,cB,reduceIte,cJ,Nat.reduceAdd];exact notok e4 λc=>by have:=(qS c.plain k1).2.2.1;omega
 have f2:=eq_false d2;by_cases d3:1<r.ch
 ·have f3:=eq_true d3;simp only[dY,bW.f4,bW.f2,lns e4,ln,g,lch e4,f2,f3,q0,iS,Nat.reduceAdd,cB,reduceIte,cJ,Nat.reduceAdd];exact notok e4 λc=>by have:=(qS c.plain k1).2.2.1;omega
 have f3:=eq_false d3;by_cases d4:0<r.s.its.length
 ·have f4:((0:Int)<(r.s.its.length:Int))=True:=eq_true (by omega);simp only[dY,bW.f4,bW.f2,bW.f1,bR.f1,lns e4,ln,g,lch e4,f2,f3,lit e4,li,f4,q0,iS,Nat.reduceAdd,cB,reduceIte,cJ,Nat.reduceAdd];exact notok e4 λc=>by rw[(qS c.plain k1).2.1] at d4;simp[Dm.zero] at d4
 have f4:((0:Int)<(r.s.its.length:Int))=False:=eq_false (by omega);by_cases d5:r.s.p0=Pl.zero∧r.s.p1=Pl.zero
 case neg=>
  have f5:decide (r.s.p0=Pl.zero∧r.s.p1=Pl.zero)=false:=by simpa using d5
  simp only[dY,bW.f4,bW.f2,bW.f1,bR.f1,bR.f0,lns e4,ln,g,lch e4,f2,f3,lit e4,li,f4,ltw e4,aHU,lJ.neq,f5,q0,iS,Nat.reduceAdd,cB,reduceIte,cJ,Nat.reduceAdd];exact notok e4 λc=>d5 (by rw[(qS c.plain k1).2.1];exact⟨rfl,rfl⟩)
 have f5:decide (r.s.p0=Pl.zero∧r.s.p1=Pl.zero)=true:=by simpa using d5
 have ok:xG r:=by
  refine⟨?_,λh1=>absurd h1 k1,λ_=>⟨c0,c2⟩⟩;unfold Rc.plain;rw[if_neg k1,if_pos k2,f5];have e5:r.s.its.length=0:=by omega
  have e6:r.ch=0∨r.ch=1:=by omega
  simp only[e5,decide_true,zLo,rQ,aGj,decide_eq_true_eq];exact⟨e6,by omega⟩
 obtain⟨c,hc⟩:∃c:Nat,r.ch=(c:Int):=zLm (by omega);have hc1:c≤1:=by omega
 have cw:IntKind.u64.wrap (c:Int)=(c:Int):=jY (by omega) (by omega);rw[hc] at f2 f3 lch;simp only[dY,bW.f4,bW.f2,bW.f1,bR.f1,bR.f0,lns e4,ln,g,lch e4,f2,f3,lit e4,li,f4,ltw e4,aHU,lJ.neq,f5,aD7,cw,iS,Nat.reduceAdd,cB,reduceIte,cJ,Nat.reduceAdd];refine lW (by omega) (by decide) λh5 u5=>?_;have a1:cC PG (binOp .add aT (.string (tx [2])) (.string (tx (be c 1))))=some (.string (tx ([2]++be c 1))):=jT (by simp only[iP,kI,gU];omega);have a2:cC PG (binOp .add aT (.string (tx ([2]++be c 1))) (.string (tx s0)))=some (.string (tx (([2]++be c 1)++s0))):=jT (by simp only[jO,iP,kI,gU];omega);have a3:cC PG (binOp .add aT (.string (tx (([2]++be c 1)++s0))) (.string (tx s2)))=some (.string (tx ((([2]++be c 1)++s0)++s2))):=jT (by simp only[jO,iP,kI,gU];omega);simp only[q2,a1,a2,a3,cB,reduceIte,cJ,Nat.reduceAdd];refine hkY _ _ ok ?_ (u1.trans (e4.trans u5));rw[y0,y2];unfold Rc.bs;rw[if_neg k1,hc,wY];simp only[vP];rfl
def aUT{h:PH}{d:Dm}{v:Value}{room:Int}{r:Rc}{vi vn:Value}(V:jV h v d.its)(w:d.wf)(hl:d.its.length≤900)(VI:jV h vi r.s.its)(VN:yJ h vn r.ns)(wf:r.wf)(hi:r.s.its.length≤900)(hn:r.ns.length≤100000){k:cF}
  (hk:∀h' v',jV h' v' (lA d room r).1.its->(iM h v'∨v'=vi)->cZ h h'->k (.tuple #[(lA d room r).1.v v',.int .i64 (lA d room r).2]) h'):bT PG aBX #[d.v v,.int .i64 room,r.v vi vn] h k:=by
 apply sH.call;unfold sH;intro r1 hr1
 try rw[cO]
 have u1:cZ h (h.set r1 (.cells (Value.cells (d.v v)) bR)):=cT.new hr1;have B1:Bx (h.set r1 (.cells (Value.cells (d.v v)) bR)) r1 (d.cells v):=Bx.new;generalize h.set r1 (.cells (Value.cells (d.v v)) bR)=h1 at *;intro r3 hr3
 try rw[cO]
 have u3:cZ h1 (h1.set r3 (.cells (Value.cells (r.v vi vn)) bW)):=cT.new hr3;have B3:Bx (h1.set r3 (.cells (Value.cells (r.v vi vn)) bW)) r3 (r.cells vi vn):=Bx.new;have B13:=B1.ext u3;generalize h1.set r3 (.cells (Value.cells (r.v vi vn)) bW)=h3 at *;intro r5 hr5
 try rw[cO]
 have u5:cZ h3 (h3.set r5 (.cells (dF PG bR) bR)):=cT.new hr5;have Z:=bR.zbox (h:=h3) (r:=r5);have B15:=B13.ext u5;have B35:=B3.ext u5;generalize h3.set r5 (.cells (dF PG bR) bR)=h5 at *;have e5:=(u1.trans u3).trans u5;have f5:dZ h [r5]:=dZ.one ((u1.trans u3).none hr5);have K5:h5 r5≠none:=Z.known
 -- an answer
 have out:∀{h':PH} {x:Dm} {e:Int} {v':Value},cZ h5 h'->lA d room r=(x,e)->jV h' v' x.its->aEZ x.its v' [r5]->(iM h v'∨v'=vi)->cM PG (cQ bR (pT r5 0) (x.v v')) h' λv12 h13=>bY (cD PG h13 (loadAt bR (pT r5 0))) λv14=>k (.tuple #[v14,.int .i64 e]) h13:=by
  intro h' x e v' u hs X o N;refine bR.put (Z.ext u) rfl (by show 0+5≤5;decide) (Dm.isC _ X.isc) λh2 B2 u2=>?_;simp only[Dm.load (o:=0) (d:=x) (v:=v') B2 rfl,cB,reduceIte];rw[hs] at hk;exact hk h2 v' (jV.updG X o u2 (λb hb=>hb)) N ((e5.trans u).fresh u2 f5)
 have bad:∀{h':PH} {e:Int},cZ h5 h'->lA d room r=(Dm.zero,e)->cM PG (cQ bR (pT r5 0) (Dm.v Dm.zero (.slice none 0 0))) h' λv12 h13=>bY (cD PG h13 (loadAt bR (pT r5 0))) λv14=>k (.tuple #[v14,.int .i64 e]) h13:=
  λu hs=>out u hs aDG (λhne=>absurd rfl hne) (.inl iM.nil)
 have hdef:lA d room r=if chk d room≠0 then(Dm.zero,chk d room) else if r.bytes.2≠0 then(Dm.zero,r.bytes.2) else if r.k=1 then(if chk r.s room≠0 then(Dm.zero,chk r.s room) else(r.s,0)) else if (lK room (nO d.its) r.ns).2≠0 then(Dm.zero,(lK room (nO d.its) r.ns).2) else(⟨if r.ch=0 then r.pl else d.p0,if r.ch=0 then d.p1 else r.pl,(lK room (nO d.its) r.ns).1⟩,0):=rfl
 have ld:∀{h':PH},cZ h5 h'->cD PG h' (loadAt bR (pT r1 0))=some (d.v v):=λu=>Dm.load (o:=0) (B15.ext u) rfl;have lr:∀{h':PH},cZ h5 h'->cD PG h' (loadAt bW (pT r3 0))=some (r.v vi vn):=λu=>bW.agg (B35.ext u) (by show 0+10≤10;decide);have lk:∀{h':PH},cZ h5 h'->cD PG h' (loadAt aR (pT r3 0))=some (.int .i64 r.k):=λu=>by rw[aR.load,(B35.ext u).cell];rfl
 have ls:∀{h':PH},cZ h5 h'->cD PG h' (loadAt bR (pT r3 1))=some (r.s.v vi):=λu=>Dm.load (o:=1) (B35.ext u) rfl;have lit:∀{h':PH},cZ h5 h'->cD PG h' (loadAt bZ (pT r1 4))=some v:=λu=>by rw[bZ.load,(B15.ext u).cell];rfl
 have ln:∀{h':PH},cZ h5 h'->cD PG h' (loadAt cY (pT r3 9))=some vn:=λu=>by rw[cY.load,(B35.ext u).cell];rfl
 have l2:∀{h':PH},cZ h5 h'->cD PG h' (loadAt cR (pT r1 0))=some (lJ d.p0 d.p1):=λu=>aHb (B15.ext u) rfl;have lch:∀{h':PH},cZ h5 h'->cD PG h' (loadAt aR (pT r3 6))=some (.int .i64 r.ch):=λu=>by rw[aR.load,(B35.ext u).cell];rfl
 have lpl:∀{h':PH},cZ h5 h'->cD PG h' (loadAt cG (pT r3 7))=some (.agg r.pl.cells.toArray):=λu=>aBz (B35.ext u) rfl;simp only[ld cT.refl,cB,reduceIte,cJ,Nat.reduceAdd];refine aII (V.ext e5) hl w λh6 u6=>?_;by_cases c0:chk d room=0
 case neg=>
  have q:(chk d room !=0)=true:=by simp[c0]
  rw[if_pos c0] at hdef;simp only[dY,q,pZ,cB,reduceIte,cJ,Nat.reduceAdd];exact bad u6 hdef
 rw[if_neg (by simp[c0])] at hdef;simp only[c0,dY,lr u6,cB,reduceIte,cJ,Nat.reduceAdd];refine aQ8 (VI.ext (e5.trans u6)) (VN.ext (e5.trans u6)) wf (by omega) hn λh7 s e he u7=>?_;have e7:=u6.trans u7;rcases he with⟨rfl,ok⟩|⟨rfl,no⟩
 case inr=>
  have n1:((1:Int) !=0)=true:=by decide
  rcases wV r with⟨ok,-⟩|⟨-,eb⟩
  ·exact absurd ok no
  rw[eb] at hdef;simp only[dY,n1,pZ,cB,reduceIte,cJ,Nat.reduceAdd];exact bad e7 (by rw[hdef];rfl)
 rw[aPq ok] at hdef;simp only[ne_eq,not_true_eq_false,if_false] at hdef;simp only[bW.f0,lk e7,dY,fO,cB,reduceIte,cJ,Nat.reduceAdd];by_cases k1:r.k=1
 ·have q:(r.k==1)=true:=by simp[k1]
  rw[if_pos k1] at hdef;simp only[q,bW.f1,iS,ls e7,cB,reduceIte,cJ,Nat.reduceAdd];refine aII (VI.ext (e5.trans e7)) hi wf.s λh8 u8=>?_;have e8:=e7.trans u8;by_cases c2:chk r.s room=0
  ·rw[if_neg (by simp[c2])] at hdef;simp only[c2,dY,bW.f1,iS,ls e8,cB,reduceIte,cJ,Nat.reduceAdd];refine out e8 hdef (VI.ext (e5.trans e8)) (λhne x n c e hm=>?_) (.inr rfl);have:=VI.known (by simpa using hne) e;simp only[iL] at hm;rw[hm] at this;exact this (f5 r5 (by simp))
  ·rw[if_pos c2] at hdef;have q2:(chk r.s room !=0)=true:=by simp[c2]
   simp only[dY,q2,pZ,cB,reduceIte,cJ,Nat.reduceAdd];exact bad e8 hdef
 ·have q:(r.k==1)=false:=by simp[k1]
  obtain⟨k2,-,hch,q16⟩:=qS ok.plain k1;rw[if_neg k1] at hdef;have hof:mP room d.its=0:=by
   rw[aSq] at c0;by_cases h0:mP room d.its=0
   ·exact h0
   ·by_cases h1:jL d.p0∧jL d.p1
    ·rw[if_neg (by simpa using h1),if_pos h0] at c0;exact c0
    ·rw[if_pos h1] at c0;cases c0
  simp only[q,bR.f1,iS,lit e7,cB,reduceIte,cJ,Nat.reduceAdd];refine aSy (V.ext (e5.trans e7)) hl (λm hm=>⟨(w.i m hm).1,(w.i m hm).2.2.1⟩) (λh8 u8 hne=>absurd hof hne) (λa h8 F _ H8 f8 u8=>?_);have e8:=e7.trans u8;have hx:=aHH d.its;simp only[bW.f4,iS,ln e8,cB,reduceIte,cJ,Nat.reduceAdd];refine aVC H8 (VN.ext (e5.trans e8)) (λhne x n c e hm=>(VN.ext (e5.trans e7)).known (by simpa using hne) e (f8 _ hm)) (by omega) wf.n λh9 F9 n H9 u9 g9=>?_;have e9:=e8.fresh u9 (f8.of e7);by_cases c3:(lK room (nO d.its) r.ns).2=0
  case neg=>
   have q3:((lK room (nO d.its) r.ns).2 !=0)=true:=by simp[c3]
   rw[if_pos c3] at hdef;simp only[dY,q3,pZ,cB,reduceIte,cJ,Nat.reduceAdd];exact bad e9 hdef
  rw[if_neg (by simpa using c3)] at hdef;obtain⟨tv,G,ha,hO,eF,-⟩:=H9.here;generalize (lK room (nO d.its) r.ns).1=L at *;have fF:dZ h5 F9:=(f8.of e7).grow e8 g9;have fG:dZ h5 G:=λb hb=>fF b (by rw[eF];simp[hb]);have nv:=hO.newV fG;have lt:cD PG h9 (loadAt bZ (pT a 0))=some tv:=by
   rw[bZ.load];unfold cX;simp[ha]
  have VL:jV h9 tv L:=hO.slR;obtain⟨ta,tc,etv,-⟩:=VL.here;have hb:cC PG (build bR #[(0,lJ d.p0 d.p1),(1,tv)])=some (Dm.v ⟨d.p0,d.p1,L⟩ tv):=by rw[etv];exact aUO _ _ _ _ _
  simp only[c3,dY,bR.f0,l2 e9,aJO,dD.f0,lt,hb,cB,reduceIte,cJ,Nat.reduceAdd];intro r65 hr65
  try rw[cO]
  refine bR.fill hr65 rfl (Dm.isC _ VL.isc) λh10 B10 u10=>?_;have e10:=e9.trans u10;have f65:dZ h5 [r65]:=dZ.one (e9.none hr65);have VLa:=VL.ext u10;have oK:∀{b:Nat},h5 b≠none->aEZ L tv [b]:=λhb=>aEZ.new nv (λc hc=>by simp only[iL] at hc;rw[hc];exact hb);have o65:aEZ L tv [r65]:=λhne x n c e hm=>by
   simp only[iL] at hm;exact VL.known (by simpa using hne) e (by rw[hm];exact hr65)
  rcases hch with hc|hc
  ·rw[hc] at lch hdef;simp only[if_true] at hdef;simp only[bW.f2,bW.f3,iS,lch e10,lpl e10,bR.f0,aXl,cB,reduceIte,cJ,Nat.reduceAdd];refine cG.put B10 (o:=0) (vs:=r.pl.cells) rfl (by show 0+2≤5;decide) (by simp[Pl.cells,fI]) λh11 B11 u11=>?_;have VL11:=jV.updG VLa o65 u11 (λb hb=>hb);have e11:=e10.fresh u11 f65;simp only[Dm.load (o:=0) (d:=⟨r.pl,d.p1,L⟩) (v:=tv) B11 rfl,cB,reduceIte,cJ,Nat.reduceAdd];exact out e11 hdef VL11 (oK K5) (.inl (nv.of e5))
  ·have n1:¬((1:Int)=0):=by decide
   rw[hc] at lch hdef;simp only[n1,if_false] at hdef;simp only[bW.f2,bW.f3,iS,lch e10,lpl e10,bR.f0,aXx,cB,reduceIte,cJ,Nat.reduceAdd];refine cG.put B10 (o:=2) (vs:=r.pl.cells) rfl (by show 2+2≤5;decide) (by simp[Pl.cells,fI]) λh11 B11 u11=>?_;have VL11:=jV.updG VLa o65 u11 (λb hb=>hb);have e11:=e10.fresh u11 f65;simp only[Dm.load (o:=0) (d:=⟨d.p0,r.pl,L⟩) (v:=tv) B11 rfl,cB,reduceIte,cJ,Nat.reduceAdd];exact out e11 hdef VL11 (oK K5) (.inl (nv.of e5))
structure JoA(a w j:Nat)(d:Dk)(x:Jn)(h:PH)(F:List Nat):Prop where
 here:∃Fw iv,F=j::(oY iv x.s.its.length++Fw)∧Bx h j (x.cells w iv)∧WoA a w d x.w h Fw∧jV h iv x.s.its∧j∉Fw∧j∉oY iv x.s.its.length∧∀b∈oY iv x.s.its.length,b∉Fw
 ok:OkD x.s x.room
 wf:x.s.wf
def JoA.known{a w j:Nat}{d:Dk}{x:Jn}{h:PH}{F:List Nat}(H:JoA a w j d x h F):∀b∈F,h b≠none:=by
 obtain⟨Fw,iv,rfl,B,W,S,-⟩:=H.here;intro b hb;simp only[iR,xN] at hb;rcases hb with rfl|hb|hb
 ·exact B.known
 ·exact aGE S b hb
 ·exact W.known b hb
def JoA.upd{a w j:Nat}{d:Dk}{x:Jn}{h h':PH}{F K:List Nat}(H:JoA a w j d x h F)(u:cT K h h')(hK:∀b∈F,b∉K):JoA a w j d x h' F:=by
 obtain⟨Fw,iv,rfl,B,W,S,n⟩:=H.here;exact⟨⟨Fw,iv,rfl,B.upd u (hK j (by simp)),W.upd u (λb hb=>hK b (by simp[hb])),aHG S u (λb hb=>hK b (by simp[hb])),n⟩,H.ok,H.wf⟩
def JoA.good(a w j:Nat)(d:Dk)(x:Jn):aHM (JoA a w j d x):=⟨λH=>H.known,λH u hK=>H.upd u hK⟩
def aST{h:PH}{s:Dm}{iv:Value}(S:jV h iv s.its)(wf:s.wf)(hl:s.its.length≤1000){k:cF}(hk:∀h',cZ h h'->k (.string (tx (kU s))) h'):bT PG aA9 #[s.v iv] h k:=by
 apply zA.call;unfold zA;intro r1 hr1
 try rw[cO]
 have u1:cZ h (h.set r1 (.cells (Value.cells (s.v iv)) bR)):=cT.new hr1;have B1:Bx (h.set r1 (.cells (Value.cells (s.v iv)) bR)) r1 (s.cells iv):=Bx.new;generalize h.set r1 (.cells (Value.cells (s.v iv)) bR)=h1 at *;have l1:cD PG h1 (loadAt bR (pT r1 0))=some (s.v iv):=bR.agg B1 (by show 0+5≤5;decide);obtain⟨b,m,c,rfl⟩:=xB S;simp only[l1,aQW,cB,reduceIte,cJ,Nat.reduceAdd];refine aRk (r:=pU s) (S.ext u1) (eJ.nil (e:=cK)).slR (aLO wf) (by show s.its.length≤_;omega) (by show 0≤_;omega) λh2 u2=>?_;simp only[cB,reduceIte,cJ,Nat.reduceAdd];exact hk h2 (u1.trans u2)
def aVm(w:Nat)(room:Int)(x:Wl)(s:Dm)(b:Option Addr)(n c:Nat):cC PG (build nY #[(0,pT w 0),(1,.int .i64 room),(2,s.v (.slice b n c))])=some (.agg (Jn.cells w ⟨x,room,s⟩ (.slice b n c)).toArray):=by kernel_rfl
def aU2(p q:Pl)(room:Int):chk ⟨p,q,[]⟩ room=0∨chk ⟨p,q,[]⟩ room=1:=by
 unfold chk;show(if mP room []=1∨¬(jL p∧jL q) then(1:Int) else if mP room []≠0 then mP room [] else if nO []≠[] then 15 else 0)=0∨_=1;split
 ·exact .inr rfl
 ·rename_i c;have h0:mP room []=0:=by
   unfold mP at c ⊢;split
   ·rename_i a;rw[if_pos a] at c;exact absurd (.inl rfl) c
   ·rename_i a;rw[if_neg a] at c;simp only[List.all_nil,Bool.true_eq_false,if_false,iZ,List.nodup_nil,not_true_eq_false,kI];split
    ·rename_i b;omega
    ·rfl
  rw[h0,if_neg (by simp),if_neg (by show ¬(nO []≠[]);simp[nO])];exact .inl rfl
def aNB{h0 h:PH}{a w r:Nat}{d:Dk}{x:Wl}{F0 Fw:List Nat}{room:Int}{s:Dm}{iv:Value}(W:WoA a w d x h Fw)(B:Bx h r (s.cells iv))(S:jV h iv s.its)(n1:∀b∈oY iv s.its.length,b∉Fw)(rF:r∉Fw)(m4:∀b∈oY iv s.its.length,b∈F0∨h0 b=none)
  (st:eN h0 F0 h Fw) (ok:OkD s room) (wf:s.wf) (hb:d.buf.length≤900000) {k:cF}
  (bad:∀h' F',rS a (fS d x (kU s)).1 h' F'->eN h0 F0 h' F'->(fS d x (kU s)).2.2≠0->k (.tuple #[.pointer none,.int .i64 (fS d x (kU s)).2.2]) h')
  (hk:∀h' F' j,JoA a w j (fS d x (kU s)).1 ⟨(fS d x (kU s)).2.1,room,s⟩ h' F'->eN h0 F0 h' F'->(fS d x (kU s)).2.2=0->k (.tuple #[pT j 0,.int .i64 0]) h'):uW k (.int .i64 room) (pT r 0) (pT w 0) h:=by
 unfold uW;have l1:cD PG h (loadAt bR (pT r 0))=some (s.v iv):=bR.agg B (by show 0+5≤5;decide);simp only[l1,cB,reduceIte,cJ,Nat.reduceAdd];refine aST S wf (by have:=ok.len;have:=ok.r2;omega) λh1 u1=>?_;have hsw:=aFt (aFW ok);refine aMV (W.ext u1) _ (by unfold kU;omega) (by omega) λh2 F2 W2 s2=>?_;have st2:=st.trans ((eN.ext (F:=Fw) u1).trans s2);obtain⟨P,hP⟩:∃P,fS d x (kU s)=P:=⟨_,rfl⟩;rw[hP] at bad hk W2 ⊢;by_cases c:P.2.2=0
 ·have q:(P.2.2 !=0)=false:=by rw[c];rfl
  obtain⟨B2,-⟩:=(B.ext u1).step s2 rF;obtain⟨S2,k2⟩:=aFY (S.ext u1) s2 n1;have l2:cD PG h2 (loadAt bR (pT r 0))=some (s.v iv):=bR.agg B2 (by show 0+5≤5;decide);obtain⟨b,m,c',rfl⟩:=xB S2;simp only[dY,q,l2,aVm w room P.2.1 s,cB,reduceIte,cJ,Nat.reduceAdd];intro r37 hr37
  try rw[cO]
  have u3:cZ h2 (h2.set r37 (.cells (Value.cells (.agg (Jn.cells w ⟨P.2.1,room,s⟩ (.slice b m c')).toArray)) nY)):=cT.new hr37;have B3:Bx (h2.set r37 (.cells (Value.cells (.agg (Jn.cells w ⟨P.2.1,room,s⟩ (.slice b m c')).toArray)) nY)) r37 (Jn.cells w ⟨P.2.1,room,s⟩ (.slice b m c')):=Bx.new;generalize h2.set r37 (.cells (Value.cells (.agg (Jn.cells w ⟨P.2.1,room,s⟩ (.slice b m c')).toArray)) nY)=h3 at *;refine hk h3 (r37::(oY (.slice b m c') s.its.length++F2)) r37 ⟨⟨F2,_,rfl,B3,W2.ext u3,S2.ext u3,λhm=>W2.known r37 hm hr37,λhm=>aGE S2 r37 hm hr37,k2⟩,ok,wf⟩ ⟨st2.upd.trans u3.upd,λb hb=>?_⟩ c;simp only[iR,xN] at hb;rcases hb with rfl|hb|hb
  ·exact st2.none hr37
  ·exact m4 b hb
  ·exact st2.grow b hb
 ·have q:(P.2.2 !=0)=true:=bne_iff_ne.2 c;simp only[dY,q,cB,reduceIte,cJ,Nat.reduceAdd];obtain⟨Fd,eF,-,D2,-⟩:=W2.here;exact bad h2 Fd D2 ⟨st2.upd,λb hb=>st2.grow b (by rw[eF];simp[hb])⟩ c
def aR0{h:PH}{a:Nat}{d:Dk}{F:List Nat}(D:rS a d h F)(room:Int)(p q:Pl)(wp:p.wf)(wq:q.wf)(hs:d.sectors≤1000)(hb:d.buf.length≤800000){k:cF}
  (hrep:∀(h:PH) (v:Value),hM h 1 v ((fH d).2.1.2.map jJ)->(fH d).2.1.2≠[]->∀{k:cF},(∀h' v',jV h' v' (xL room (fH d).2.1.2).1.its->iM h v'->cZ h h'->k (.tuple #[(xL room (fH d).2.1.2).1.v v',.int .i64 (xL room (fH d).2.1.2).2]) h')->bT PG nV #[.int .i64 room,v] h k)
  (bad:∀h' F',rS a (iK d room p q).1 h' F'->eN h F h' F'->(iK d room p q).2.2≠0->k (.tuple #[.pointer none,.int .i64 (iK d room p q).2.2]) h')
  (hk:∀h' F' w j,JoA a w j (iK d room p q).1 (iK d room p q).2.1 h' F'->eN h F h' F'->(iK d room p q).2.2=0->k (.tuple #[pT j 0,.int .i64 0]) h'):bT PG wE #[pT a 0,.int .i64 room,lJ p q] h k:=by
 apply aAf.call;unfold aAf;intro r1 hr1
 try rw[cO]
 have u1:cZ h (h.set r1 (.cells (Value.cells (lJ p q)) cR)):=cT.new hr1;have B1:Bx (h.set r1 (.cells (Value.cells (lJ p q)) cR)) r1 (p.cells++q.cells):=Bx.new;generalize h.set r1 (.cells (Value.cells (lJ p q)) cR)=h1 at *;have l1:cD PG h1 (loadAt cR (pT r1 0))=some (lJ p q):=cR.agg B1 (by show 0+4≤4;decide);simp only[l1,aP9,cB,reduceIte,cJ,Nat.reduceAdd];intro r5 hr5
 try rw[cO]
 refine bR.fill (vs:=Dm.cells ⟨p,q,[]⟩ (.slice none 0 0)) hr5 rfl (by simp[Dm.cells,fI]) λh2 B2 u2=>?_;have e2:=u1.trans u2;have l2:cD PG h2 (loadAt bR (pT r5 0))=some (Dm.v ⟨p,q,[]⟩ (.slice none 0 0)):=bR.agg B2 (by show 0+5≤5;decide);have r5F:r5∉F:=λhm=>(D.ext u1).known r5 hm hr5;simp only[l2,cB,reduceIte,cJ,Nat.reduceAdd];have nz:∀{h:PH},jV h (.slice none 0 0) (⟨p,q,[]⟩:Dm).its:=(eJ.nil (e:=cE)).slR;refine aII (d:=⟨p,q,[]⟩) nz (by simp) ⟨wp,wq,by simp⟩ λh3 u3=>?_;have e3:=e2.trans u3;unfold iK at bad hk;have wf0:(⟨p,q,[]⟩:Dm).wf:=⟨wp,wq,by simp⟩;by_cases c:chk ⟨p,q,[]⟩ room=0
 ·have qc:(chk ⟨p,q,[]⟩ room !=0)=false:=by rw[c];rfl
  rw[if_neg (λe=>e c)] at bad hk;simp only[dY,qc,cB,reduceIte,cJ,Nat.reduceAdd];refine aR3 (D.ext e3) (by omega) (λh4 F4 D4 s4 ne=>?_) (λh4 F4 w v G W4 O4 dj s4 e0=>?_)
  ·have q4:((fH d).2.2 !=0)=true:=bne_iff_ne.2 ne;rw[if_pos ne] at bad;simp only[dY,q4,cB,reduceIte,cJ,Nat.reduceAdd];exact bad h4 F4 D4 ((eN.ext e3).trans s4) ne
  ·have q4:((0:Int) !=0)=false:=rfl;rw[if_neg (λe=>e e0)] at bad hk;have hfw:=aIW D.ok;have hbw:=aIL d;have hsg:d.segs≤1000:=by unfold Dk.segs;omega
   have st4:=(eN.ext (F:=F) e3).trans s4;obtain⟨B4,r54⟩:=(B2.ext u3).step s4 r5F;have r5w:r5∉F4:=λhm=>r54 (by simp[hm]);have st4':eN h F h4 F4:=⟨st4.upd,λb hb=>st4.grow b (by simp[hb])⟩;have hmay:=aM3 (room:=room) (s0:=⟨p,q,[]⟩) (l:=(fH d).2.1.2) c wf0;obtain⟨l,hl⟩:∃l,(fH d).2.1.2=l:=⟨_,rfl⟩;rw[hl] at bad hk O4 hfw hmay hrep;have lv:=tP O4.slR;by_cases c0:l=[]
   ·have es:kZ room ⟨p,q,[]⟩ l=(⟨p,q,[]⟩,0):=by unfold kZ;rw[if_pos c0]
    rw[es] at bad hk hmay;rw[if_neg (λe=>e rfl)] at bad hk;have g:((0:Int)<(l.length:Int))=False:=eq_false (by rw[c0];simp);simp only[dY,q4,lv,g,cB,reduceIte,cJ,Nat.reduceAdd];refine aNB (h0:=h) (F0:=F) W4 B4 nz (λb hb=>by cases hb) r5w (λb hb=>by cases hb) st4' (hmay rfl).1 wf0 (by omega) (λh' F' D' st ne=>?_) (λh' F' j J st e=>?_)
    ·rw[if_pos ne] at bad;exact bad h' F' D' st ne
    ·rw[if_neg (λx=>x e)] at hk;exact hk h' F' w j J st rfl
   ·have es:kZ room ⟨p,q,[]⟩ l=xL room l:=by unfold kZ;rw[if_neg c0]
    rw[es] at bad hk hmay;have hpos:0<l.length:=aI8.2 c0;have g:((0:Int)<(l.length:Int))=True:=eq_true (by omega);simp only[dY,q4,lv,g,cB,reduceIte,cJ,Nat.reduceAdd];refine hrep _ _ O4.slR c0 λh5 v5 S5 N5 u5=>?_;obtain⟨R,hR⟩:∃R,xL room l=R:=⟨_,rfl⟩;rw[hR] at bad hk hmay S5 ⊢;simp only[cB,reduceIte,cJ,Nat.reduceAdd];have B5:=B4.ext u5;obtain⟨b',m',c',rfl⟩:=xB S5;refine bR.put B5 (vs:=R.1.cells (.slice b' m' c')) (o:=0) rfl (by show 0+5≤5;decide) (by simp[Dm.cells,fI]) λh6 B6 u6=>?_;have W6:=(W4.ext u5).upd u6 (lM r5w);have m5:∀b∈oY (.slice b' m' c') R.1.its.length,h4 b=none:=λb hb=>oY.new N5 hb;have r5s:r5∉oY (.slice b' m' c') R.1.its.length:=λhm=>B4.known (m5 r5 hm);have S6:=aHG S5 u6 (lM r5s);have f5:h r5=none:=u1.none hr5;have st6:eN h F h6 F4:=⟨(st4'.upd.trans u5.upd).then u6 (λb hb=>by
     simp only[iL] at hb;rw[hb];exact .inr f5),st4'.grow⟩
    by_cases c2:R.2=0
    ·have q2:(R.2 !=0)=false:=by rw[c2];rfl
     rw[if_neg (λe=>e c2)] at bad hk;simp only[dY,q2,cB,reduceIte,cJ,Nat.reduceAdd];refine aNB (h0:=h) (F0:=F) (s:=R.1) (iv:=.slice b' m' c') W6 B6 S6 (λb hb hf=>W4.known b hf (m5 b hb)) r5w (λb hb=>st4'.none (m5 b hb)) st6 (hmay c2).1 (hmay c2).2 (by omega) (λh' F' D' st ne=>?_) (λh' F' j J st e=>?_)
     ·rw[if_pos ne] at bad;exact bad h' F' D' st ne
     ·rw[if_neg (λx=>x e)] at hk;exact hk h' F' w j J st rfl
    ·have q2:(R.2 !=0)=true:=bne_iff_ne.2 c2;rw[if_pos c2] at bad;simp only[dY,q2,cB,reduceIte,cJ,Nat.reduceAdd];obtain⟨Fd,eF,-,D6,-⟩:=W6.here;exact bad h6 Fd D6 ⟨st6.upd,λb hb=>st6.grow b (by rw[eF];simp[hb])⟩ c2
 ·have qc:(chk ⟨p,q,[]⟩ room !=0)=true:=bne_iff_ne.2 c;rw[if_pos c] at bad;have c1:chk ⟨p,q,[]⟩ room=1:=(aU2 p q room).resolve_left c;rw[c1] at bad;simp only[dY,qc,cB,reduceIte,cJ,Nat.reduceAdd];exact bad h3 F (D.ext e3) (eN.ext e3) (by show(1:Int)≠0;decide)
abbrev JP:=Option (Nat×Nat×Jn)
def aD2:JP->Value
 | none=>.pointer none
 | some (_,j,_)=>pT j 0
def aD2.isC(p:JP):fI (aD2 p)=true:=by cases p<;>rfl
def PrA(a:Nat)(d:Dk):JP->aOD
 | none=>oD a d
 | some (w,j,x)=>wS a w j d x
def DpA(m:Nat)(d:Dk):JP->aOD
 | none=>rS m d
 | some (w,j,x)=>JoA m w j d x
def PrA.good(a:Nat)(d:Dk)(p:JP):aHM (PrA a d p):=by
 cases p with
 | none=>exact oD.good a d
 | some t=>exact wS.good a t.1 t.2.1 d t.2.2
def DpA.good(a:Nat)(d:Dk)(p:JP):aHM (DpA a d p):=by
 cases p with
 | none=>exact rS.good a d
 | some t=>exact JoA.good a t.1 t.2.1 d t.2.2
def PrA.disk{a:Nat}{d:Dk}{p:JP}{h:PH}{F:List Nat}(H:PrA a d p h F):∃Fd,oD a d h Fd∧∀b∈Fd,b∈F:=by
 cases p with
 | none=>exact⟨F,H,λb hb=>hb⟩
 | some t=>
  obtain⟨w,j,x⟩:=t;have H:wS a w j d x h F:=H;obtain⟨Fw,iv,rfl,B,W,-⟩:=H.here;obtain⟨Fd,rfl,Bw,D,-⟩:=W.here;exact⟨Fd,D,λb hb=>by simp[hb]⟩
def DpA.disk{a:Nat}{d:Dk}{p:JP}{h:PH}{F:List Nat}(H:DpA a d p h F):∃Fd,rS a d h Fd∧∀b∈Fd,b∈F:=by
 cases p with
 | none=>exact⟨F,H,λb hb=>hb⟩
 | some t=>
  obtain⟨w,j,x⟩:=t;have H:JoA a w j d x h F:=H;obtain⟨Fw,iv,rfl,B,W,-⟩:=H.here;obtain⟨Fd,rfl,Bw,D,-⟩:=W.here;exact⟨Fd,D,λb hb=>by simp[hb]⟩
def eN.wide{h h':PH}{F F' G:List Nat}(s:eN h F h' F')(hG:∀b∈F,b∈G):eN h G h' F':=
 ⟨s.upd.mono λb hb=>.inl (hG b hb),λb hb=>(s.grow b hb).imp (hG b) id⟩
def eN.app{h h':PH}{F F':List Nat}(L:List Nat)(s:eN h F h' F'):eN h (L++F) h' (L++F'):=
 ⟨s.upd.mono λb hb=>.inl (by simp[hb]),λb hb=>by
  rcases xN.1 hb with hb|hb
  ·exact .inl (by simp[hb])
  ·exact(s.grow b hb).imp (λx=>by simp[x]) id⟩
def eN.appR{h h':PH}{F F':List Nat}(L:List Nat)(s:eN h F h' F'):eN h (F++L) h' (F'++L):=
 ⟨s.upd.mono λb hb=>.inl (by simp[hb]),λb hb=>by
  rcases xN.1 hb with hb|hb
  ·exact(s.grow b hb).imp (λx=>by simp[x]) id
  ·exact .inl (by simp[hb])⟩
def eN.of{h h':PH}{F K:List Nat}(u:cT K h h')(hK:∀b∈K,b∈F):eN h F h' F:=⟨u.mono λb hb=>.inl (hK b hb),λb hb=>.inl hb⟩
def aDf(a m:Nat)(jp:JP)(e:Int)(vp:JP)(room:Int)(p q:Pl):List Value:=
 [pT a 0,aD2 jp,.int .i64 e,pT m 0,aD2 vp,.int .i64 room,.int .u64 p.h,.int .i64 p.i,.int .u64 q.h,.int .i64 q.i]
structure lF(r a m:Nat)(d:Dk)(jp:JP)(e:Int)(d2:Dk)(vp:JP)(room:Int)(p q:Pl)(h:PH)(F:List Nat):Prop where
 here:∃Fa Fm,F=r::(Fa++Fm)∧Bx h r (aDf a m jp e vp room p q)∧PrA a d jp h Fa∧DpA m d2 vp h Fm∧r∉Fa∧r∉Fm∧∀b∈Fa,b∉Fm
def lF.known{r a m:Nat}{d d2:Dk}{jp vp:JP}{e room:Int}{p q:Pl}{h:PH}{F:List Nat}(H:lF r a m d jp e d2 vp room p q h F):∀b∈F,h b≠none:=by
 obtain⟨Fa,Fm,rfl,B,P,D,-⟩:=H.here;intro b hb;simp only[iR,xN] at hb;rcases hb with rfl|hb|hb
 ·exact B.known
 ·exact(PrA.good a d jp).known P b hb
 ·exact(DpA.good m d2 vp).known D b hb
def lF.upd{r a m:Nat}{d d2:Dk}{jp vp:JP}{e room:Int}{p q:Pl}{h h':PH}{F K:List Nat}(H:lF r a m d jp e d2 vp room p q h F)(u:cT K h h')(hK:∀b∈F,b∉K):lF r a m d jp e d2 vp room p q h' F:=by
 obtain⟨Fa,Fm,rfl,B,P,D,n⟩:=H.here;exact⟨⟨Fa,Fm,rfl,B.upd u (hK r (by simp)),(PrA.good a d jp).upd P u (λb hb=>hK b (by simp[hb])),(DpA.good m d2 vp).upd D u (λb hb=>hK b (by simp[hb])),n⟩⟩
def lF.good(r a m:Nat)(d:Dk)(jp:JP)(e:Int)(d2:Dk)(vp:JP)(room:Int)(p q:Pl):aHM (lF r a m d jp e d2 vp room p q):=⟨λH=>H.known,λH u hK=>H.upd u hK⟩
def lF.ext{r a m:Nat}{d d2:Dk}{jp vp:JP}{e room:Int}{p q:Pl}{h h':PH}{F:List Nat}(H:lF r a m d jp e d2 vp room p q h F)(u:cZ h h'):lF r a m d jp e d2 vp room p q h' F:=(lF.good r a m d jp e d2 vp room p q).ext H u
def lF.prog{r a m:Nat}{d d2 d':Dk}{jp vp jp':JP}{e e' room:Int}{p q:Pl}{h h':PH}{Fa Fm Fa':List Nat}(B:Bx h r (aDf a m jp e vp room p q))(D:DpA m d2 vp h Fm)(n1:r∉Fa)(n2:r∉Fm)(n3:∀b∈Fa,b∉Fm)(s:eN h Fa h' Fa'):
  Bx h' r (aDf a m jp e vp room p q)∧DpA m d2 vp h' Fm∧r∉Fa'∧(∀b∈Fa',b∉Fm):=
 ⟨B.upd s.upd n1,(DpA.good m d2 vp).upd D s.upd (λb hb hm=>n3 b hm hb),(B.step s n1).2,λb hb hm=>by
  rcases s.grow b hb with x|x
  ·exact n3 b x hm
  ·exact(DpA.good m d2 vp).known D b hm x⟩
def lF.docu{r a m:Nat}{d d2:Dk}{jp vp:JP}{e room:Int}{p q:Pl}{h h':PH}{Fa Fm Fm':List Nat}(B:Bx h r (aDf a m jp e vp room p q))(P:PrA a d jp h Fa)(n1:r∉Fa)(n2:r∉Fm)(n3:∀b∈Fa,b∉Fm)(s:eN h Fm h' Fm'):
  Bx h' r (aDf a m jp e vp room p q)∧PrA a d jp h' Fa∧r∉Fm'∧(∀b∈Fa,b∉Fm'):=
 ⟨B.upd s.upd n2,(PrA.good a d jp).upd P s.upd n3,(B.step s n2).2,λb hb hm=>by
  rcases s.grow b hm with x|x
  ·exact n3 b hb x
  ·exact(PrA.good a d jp).known P b hb x⟩
def aWE(a m:Nat)(room:Int)(p q:Pl):cC PG (build cS #[(0,pT a 0),(3,pT m 0),(5,.int .i64 room),(6,lJ p q)])=some (.agg (aDf a m none 0 none room p q).toArray):=by kernel_rfl
def aNk{h:PH}(size sectors:Nat)(ok:fU size)(h1:1≤sectors)(h2:sectors≤4096)(room:Int)(p q:Pl){k:cF}
  (hk:∀h' r a m F,lF r a m (Dk.new size sectors) none 0 (Dk.new size sectors) none room p q h' F->dZ h F->cZ h h'->k (pT r 0) h'):bT PG wM #[.int .i64 (size:Int),.int .i64 (sectors:Int),.int .i64 room,lJ p q] h k:=by
 apply sI.call;unfold sI;intro r1 hr1
 try rw[cO]
 have u1:cZ h (h.set r1 (.cells (Value.cells (lJ p q)) cR)):=cT.new hr1;have B1:Bx (h.set r1 (.cells (Value.cells (lJ p q)) cR)) r1 (p.cells++q.cells):=Bx.new;generalize h.set r1 (.cells (Value.cells (lJ p q)) cR)=g1 at *;refine aVd size sectors ok h1 h2 λh2 a Fa D2 f2 u2=>?_;have q0:((0:Int) !=0)=false:=rfl;have pn:∀{h:PH} {x y:Operand},cD PG h (fK .eql fL x y (pT a 0) (.pointer none))=some (.bool false):=fun {h x y}=>wT (P:=PG) (a:=some ⟨a,0,none⟩) fL.und;have l2:cD PG h2 (loadAt cR (pT r1 0))=some (lJ p q):=cR.agg (B1.ext u2) (by show 0+4≤4;decide);simp only[dY,q0,pn,l2,cB,reduceIte,cJ,Nat.reduceAdd];refine aUC size sectors ok h1 (by assumption) λh3 m Fm D3 f3 u3=>?_;have l3:cD PG h3 (loadAt cR (pT r1 0))=some (lJ p q):=cR.agg ((B1.ext u2).ext u3) (by show 0+4≤4;decide);refine⟨l3,?_⟩;simp only[aWE,cB,reduceIte,cJ,Nat.reduceAdd];intro r20 hr20
 try rw[cO]
 have u4:cZ h3 (h3.set r20 (.cells (Value.cells (.agg (aDf a m none 0 none room p q).toArray)) cS)):=cT.new hr20;have B4:Bx (h3.set r20 (.cells (Value.cells (.agg (aDf a m none 0 none room p q).toArray)) cS)) r20 (aDf a m none 0 none room p q):=Bx.new;generalize h3.set r20 (.cells (Value.cells (.agg (aDf a m none 0 none room p q).toArray)) cS)=h4 at *;have e2:=u1.trans u2;have e3:=e2.trans u3;refine hk h4 r20 a m (r20::(Fa++Fm)) ⟨⟨Fa,Fm,rfl,B4,(D2.ext u3).ext u4,D3.ext u4,λhm=>(D2.ext u3).known r20 hm hr20,λhm=>D3.known r20 hm hr20,λb hb hm=>D2.known b hb (f3 b hm)⟩⟩ (λb hb=>?_) (e3.trans u4);simp only[iR,xN] at hb;rcases hb with rfl|hb|hb
 ·exact e3.none hr20
 ·exact u1.none (f2 b hb)
 ·exact e2.none (f3 b hb)
def aEB(A:Dk×Jn×Int)(jp:JP):Prop:=(A.2.2=0->∃w j,jp=some (w,j,A.2.1))∧(A.2.2≠0->jp=none)
def aVX{h:PH}{a:Nat}{d:Dk}{F:List Nat}(D:oD a d h F)(room:Int)(p q:Pl)(wp:p.wf)(wq:q.wf)(hs:d.sectors≤1000)(hb:d.buf.length≤800000){k:cF}
  (hk:∀h' F' jp',PrA a (iK d room p q).1 jp' h' F'->eN h F h' F'->aEB (iK d room p q) jp'->k (.tuple #[aD2 jp',.int .i64 (iK d room p q).2.2]) h'):bT PG aCB #[pT a 0,.int .i64 room,lJ p q] h k:=by
 refine aTI D room p q wp wq hs hb (λh1 F1 D1 s1 ne=>?_) (λh1 F1 w j J1 s1 e0=>?_)
 ·exact hk h1 F1 none D1 s1 ⟨λe=>absurd e ne,λ_=>rfl⟩
 ·have:=hk h1 F1 (some (w,j,(iK d room p q).2.1)) J1 s1 ⟨λ_=>⟨w,j,rfl⟩,λne=>absurd e0 ne⟩;rw[e0] at this;exact this
def aTJ{h:PH}{a:Nat}{d:Dk}{F:List Nat}(D:rS a d h F)(room:Int)(p q:Pl)(wp:p.wf)(wq:q.wf)(hs:d.sectors≤1000)(hb:d.buf.length≤800000){k:cF}
  (hrep:∀(h:PH) (v:Value),hM h 1 v ((fH d).2.1.2.map jJ)->(fH d).2.1.2≠[]->∀{k:cF},(∀h' v',jV h' v' (xL room (fH d).2.1.2).1.its->iM h v'->cZ h h'->k (.tuple #[(xL room (fH d).2.1.2).1.v v',.int .i64 (xL room (fH d).2.1.2).2]) h')->bT PG nV #[.int .i64 room,v] h k)
  (hk:∀h' F' jp',DpA a (iK d room p q).1 jp' h' F'->eN h F h' F'->aEB (iK d room p q) jp'->k (.tuple #[aD2 jp',.int .i64 (iK d room p q).2.2]) h'):bT PG wE #[pT a 0,.int .i64 room,lJ p q] h k:=by
 refine aR0 D room p q wp wq hs hb hrep (λh1 F1 D1 s1 ne=>?_) (λh1 F1 w j J1 s1 e0=>?_)
 ·exact hk h1 F1 none D1 s1 ⟨λe=>absurd e ne,λ_=>rfl⟩
 ·have:=hk h1 F1 (some (w,j,(iK d room p q).2.1)) J1 s1 ⟨λ_=>⟨w,j,rfl⟩,λne=>absurd e0 ne⟩;rw[e0] at this;exact this
def aOk{h:PH}{x y:Operand}(p:JP):cD PG h (fK .eql dX x y (aD2 p) (.pointer none))=some (.bool p.isNone):=by
 cases p with
 | none=>exact wT (P:=PG) (a:=none) dX.und
 | some t=>exact wT (P:=PG) (a:=some ⟨t.2.1,0,none⟩) dX.und
def aXv{h:PH}{x y:Operand}(p:JP):cD PG h (fK .eql fM x y (aD2 p) (.pointer none))=some (.bool p.isNone):=by
 cases p with
 | none=>exact wT (P:=PG) (a:=none) fM.und
 | some t=>exact wT (P:=PG) (a:=some ⟨t.2.1,0,none⟩) fM.und
def aEB.nil{A:Dk×Jn×Int}{jp:JP}(o:aEB A jp):jp.isNone=decide (A.2.2≠0):=by
 by_cases c:A.2.2=0
 ·obtain⟨w,j,e⟩:=o.1 c;rw[e,decide_eq_false (λx=>x c)];rfl
 ·rw[o.2 c,decide_eq_true c];rfl
def aXa{h:PH}{x y:Operand}(a b:Bool):cD PG h (fK .eql iU x y (.bool a) (.bool b))=some (.bool (a==b)):=by
 cases a<;>cases b<;>kernel_rfl
def aPQ{h:PH}{r a m:Nat}{d d2:Dk}{jp vp:JP}{e room:Int}{p q:Pl}{F:List Nat}(H:lF r a m d jp e d2 vp room p q h F)(wp:p.wf)(wq:q.wf)(hs:d.sectors≤1000)(hs2:d2.sectors≤1000)(hb:d.buf.length≤800000)(hb2:d2.buf.length≤800000){k:cF}
  (hrep:∀(h:PH) (v:Value),hM h 1 v ((fH d2).2.1.2.map jJ)->(fH d2).2.1.2≠[]->∀{k:cF},(∀h' v',jV h' v' (xL room (fH d2).2.1.2).1.its->iM h v'->cZ h h'->k (.tuple #[(xL room (fH d2).2.1.2).1.v v',.int .i64 (xL room (fH d2).2.1.2).2]) h')->bT PG nV #[.int .i64 room,v] h k)
  (hk:∀h' F' jp' vp',lF r a m (iK d room p q).1 jp' (iK d room p q).2.2 (iK d2 room p q).1 vp' room p q h' F'->eN h F h' F'->aEB (iK d room p q) jp'->aEB (iK d2 room p q) vp'->k (.bool (decide ((iK d room p q).2.2=(iK d2 room p q).2.2))) h'):bT PG mM #[pT r 0] h k:=by
 apply nZ.call;unfold nZ;obtain⟨Fa,Fm,rfl,B,P,D,n1,n2,n3⟩:=H.here;obtain⟨Fd,Da,hFd⟩:=PrA.disk P;have c0:cX h ⟨r,0,none⟩=some (pT a 0):=B.cell 0;have c5:cX h ⟨r,0+5,none⟩=some (.int .i64 room):=B.cell 5;have l6:cD PG h (loadAt cR (pT r (0+6)))=some (lJ p q):=cR.agg B (by show 0+6+4≤10;decide);simp only[cS.f0,cS.f5,cS.f6,fL.load,aR.load,c0,c5,l6,cB,reduceIte,cJ,Nat.reduceAdd];refine aVX Da room p q wp wq hs hb λh1 Fa' jp' P1 s1 o1=>?_;obtain⟨B1,D1,n1',n3'⟩:=lF.prog (d:=d) (d':=d) (jp':=jp) (e':=e) B D n1 n2 n3 (s1.wide hFd);obtain⟨A,hA⟩:∃A,iK d room p q=A:=⟨_,rfl⟩;rw[hA] at hk P1 o1 ⊢;simp only[cS.f1,cS.f2,cB,reduceIte,cJ,Nat.reduceAdd];refine dX.put B1 (o:=1) (by show 1<10;decide) (aD2.isC jp') λh2 B2 u2=>?_;refine dH.put B2 (o:=2) (by show 2<10;decide) rfl λh3 B3 u3=>?_;have B3:Bx h3 r (aDf a m jp' A.2.2 vp room p q):=B3;have u23:=u2.trans u3;have P3:=(PrA.good a A.1 jp').upd P1 u23 (lM n1');have D3:=(DpA.good m d2 vp).upd D1 u23 (lM n2);have c3:cX h3 ⟨r,0+3,none⟩=some (pT m 0):=B3.cell 3;have c5':cX h3 ⟨r,0+5,none⟩=some (.int .i64 room):=B3.cell 5;have l6':cD PG h3 (loadAt cR (pT r (0+6)))=some (lJ p q):=cR.agg B3 (by show 0+6+4≤10;decide);obtain⟨Fdm,Dm,hFm⟩:=DpA.disk D3;simp only[cS.f3,cS.f5,cS.f6,fW.load,aR.load,c3,c5',l6',cB,reduceIte,cJ,Nat.reduceAdd];refine aTJ Dm room p q wp wq hs2 hb2 hrep λh4 Fm' vp' P4 s4 o4=>?_;obtain⟨B4,Pa4,n2',n3''⟩:=lF.docu (d2:=d2) B3 P3 n1' n2 n3' (s4.wide hFm);obtain⟨A2,hA2⟩:∃A,iK d2 room p q=A:=⟨_,rfl⟩;rw[hA2] at hk P4 o4 ⊢;simp only[cS.f4,cB,reduceIte,cJ,Nat.reduceAdd];refine fM.put B4 (o:=4) (by show 4<10;decide) (aD2.isC vp') λh5 B5 u5=>?_;have B5:Bx h5 r (aDf a m jp' A.2.2 vp' room p q):=B5;have P5:=(PrA.good a A.1 jp').upd Pa4 u5 (lM n1');have D5:=(DpA.good m A2.1 vp').upd P4 u5 (lM n2');have c1:cX h5 ⟨r,0+1,none⟩=some (aD2 jp'):=B5.cell 1;have c2:cX h5 ⟨r,0+2,none⟩=some (.int .i64 A.2.2):=B5.cell 2;have c4:cX h5 ⟨r,0+4,none⟩=some (aD2 vp'):=B5.cell 4;have fin:k (.bool (decide (A.2.2=A2.2.2))) h5:=by
  refine hk h5 (r::(Fa'++Fm')) jp' vp' ⟨⟨Fa',Fm',rfl,B5,P5,D5,n1',n2',n3''⟩⟩ ?_ o1 o4;have t1:eN h (r::(Fa++Fm)) h1 (r::(Fa'++Fm)):=eN.app [r] (eN.appR Fm (s1.wide hFd));have t2:eN h1 (r::(Fa'++Fm)) h3 (r::(Fa'++Fm)):=eN.of u23 (by simp);have t3:eN h3 (r::(Fa'++Fm)) h4 (r::(Fa'++Fm')):=eN.app (r::Fa') (s4.wide hFm);have t4:eN h4 (r::(Fa'++Fm')) h5 (r::(Fa'++Fm')):=eN.of u5 (by simp);exact((t1.trans t2).trans t3).trans t4
 have qe:(A.2.2==A2.2.2)=decide (A.2.2=A2.2.2):=by rw[xQ,beq_iff_eq,decide_eq_true_iff]
 by_cases c:A.2.2=A2.2.2
 ·rw[decide_eq_true c] at fin;have qt:(A.2.2==A2.2.2)=true:=by rw[qe,decide_eq_true c]
  have eb:(jp'.isNone==vp'.isNone)=true:=by rw[o1.nil,o4.nil,c];simp
  simp only[cS.f1,cS.f2,cS.f4,dH.load,dX.load,fM.load,c1,c2,c4,fO,qt,aOk,aXv,aXa,eb,cB,reduceIte,cJ,Nat.reduceAdd];exact fin
 ·rw[decide_eq_false c] at fin;have qf:(A.2.2==A2.2.2)=false:=by rw[qe,decide_eq_false c]
  simp only[cS.f2,dH.load,c2,fO,qf,cB,reduceIte,cJ,Nat.reduceAdd];exact fin
def aB0{t:Tx}{c:Nat}(h:t.length<c):fD (0,t) c=(0,((6:Int),t)):=by
 unfold fD;rw[aMi h];rfl
def aKV{e:Int}{t:Tx}{n:Int}(he:e≠0):mD (e,t) n=([],(e,t)):=by
 unfold mD;rw[if_neg (λh=>he h.1)];simp only;rw[if_neg he]
def aF9{e:Int}{t:Tx}{c:Nat}(he:e≠0):fD (e,t) c=(0,(e,t)):=by
 unfold fD;rw[aKV he];rfl
def aRD{e:Int}{t:Tx}(he:e≠0):vB (e,t)=([],(e,t)):=by
 unfold vB;rw[aF9 he,aKV he]
def aRc{t:Tx}{c:Nat}:fD ((6:Int),t) c=(0,((6:Int),t)):=aF9 (by decide)
def aMB{t:Tx}:vB ((6:Int),t)=([],((6:Int),t)):=aRD (by decide)
def aNJ(s:Tx):
  (s.length<16∧(gP (0,s)).1=Pl.zero∧(gP (0,s)).2.1=6)∨
  (16≤s.length∧65535<lC ((s.drop 8).take 8)∧(gP (0,s)).1=Pl.zero∧(gP (0,s)).2.1=5)∨
  (16≤s.length∧lC ((s.drop 8).take 8)≤65535∧gP (0,s)=(⟨(lC (s.take 8):Nat),(lC ((s.drop 8).take 8):Nat)⟩,((0:Int),s.drop 16))):=by
 by_cases h16:s.length<16
 ·left;refine⟨h16,?_⟩;unfold gP;by_cases h8:s.length<8
  ·rw[aB0 h8];simp only;rw[aF9 (by decide)];exact⟨rfl,rfl⟩
  ·rw[oP (t:=s) (c:=8) (by omega)];simp only;rw[aB0 (t:=s.drop 8) (by rw[jC];omega)];exact⟨rfl,rfl⟩
 ·right;have e1:fD (0,s) 8=(lC (s.take 8),((0:Int),s.drop 8)):=oP (by omega);have e2:fD (0,s.drop 8) 8=(lC ((s.drop 8).take 8),((0:Int),s.drop 16)):=by
   rw[oP (by rw[jC];omega),pR]
  unfold gP;rw[e1];simp only;rw[e2];simp only;by_cases c:65535<lC ((s.drop 8).take 8)
  ·left;rw[if_pos c];exact⟨by omega,c,rfl,rfl⟩
  ·right;rw[if_neg c];exact⟨by omega,by omega,rfl⟩
def aUc:cC PG (build cG #[])=some (.agg Pl.zero.cells.toArray):=by kernel_rfl
def aWV(a b:Int):cC PG (build cG #[(0,.int .u64 a),(1,.int .i64 b)])=some (.agg (Pl.cells ⟨a,b⟩).toArray):=by kernel_rfl
def aUH(n:Nat)(hn:n<9223372036854775808):cC PG (convert cI aR (.int .u64 (n:Int)))=some (.int .i64 (n:Int)):=by
 rw[show cC PG (convert cI aR (.int .u64 (n:Int)))=some (.int .i64 (IntKind.i64.wrap (n:Int))) from by kernel_rfl,eI (by omega) (by omega)]
def aJt{h:PH}(s:Tx)(hs:s.length≤1000000){k:cF}(hk:∀h',cZ h h'->k (.tuple #[.agg (gP (0,s)).1.cells.toArray,.int .i64 (if (gP (0,s)).2.1=0 then 16 else 0),.int .i64 (gP (0,s)).2.1]) h'):bT PG rT #[.string (tx s)] h k:=by
 apply uU.call;unfold uU;intro r1 hr1
 try rw[cO]
 have Z1:Bx (h.set r1 (.cells (dF PG cG) cG)) r1 Pl.zero.cells:=cG.zbox;have u1:cZ h (h.set r1 (.cells (dF PG cG) cG)):=cT.new hr1;generalize h.set r1 (.cells (dF PG cG) cG)=h1 at *;have fin:∀{h':PH} (q:Pl) (n e:Int),(gP (0,s)).1=q->(gP (0,s)).2.1=e->(if e=0 then(16:Int) else 0)=n->Bx h' r1 Pl.zero.cells->cZ h h'->cM PG (cQ cG (pT r1 0) (.agg q.cells.toArray)) h' λ_ h8=>bY (cD PG h8 (loadAt cG (pT r1 0))) λv9=>k (.tuple #[v9,.int .i64 n,.int .i64 e]) h8:=by
  intro h' q n e hq he hn B w;refine cG.put B (vs:=q.cells) (o:=0) rfl (by show 0+2≤2;decide) (by simp[Pl.cells,fI]) λh2 B2 u2=>?_;have B2:Bx h2 r1 q.cells:=B2;have l2:cD PG h2 (loadAt cG (pT r1 0))=some (.agg q.cells.toArray):=aBz B2 rfl;simp only[l2,iH,zPP];have:=hk h2 (w.fresh u2 (dZ.one hr1));rw[hq,he,hn] at this;exact this
 rcases aNJ s with⟨c,e1,e2⟩|⟨c,c2,e1,e2⟩|⟨c,c2,e⟩
 ·have g:((s.length:Int)<16)=True:=eq_true (by omega);simp only[iO,g,aUc,cB,reduceIte,cJ,Nat.reduceAdd];exact fin Pl.zero 0 6 e1 e2 rfl Z1 u1
 ·have g:((s.length:Int)<16)=False:=eq_false (by omega);have c1:cC PG (Instr.sliceAt aT (.string (tx s)) (some (.int .i64 8)) (some (.int .i64 16)) none)=some (.string (tx ((s.drop 8).take 8))):=by
   have:=kL (P:=PG) (t:=aT) (l:=s) (i:=8) (j:=16) (lo:=some (.int .i64 8)) (hi:=some (.int .i64 16)) aT.und (.inr ⟨_,rfl⟩) (.inr ⟨_,rfl⟩) (by omega) (by omega);rw[this,zLy]
  have g2:((65535:Int)<(lC ((s.drop 8).take 8):Int))=True:=eq_true (by omega);simp only[iO,g,c1,cB,reduceIte,cJ,Nat.reduceAdd];refine aBP (by rw[mN];omega) ?_;simp only[g2,aUc,cB,reduceIte,cJ,Nat.reduceAdd];exact fin Pl.zero 0 5 e1 e2 rfl Z1 u1
 ·have g:((s.length:Int)<16)=False:=eq_false (by omega);have c1:cC PG (Instr.sliceAt aT (.string (tx s)) (some (.int .i64 8)) (some (.int .i64 16)) none)=some (.string (tx ((s.drop 8).take 8))):=by
   have:=kL (P:=PG) (t:=aT) (l:=s) (i:=8) (j:=16) (lo:=some (.int .i64 8)) (hi:=some (.int .i64 16)) aT.und (.inr ⟨_,rfl⟩) (.inr ⟨_,rfl⟩) (by omega) (by omega);rw[this,zLy]
  have c0:cC PG (Instr.sliceAt aT (.string (tx s)) none (some (.int .i64 8)) none)=some (.string (tx (s.take 8))):=by
   have:=kL (P:=PG) (t:=aT) (l:=s) (i:=0) (j:=8) (lo:=none) (hi:=some (.int .i64 8)) aT.und (.inl ⟨rfl,rfl⟩) (.inr ⟨_,rfl⟩) (by omega) (by omega);rw[this,zLb]
  have g2:((65535:Int)<(lC ((s.drop 8).take 8):Int))=False:=eq_false (by omega);simp only[iO,g,c1,cB,reduceIte,cJ,Nat.reduceAdd];refine aBP (by rw[mN];omega) ?_;simp only[g2,c0,cB,reduceIte,cJ,Nat.reduceAdd];refine aBP (by rw[mN];omega) ?_;simp only[aUH _ (show lC ((s.drop 8).take 8)<9223372036854775808 by omega),aWV,cB,reduceIte,cJ,Nat.reduceAdd];exact fin _ 16 0 (by rw[e]) (by rw[e]) rfl Z1 u1
def dpN(s:Tx):Nat:=lC ((s.drop 17).take 2)
def dpk(s:Tx):Pk:=⟨(lC (s.take 1):Nat),(lC ((s.drop 1).take 8):Nat),(lC ((s.drop 9).take 8):Nat),tx ((s.drop 19).take (dpN s))⟩
def aIA(s:Tx):
  ((s.length<19∨s.length<19+dpN s)∧(oC (0,s)).1=default∧(oC (0,s)).2.1=6)∨
  (19+dpN s≤s.length∧(dpk s).right=false∧(oC (0,s)).1=default∧(oC (0,s)).2.1=5)∨
  (19+dpN s≤s.length∧(dpk s).right=true∧oC (0,s)=(dpk s,((0:Int),s.drop (19+dpN s)))):=by
 have bad:∀{t:Tx},(rC (0,s)).2=((6:Int),t)->(oC (0,s)).1=default∧(oC (0,s)).2.1=6:=fun {t} h=>by
  have e:(if (rC (0,s)).1.right then(rC (0,s)).2 else wG (rC (0,s)).2 5)=((6:Int),t):=by
   split
   ·exact h
   ·rw[h];rfl
  unfold oC;simp only;rw[e];exact⟨rfl,rfl⟩
 by_cases h1:s.length<1
 ·refine .inl ⟨.inl (by omega),bad (t:=s) ?_⟩;unfold rC rB rA;rw[aB0 h1];simp only[aRc,aMB]
 have e1:fD (0,s) 1=(lC (s.take 1),((0:Int),s.drop 1)):=oP (by omega);by_cases h9:s.length<9
 ·refine .inl ⟨.inl (by omega),bad (t:=s.drop 1) ?_⟩;unfold rC rB rA;rw[e1];simp only;rw[aB0 (t:=s.drop 1) (c:=8) (by rw[jC];omega)];simp only[aRc,aMB]
 have e2:fD (0,s.drop 1) 8=(lC ((s.drop 1).take 8),((0:Int),s.drop 9)):=by rw[oP (by rw[jC];omega),pR]
 by_cases h17:s.length<17
 ·refine .inl ⟨.inl (by omega),bad (t:=s.drop 9) ?_⟩;unfold rC rB rA;rw[e1];simp only;rw[e2];simp only;rw[aB0 (t:=s.drop 9) (c:=8) (by rw[jC];omega)];simp only[aMB]
 have e3:fD (0,s.drop 9) 8=(lC ((s.drop 9).take 8),((0:Int),s.drop 17)):=by rw[oP (by rw[jC];omega),pR]
 by_cases h19:s.length<19
 ·refine .inl ⟨.inl (by omega),bad (t:=s.drop 17) ?_⟩;unfold rC rB rA vB;rw[e1];simp only;rw[e2];simp only;rw[e3];simp only;rw[aB0 (t:=s.drop 17) (c:=2) (by rw[jC];omega)];simp only;rw[aKV (by decide)]
 have e4:fD (0,s.drop 17) 2=(dpN s,((0:Int),s.drop 19)):=by rw[oP (by rw[jC];omega),pR];rfl
 by_cases hn:s.length<19+dpN s
 ·refine .inl ⟨.inr hn,bad (t:=s.drop 19) ?_⟩;unfold rC rB rA vB;rw[e1];simp only;rw[e2];simp only;rw[e3];simp only;rw[e4];simp only;rw[aMi (by rw[jC];omega)]
 right;have eC:rC (0,s)=(dpk s,((0:Int),s.drop (19+dpN s))):=by
  unfold rC rB rA vB;rw[e1];simp only;rw[e2];simp only;rw[e3];simp only;rw[e4];simp only;rw[aIp (by rw[jC];omega),pR];rfl
 cases cr:(dpk s).right with
 | false=>
  left;refine⟨by omega,rfl,?_⟩;unfold oC;simp only;rw[eC];simp only;rw[cr];exact⟨rfl,rfl⟩
 | true=>
  right;refine⟨by omega,rfl,?_⟩;unfold oC;simp only;rw[eC];simp only;rw[cr];rfl
def aJC{h:PH}{r:Nat}{x:Pk}(B:Bx h r x.cells):cD PG h (loadAt bX (pT r 0))=some (.agg x.cells.toArray):=bX.agg B (by show 0+4≤4;decide)
def aU8(a b c:Int)(d:ByteArray):cC PG (build bX #[(0,.int .i64 a),(1,.int .u64 b),(2,.int .u64 c),(3,.string d)])=some (.agg (Pk.cells ⟨a,b,c,d⟩).toArray):=by kernel_rfl
def Pk.isC(x:Pk):∀v∈x.cells,fI v=true:=by simp[Pk.cells,fI]
def aSU(s:Tx):dpN s<65536:=by
 have:=aIm ((s.drop 17).take 2);have h2:((s.drop 17).take 2).length≤2:=by rw[mN];omega
 have h3:256^((s.drop 17).take 2).length≤256^2:=aMW (by decide) h2;unfold dpN;omega
def aTX{h:PH}(s:Tx)(hs:s.length≤1000000){k:cF}(hk:∀h',cZ h h'->k (.tuple #[.agg (oC (0,s)).1.cells.toArray,.int .i64 (if (oC (0,s)).2.1=0 then((19+dpN s:Nat):Int) else 0),.int .i64 (oC (0,s)).2.1]) h'):bT PG aB1 #[.string (tx s)] h k:=by
 apply tJ.call;unfold tJ;intro r1 hr1
 try rw[cO]
 have Z1:Bx (h.set r1 (.cells (dF PG bX) bX)) r1 (Pk.cells default):=bX.zbox;have u1:cZ h (h.set r1 (.cells (dF PG bX) bX)):=cT.new hr1;generalize h.set r1 (.cells (dF PG bX) bX)=h1 at *;have fin:∀{h':PH} (q:Pk) (n e:Int),(oC (0,s)).1=q->(oC (0,s)).2.1=e->(if e=0 then((19+dpN s:Nat):Int) else 0)=n->Bx h' r1 (Pk.cells default)->cZ h h'->cM PG (cQ bX (pT r1 0) (.agg q.cells.toArray)) h' λ_ h8=>bY (cD PG h8 (loadAt bX (pT r1 0))) λv9=>k (.tuple #[v9,.int .i64 n,.int .i64 e]) h8:=by
  intro h' q n e hq he hn B w;refine bX.put B (vs:=q.cells) (o:=0) rfl (by show 0+4≤4;decide) q.isC λh2 B2 u2=>?_;have B2:Bx h2 r1 q.cells:=B2;simp only[aJC B2,iH,zPP];have:=hk h2 (w.fresh u2 (dZ.one hr1));rw[hq,he,hn] at this;exact this
 by_cases h19:s.length<19
 ·have g:((s.length:Int)<19)=True:=eq_true (by omega);rcases aIA s with⟨c,e1,e2⟩|⟨c,c2,e1,e2⟩|⟨c,c2,e⟩
  ·simp only[iO,g,aKj,cB,reduceIte,cJ,Nat.reduceAdd];exact fin default 0 6 e1 e2 rfl Z1 u1
  ·omega
  ·omega
 ·have g:((s.length:Int)<19)=False:=eq_false (by omega);have c17:cC PG (Instr.sliceAt aT (.string (tx s)) (some (.int .i64 17)) (some (.int .i64 19)) none)=some (.string (tx ((s.drop 17).take 2))):=by
   have:=kL (P:=PG) (t:=aT) (l:=s) (i:=17) (j:=19) (lo:=some (.int .i64 17)) (hi:=some (.int .i64 19)) aT.und (.inr ⟨_,rfl⟩) (.inr ⟨_,rfl⟩) (by omega) (by omega);rw[this,zLy]
  have hdl:=aSU s;have w1:IntKind.i64.wrap ((19:Int)+(dpN s:Int))=((19+dpN s:Nat):Int):=by rw[eI (by omega) (by omega)];omega
  simp only[iO,g,c17,cB,reduceIte,cJ,Nat.reduceAdd];refine aBP (by rw[mN];omega) ?_;rw[show lC ((s.drop 17).take 2)=dpN s from rfl];by_cases hn:s.length<19+dpN s
  ·have g2:((s.length:Int)<((19+dpN s:Nat):Int))=True:=eq_true (by omega);rcases aIA s with⟨c,e1,e2⟩|⟨c,c2,e1,e2⟩|⟨c,c2,e⟩
   ·simp only[aUH (dpN s) (by omega),iO,w1,g2,aKj,cB,reduceIte,cJ,Nat.reduceAdd];exact fin default 0 6 e1 e2 rfl Z1 u1
   ·omega
   ·omega
  ·have g2:((s.length:Int)<((19+dpN s:Nat):Int))=False:=eq_false (by omega);obtain⟨b0,hb0⟩:∃b,s[0]? =some b:=⟨_,kO (by omega)⟩;have i0:cC PG (Instr.index aT (.string (tx s)) (.int .i64 0))=some (.int .u8 b0.toNat):=nL (j:=0) aT.und hb0;have d0:lC (s.take 1)=b0.toNat:=by have:=aI6 hb0;rw[zLb] at this;exact this
   have c1:cC PG (Instr.sliceAt aT (.string (tx s)) (some (.int .i64 1)) (some (.int .i64 9)) none)=some (.string (tx ((s.drop 1).take 8))):=by
    have:=kL (P:=PG) (t:=aT) (l:=s) (i:=1) (j:=9) (lo:=some (.int .i64 1)) (hi:=some (.int .i64 9)) aT.und (.inr ⟨_,rfl⟩) (.inr ⟨_,rfl⟩) (by omega) (by omega);rw[this,zLy]
   have c9:cC PG (Instr.sliceAt aT (.string (tx s)) (some (.int .i64 9)) (some (.int .i64 17)) none)=some (.string (tx ((s.drop 9).take 8))):=by
    have:=kL (P:=PG) (t:=aT) (l:=s) (i:=9) (j:=17) (lo:=some (.int .i64 9)) (hi:=some (.int .i64 17)) aT.und (.inr ⟨_,rfl⟩) (.inr ⟨_,rfl⟩) (by omega) (by omega);rw[this,zLy]
   have c19:cC PG (Instr.sliceAt aT (.string (tx s)) (some (.int .i64 19)) (some (.int .i64 ((19+dpN s:Nat):Int))) none)=some (.string (tx ((s.drop 19).take (dpN s)))):=by
    have:=kL (P:=PG) (t:=aT) (l:=s) (i:=19) (j:=19+dpN s) (lo:=some (.int .i64 19)) (hi:=some (.int .i64 ((19+dpN s:Nat):Int))) aT.und (.inr ⟨_,rfl⟩) (.inr ⟨_,rfl⟩) (by omega) (by omega);rw[this,zLy,aB4]
   simp only[aUH (dpN s) (by omega),iO,w1,g2,i0,aGS,c1,c9,c19,cB,reduceIte,cJ,Nat.reduceAdd];refine aBP (by rw[mN];omega) ?_;refine aBP (by rw[mN];omega) ?_;rw[←d0];show bY (cC PG (build bX #[(0,.int .i64 (dpk s).f),(1,.int .u64 (dpk s).s),(2,.int .u64 (dpk s).t),(3,.string (dpk s).d)])) _;simp only[aU8,iH,zPP];intro r31 hr31
   try rw[cO]
   refine bX.fill (vs:=(dpk s).cells) hr31 rfl (dpk s).isC λh5 B5 u5=>?_;have e5:=u1.trans u5;simp only[aJC B5,cB,reduceIte,cJ,Nat.reduceAdd];refine aH2 (dpk s) (Int.natCast_nonneg _) (Int.natCast_nonneg _) λh6 u6=>?_;have e6:=e5.trans u6;rcases aIA s with⟨c,e1,e2⟩|⟨c,c2,e1,e2⟩|⟨c,c2,e⟩
   ·omega
   ·simp only[c2,aKj,cB,reduceIte,cJ,Nat.reduceAdd];exact fin default 0 5 e1 e2 rfl ((Z1.ext u5).ext u6) e6
   ·simp only[c2,aJC (B5.ext u6),w1,cB,reduceIte,cJ,Nat.reduceAdd];exact fin (dpk s) _ 0 (by rw[e]) (by rw[e]) (if_pos rfl) ((Z1.ext u5).ext u6) e6
def aXj{t:Tx}:(oC ((6:Int),t)).2.1=6:=by
 have e:(rC ((6:Int),t)).2=((6:Int),t):=by
  unfold rC rB rA;simp only[aRc,aMB]
 have e2:(if (rC ((6:Int),t)).1.right then(rC ((6:Int),t)).2 else wG (rC ((6:Int),t)).2 5)=((6:Int),t):=by
  split
  ·exact e
  ·rw[e];rfl
 unfold oC;simp only;rw[e2]
def aOu(g:Int):(aAO g (0,[])).2.1=6:=by
 unfold aAO;rw[aB0 (t:=[]) (c:=1) (by simp)];simp only;rw[if_pos (.inl (by decide))];unfold wG;rw[aXj,if_neg (by decide)]
def aS9(g:Int)(b:UInt8)(t:Tx):aAO g (0,b::t)=(((b.toNat:Int),(oC (0,t)).1),if (b.toNat:Int)<1∨g<(b.toNat:Int) then wG (oC (0,t)).2 5 else(oC (0,t)).2):=by
 unfold aAO;rw[oP (t:=b::t) (c:=1) (by simp)];have:lC ((b::t).take 1)=b.toNat:=by simp[lC]
 simp only;rw[this];rfl
def aG6(g:Int)(n:Nat)(st:gS)(acc:List (Int×Pk))(h:st.1≠0):jI g n st acc=(acc,st):=by
 cases n with
 | zero=>rfl
 | succ n=>unfold jI;rw[if_neg h]
def aUG(g:Int)(n:Nat)(st:gS)(acc:List (Int×Pk))(h:st.1=0):jI g (n+1) st acc=jI g n (aAO g st).2 (acc++[(aAO g st).1]):=by
 conv=>lhs;unfold jI
 rw[if_pos h]
def kc(x:Int×Pk):List Value:=[.int .i64 x.1]
def pc(x:Int×Pk):List Value:=x.2.cells
def aVD(a:Int):jX PG (buildSlice lT 1 #[(0,.int .i64 a)])=some (.cells #[.int .i64 a] aR,λr=>pure (.slice (some ⟨r,0,none⟩) 1 1)):=by kernel_rfl
def aVU(a b c:Int)(d:ByteArray):jX PG (buildSlice gZ 1 #[(0,.agg (Pk.cells ⟨a,b,c,d⟩).toArray)])=some (.cells (Pk.cells ⟨a,b,c,d⟩).toArray bX,λr=>pure (.slice (some ⟨r,0,none⟩) 1 1)):=by kernel_rfl
def aTK(p:Pk):jX PG (buildSlice gZ 1 #[(0,.agg p.cells.toArray)])=some (.cells p.cells.toArray bX,λr=>pure (.slice (some ⟨r,0,none⟩) 1 1)):=aVU p.f p.s p.t p.d
end Go.Proofs.YtiohehjhlghikaaGreatDoor
