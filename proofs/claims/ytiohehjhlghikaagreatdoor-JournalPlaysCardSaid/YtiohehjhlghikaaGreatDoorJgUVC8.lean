/- The texts of this claim, put together. -/
import Derived.Test.YtiohehjhlghikaaGreatDoorJgUVC7
set_option linter.all false
set_option maxRecDepth 100000
open Go.Instr (loadAt fieldAt indexAt extract buildSlice build)
namespace Go.Proofs.YtiohehjhlghikaaGreatDoor
open Go
structure pI(r:Nat)(d:Dk)(h:PH)(F:List Nat):Prop where
 here:∃bv Fb,F=r::Fb∧Bx h r [.int .i64 (d.size:Int),.int .i64 (d.sectors:Int),.string (tx d.st.flatten),bv,.int .i64 (d.arm:Int)]∧fY h fE 2 bv (d.buf.map tI) Fb∧r∉Fb
 ok:d.Ok
 arm:d.arm<9223372036854775808
def pI.known{r:Nat}{d:Dk}{h:PH}{F:List Nat}(H:pI r d h F):∀b∈F,h b≠none:=by
 obtain⟨bv,Fb,rfl,B,W,-⟩:=H.here;intro b hb;rcases jW.1 hb with rfl|hb
 ·exact B.known
 ·exact W.known b hb
def pI.upd{r:Nat}{d:Dk}{h h':PH}{F K:List Nat}(H:pI r d h F)(u:eH K h h')(hK:∀b∈F,b∉K):pI r d h' F:=by
 obtain⟨bv,Fb,rfl,B,W,n⟩:=H.here;exact⟨⟨bv,Fb,rfl,B.upd u (hK r (by simp)),W.upd u (λb hb=>hK b (by simp[hb])),n⟩,H.ok,H.arm⟩
def pI.good(r:Nat)(d:Dk):aIu (pI r d):=⟨λH=>H.known,λH u hK=>H.upd u hK⟩
def pI.ext{r:Nat}{d:Dk}{h h':PH}{F:List Nat}(H:pI r d h F)(u:eM h h'):pI r d h' F:=(pI.good r d).ext H u
structure DoB(r:Nat)(d:Dk)(h:PH)(bv:Value):Prop where
 size:eA h ⟨r,0,none⟩=some (.int .i64 (d.size:Int))
 sectors:eA h ⟨r,0+1,none⟩=some (.int .i64 (d.sectors:Int))
 st:eA h ⟨r,0+2,none⟩=some (.string (tx d.st.flatten))
 buf:eA h ⟨r,0+3,none⟩=some bv
 arm:eA h ⟨r,0+4,none⟩=some (.int .i64 (d.arm:Int))
def DoB.of{r:Nat}{d:Dk}{h:PH}{bv:Value}(B:Bx h r [.int .i64 (d.size:Int),.int .i64 (d.sectors:Int),.string (tx d.st.flatten),bv,.int .i64 (d.arm:Int)]):DoB r d h bv:=⟨B.cell 0,B.cell 1,B.cell 2,B.cell 3,B.cell 4⟩
def pI.b{r:Nat}{d:Dk}{h:PH}{F:List Nat}(H:pI r d h F):∃bv,DoB r d h bv:=by
 obtain⟨bv,Fb,rfl,B,-⟩:=H.here;exact⟨bv,DoB.of B⟩
def aOg{h:PH}{r:Nat}{d:Dk}{F:List Nat}(D:pI r d h F){k:dI}(hk:∀h',pI r d.tick h' F->eH F h h'->k (.bool (decide (d.arm=1))) h'):bR PG sF #[pT r 0] h k:=by
 apply uQ.call;unfold uQ;have ha:=D.arm;obtain⟨bv,Fb,rfl,B,W,n1⟩:=id D.here;have L:=DoB.of B;have e:((d.arm:Int)==1)=decide (d.arm=1):=by rw[yA,beq_iff_eq,decide_eq_true_iff];omega
 by_cases c:d.arm=0
 ·have g:((0:Int)<(d.arm:Int))=False:=eq_false (by omega);have et:d.tick=d:=by
   unfold Dk.tick;rw[c];obtain⟨x1,x2,x3,x4,x5⟩:=d;simp only at c;subst c;rfl
  rw[et] at hk;simp only[dQ.f4,aR.load,L.arm,g,rT,gX,e,dF,reduceIte,dM,Nat.reduceAdd];exact hk h D eH.refl
 ·have g:((0:Int)<(d.arm:Int))=True:=eq_true (by omega);have w:IntKind.i64.wrap ((d.arm:Int)-1)=((d.arm-1:Nat):Int):=by rw[fW (by omega) (by omega)];omega
  simp only[dQ.f4,aR.load,L.arm,g,w,dF,reduceIte,dM,Nat.reduceAdd];refine aR.put B (o:=4) (by show 4<5;decide) rfl λh2 B2 u2=>?_;simp only[rT,gX,e,dF,reduceIte,dM,Nat.reduceAdd];exact hk h2 ⟨⟨bv,Fb,rfl,B2,W.upd u2 (lL n1),n1⟩,D.ok.tick,by show d.arm-1<_;omega⟩ (u2.mono λb hb=>.inl (by simp only[jI] at hb;simp[hb]))
def aRA{h:PH}{r size sectors n:Nat}{st:List Tx}{bv av:Value}{s:Tx}(B:Bx h r [.int .i64 (size:Int),.int .i64 (sectors:Int),.string (tx st.flatten),bv,av])(hx:∀s∈st,s.length=size)(hn:n<st.length)(hs:s.length≤size)(hz:size≤512)(hl:st.length≤4096){k:dI}
  (hk:∀h',Bx h' r [.int .i64 (size:Int),.int .i64 (sectors:Int),.string (tx (st.set n (s++(st.getD n []).drop s.length)).flatten),bv,av]->eH [r] h h'->k (.tuple #[]) h'):bR PG tL #[pT r 0,.int .i64 (n:Int),.string (tx s)] h k:=by
 apply qE.call;unfold qE;have c0:eA h ⟨r,0,none⟩=some (.int .i64 (size:Int)):=B.cell 0;have c2:eA h ⟨r,0+2,none⟩=some (.string (tx st.flatten)):=B.cell 2;have fl:=aBK hx;have m0:st.length*size≤4096*512:=Nat.mul_le_mul hl hz;have m1:n*size≤st.length*size:=yE _ (by omega);have m2:(n+1)*size≤st.length*size:=yE _ (by omega);have m3:(n+1)*size=n*size+size:=Nat.succ_mul _ _;have w1:IntKind.i64.wrap ((n:Int)*(size:Int))=((n*size:Nat):Int):=by rw[←Int.natCast_mul,fW (by omega) (by omega)]
 have w2:IntKind.i64.wrap (((n*size:Nat):Int)+(s.length:Int))=((n*size+s.length:Nat):Int):=by rw[fW (by omega) (by omega)];omega
 have k1:dE PG (Instr.sliceAt aT (.string (tx st.flatten)) none (some (.int .i64 ((n*size:Nat):Int))) none)=some (.string (tx (st.flatten.take (n*size)))):=by
  have:=lE (P:=PG) (t:=aT) (l:=st.flatten) (i:=0) (j:=n*size) (lo:=none) (hi:=some (.int .i64 ((n*size:Nat):Int))) aT.und (.inl ⟨rfl,rfl⟩) (.inr ⟨_,rfl⟩) (by omega) (by omega);rw[this,zLb]
 have k2:dE PG (Instr.sliceAt aT (.string (tx st.flatten)) (some (.int .i64 ((n*size+s.length:Nat):Int))) none none)=some (.string (tx (st.flatten.drop (n*size+s.length)))):=by
  have:=lE (P:=PG) (t:=aT) (l:=st.flatten) (i:=n*size+s.length) (j:=st.flatten.length) (lo:=some (.int .i64 ((n*size+s.length:Nat):Int))) (hi:=none) aT.und (.inr ⟨_,rfl⟩) (.inl ⟨rfl,rfl⟩) (by omega) (by omega);rw[this,zLJ]
 have a1:dE PG (binOp .add aT (.string (tx (st.flatten.take (n*size)))) (.string (tx s)))=some (.string (tx (st.flatten.take (n*size)++s))):=kZ (by rw[mT];omega);have a2:dE PG (binOp .add aT (.string (tx (st.flatten.take (n*size)++s))) (.string (tx (st.flatten.drop (n*size+s.length)))))=some (.string (tx (st.flatten.take (n*size)++s++st.flatten.drop (n*size+s.length)))):=kZ (by rw[kO,mT,kD];omega);simp only[dQ.f0,dQ.f2,aR.load,aT.load,c0,c2,oQ,w1,k1,a1,jS,w2,k2,a2,dF,reduceIte,dM,Nat.reduceAdd];refine aT.put B (o:=2) (by show 2<5;decide) rfl λh2 B2 u2=>?_;refine hk h2 ?_ u2;rw[←aUZ hx hn hs];exact B2
def aXB(n:Int)(s:ByteArray):dE PG (build fE #[(0,.int .i64 n),(1,.string s)])=some (.agg #[.int .i64 n,.string s]):=by kernel_rfl
def aX5(n:Int)(s:ByteArray):lH PG (buildSlice dV 1 #[(0,.agg #[.int .i64 n,.string s])])=some (.cells #[.int .i64 n,.string s] fE,λr=>pure (.slice (some ⟨r,0,none⟩) 1 1)):=by kernel_rfl
def aYa:lH PG (buildSlice dV 0 #[])=some (.cells #[] fE,λr=>pure (.slice (some ⟨r,0,none⟩) 0 0)):=by kernel_rfl
def aK6{h:PH}{v:Value}{l:List (Nat×Tx)}(S:jE h 2 v (l.map tI)):dE PG (Builtin.len_ #[dV] aR #[v])=some (.int .i64 l.length):=by
 have:=S.len (t':=aR) dV.und;rw[jJ] at this;exact this
def aR8{h:PH}{v:Value}{l:List (Nat×Tx)}(S:jE h 2 v (l.map tI)){i:Nat}{w:Nat×Tx}(hx:l[i]? =some w):∃b o,dE PG (indexAt dV v (.int .i64 (i:Int)))=some (pT b o)∧eA h ⟨b,o,none⟩=some (.int .i64 (w.1:Int))∧eA h ⟨b,o+1,none⟩=some (.string (tx w.2)):=by
 obtain⟨b,o,h1,hf⟩:=S.fields (t:=dV) (k:=.i64) (j:=i) dV.und fE.info fE.size (r:=tI w) (by rw[xB,hx];rfl);exact⟨b,o,h1,hf.1 0 _ rfl,hf.1 1 _ rfl⟩
def aSc{h:PH}{r:Nat}{d:Dk}{F:List Nat}(D:pI r d h F)(n:Int)(s:Tx)(hb:d.buf.length≤1000000){k:dI}(hk:∀h' F',pI r (d.wr n s).1 h' F'->fT h F h' F'->k (.int .i64 (d.wr n s).2) h'):bR PG xU #[pT r 0,.int .i64 n,.string (tx s)] h k:=by
 apply uP.call;unfold uP;obtain⟨bv,L⟩:=D.b;have hok:=D.ok.wr n s;unfold Dk.wr at hk hok;have bad:(n<0∨(d.sectors:Int)≤n∨s.length≠d.size)->k (.int .i64 1) h:=λc=>by
  rw[if_pos c] at hk;exact hk h F D fT.refl
 by_cases c0:n<0
 ·have g:(n<0)=True:=eq_true c0;simp only[g,dF,reduceIte,dM,Nat.reduceAdd];exact bad (.inl c0)
 ·have g:(n<0)=False:=eq_false c0;by_cases c1:(d.sectors:Int)≤n
  ·have g1:((d.sectors:Int)≤n)=True:=eq_true c1;simp only[g,dQ.f1,aR.load,L.sectors,g1,dF,reduceIte,dM,Nat.reduceAdd];exact bad (.inr (.inl c1))
  ·have g1:((d.sectors:Int)≤n)=False:=eq_false c1;by_cases c2:s.length=d.size
   ·have q2:((s.length:Int) !=(d.size:Int))=false:=by simp[c2]
    rw[if_neg (by omega)] at hk hok;simp only[g,dQ.f0,dQ.f1,aR.load,L.sectors,L.size,g1,jS,fZ,q2,dF,reduceIte,dM,Nat.reduceAdd];refine aOg D λh2 D2 u2=>?_;have st2:fT h F h2 F:=⟨u2,λb hb=>.inl hb⟩;by_cases c3:d.arm=1
    ·rw[if_pos c3] at hk;simp only[c3,decide_true,dF,reduceIte,dM,Nat.reduceAdd];exact hk h2 F D2 st2
    ·rw[if_neg c3] at hk hok;obtain⟨bv,Fb,eF,B2,W2,n1⟩:=D2.here;simp only[c3,decide_false,aYa,dF,reduceIte,dM,Nat.reduceAdd];intro r54 hr54;refine jC ?_
     try rw[dY]
     have O3:fY (h2.set r54 (.cells #[] fE)) fE 2 (.slice (some ⟨r54,0,none⟩) 0 0) [] [r54]:=fY.lit (n:=0) (λr hr=>by cases hr) gB rfl (by decide) rfl;have u3:eM h2 (h2.set r54 (.cells #[] fE)):=eH.new hr54;generalize h2.set r54 (.cells #[] fE)=h3 at *;have L3:=DoB.of (B2.ext u3);have bl:(d.tick.buf.map tI).length=d.buf.length:=by rw[jJ];rfl
     have f54:h2 r54=none:=hr54;simp only[dQ.f3,dV.load,L3.buf,dF,reduceIte,dM,Nat.reduceAdd];refine mQ dV.und dV.und fE.info fE.size fE.bytes fE.zero rfl (by decide) O3 (W2.slR.ext u3) (by
      intro r hr u hu;obtain⟨m,_,rfl⟩:=rS.1 hr;exact tI.isC m u hu) (by rw[bl];simp only[lU];omega) ?_
     intro v4 h4 F4 O4 u4 g4 _;rw[zLU] at O4;have g4':∀b∈F4,h2 b=none:=λb hb=>by
      rcases g4 b hb with e|e
      ·simp only[jI] at e;rw[e];exact f54
      ·exact u3.none e
     have e4:eM h2 h4:=u3.fresh u4 (fX.one f54);simp only[aXB,aX5,dF,reduceIte,dM,Nat.reduceAdd];intro r64 hr64;refine jC ?_
     try rw[dY]
     have Sl:jE (h4.set r64 (.cells #[.int .i64 n,.string (tx s)] fE)) 2 (.slice (some ⟨r64,0,none⟩) 1 1) [[.int .i64 n,.string (tx s)]]:=(fY.lit (e:=fE) (size:=2) (rows:=[[.int .i64 n,.string (tx s)]]) (n:=1) (λr hr=>by simp only[jI] at hr;rw[hr];rfl) gB rfl (by decide) rfl).slR;have u5:eM h4 (h4.set r64 (.cells #[.int .i64 n,.string (tx s)] fE)):=eH.new hr64;generalize h4.set r64 (.cells #[.int .i64 n,.string (tx s)] fE)=h5 at *;refine mQ dV.und dV.und fE.info fE.size fE.bytes fE.zero rfl (by decide) (O4.ext u5) Sl (by simp[gN]) (by rw[bl];simp only[jY,lU];omega) ?_;intro v6 h6 F6 O6 u6 g6 _;have g6':∀b∈F6,h2 b=none:=λb hb=>by
      rcases g6 b hb with e|e
      ·exact g4' b e
      ·exact(e4.trans u5).none e
     have e6:eM h2 h6:=(e4.trans u5).fresh u6 g4';have en:n=((n.toNat:Nat):Int):=by omega
     have O6:fY h6 fE 2 v6 ((d.buf++[(n.toNat,s)]).map tI) F6:=by
      rw[xX];have:tI (n.toNat,s)=[.int .i64 n,.string (tx s)]:=by unfold tI;simp only;rw[←en]
      rw[jF,kF,this];exact O6
     have n6:r∉F6:=λhm=>B2.known (g6' r hm);refine dV.put (B2.ext e6) (o:=3) (by show 3<5;decide) O6.slR.isc λh7 B7 u7=>?_;have ha:=D.arm;refine hk h7 (r::F6) ⟨⟨v6,F6,rfl,B7,O6.upd u7 (lL n6),n6⟩,hok,by show d.arm-1<_;omega⟩ (st2.trans ⟨?_,?_⟩)
     ·rw[eF];exact(e6.upd.trans (u7.mono λb hb=>.inl (by simp only[jI] at hb;simp[hb])))
     ·intro b hb;rw[eF];rcases jW.1 hb with rfl|hb
      ·exact .inl (by simp)
      ·exact .inr (g6' b hb)
   ·have q2:((s.length:Int) !=(d.size:Int))=true:=by rw[bne_iff_ne];omega
    simp only[g,dQ.f0,dQ.f1,aR.load,L.sectors,L.size,g1,jS,fZ,q2,dF,reduceIte,dM,Nat.reduceAdd];exact bad (.inr (.inr c2))
def aVE{st:List Tx}{n size:Nat}{s:Tx}(hx:∀s∈st,s.length=size)(hn:n<st.length)(hs:s.length=size):st.set n (s++(st.getD n []).drop s.length)=st.set n s:=by
 have hl:=hx _ (aIQ hn);rw[aCz,lG hn,Option.getD_some,zO (by omega),zLQ]
def aNR{h:PH}{r:Nat}{d:Dk}{F:List Nat}(D:pI r d h F)(hb:d.buf.length≤1000000){k:dI}(hk:∀h' F',pI r d.fl.1 h' F'->fT h F h' F'->k (.int .i64 d.fl.2) h'):bR PG sD #[pT r 0] h k:=by
 apply oU.call;unfold oU;have hok:=D.ok.fl;have hz:=D.ok.size;unfold iB at hz;unfold Dk.fl at hk hok;refine aOg D λh1 D1 u1=>?_;have st1:fT h F h1 F:=⟨u1,λb hb=>.inl hb⟩;by_cases c:d.arm=1
 ·rw[if_pos c] at hk;simp only[c,decide_true,dF,reduceIte,dM,Nat.reduceAdd];exact hk h1 F D1 st1
 ·rw[if_neg c] at hk hok;obtain⟨bv,Fb,eF,B,W,n1⟩:=D1.here;have B:Bx h1 r [.int .i64 (d.size:Int),.int .i64 (d.sectors:Int),.string (tx d.st.flatten),bv,.int .i64 ((d.arm-1:Nat):Int)]:=B;have W:fY h1 fE 2 bv (d.buf.map tI) Fb:=W;simp only[c,decide_false,dF,reduceIte,dM,Nat.reduceAdd];refine⟨λvs h'=>∃i:Nat,i≤d.buf.length∧vs=[pT r 0,.int .i64 (i:Int)]∧Bx h' r [.int .i64 (d.size:Int),.int .i64 (d.sectors:Int),.string (tx (mV d.st (d.buf.take i)).flatten),bv,.int .i64 ((d.arm-1:Nat):Int)]∧eH [r] h1 h',gT d.buf.length 1,⟨0,by omega,rfl,B,eH.refl⟩,?_⟩;rintro ρ h' ⟨i,hi,hvs,B2,w⟩;simp only[jF,kF,lT,and_true] at hvs;obtain⟨x0,x3⟩:=hvs;unfold aCk;rw[x0,x3];have W2:=W.upd w (lL n1);have cb:eA h' ⟨r,0+3,none⟩=some bv:=B2.cell 3;by_cases hlt:i<d.buf.length
  ·have g:((i:Int)<(d.buf.length:Int))=True:=eq_true (by omega);have gi:=oM (i:=i) (by omega);obtain⟨x,hx⟩:∃x,d.buf[i]? =some x:=⟨_,lG hlt⟩;have hxb:=D.ok.buf x (wE hx);obtain⟨b,o,i1,f0,f1⟩:=aR8 W2.slR hx;have ea:∀s∈mV d.st (d.buf.take i),s.length=d.size:=aGs _ _ D.ok.each (λw hw=>(D.ok.buf w (List.mem_of_mem_take hw)).2);have el:(mV d.st (d.buf.take i)).length=d.sectors:=by rw[aA2,D.ok.len]
   have hm:=D.ok.many;simp only[dQ.f3,dV.load,cb,aK6 W2.slR,g,i1,fE.f0,fE.f1,aR.load,aT.load,f0,f1,dF,reduceIte,dM,Nat.reduceAdd];refine aRA B2 ea (by omega) (by omega) hz.2 (by omega) λh3 B3 u3=>?_;rw[aVE ea (by omega) hxb.2,←aJZ hx] at B3;simp only[gi,dF,reduceIte,dM,Nat.reduceAdd];exact⟨⟨i+1,by omega,rfl,B3,w.trans u3⟩,by simp[gT,x3];omega⟩
  ·have g:((i:Int)<(d.buf.length:Int))=False:=eq_false (by omega);have ei:d.buf.take i=d.buf:=sU (by omega);rw[ei] at B2;simp only[dQ.f3,dV.load,cb,aK6 W2.slR,g,dF,reduceIte,dM,Nat.reduceAdd];refine dV.put B2 (o:=3) (by show 3<5;decide) rfl λh3 B3 u3=>?_;have ha:=D.arm;refine hk h3 (r::[]) ⟨⟨.slice none 0 0,[],rfl,B3,fY.nil,by simp⟩,hok,by show d.arm-1<_;omega⟩ (st1.trans ⟨?_,?_⟩)
   ·rw[eF];exact(w.trans u3).mono λb hb=>.inl (by simp only[jI] at hb;simp[hb])
   ·intro b hb;rw[eF];simp only[jI] at hb;exact .inl (by simp[hb])
def aXJ(vs:List Value)(_:PH):Nat:=match vs[2]? with|some (Value.int _ y)=>(y+1).toNat|_=>0
def aK9{h:PH}{r:Nat}{d:Dk}{F:List Nat}(D:pI r d h F)(n:Int)(hb:d.buf.length≤1000000){k:dI}(hk:k (.tuple #[.string (tx (d.rd n).1),.int .i64 (d.rd n).2]) h):bR PG pW #[pT r 0,.int .i64 n] h k:=by
 apply pR.call;unfold pR;obtain⟨bv,Fb,eF,B,W,n1⟩:=id D.here;have L:=DoB.of B;have hz:=D.ok.size;unfold iB at hz;unfold Dk.rd at hk;by_cases c0:n<0
 ·have g:(n<0)=True:=eq_true c0;rw[if_pos (.inl c0)] at hk;simp only[g,dF,reduceIte,dM,Nat.reduceAdd];exact hk
 ·have g:(n<0)=False:=eq_false c0;by_cases c1:(d.sectors:Int)≤n
  ·have g1:((d.sectors:Int)≤n)=True:=eq_true c1;rw[if_pos (.inr c1)] at hk;simp only[g,dQ.f1,aR.load,L.sectors,g1,dF,reduceIte,dM,Nat.reduceAdd];exact hk
  ·have g1:((d.sectors:Int)≤n)=False:=eq_false c1;rw[if_neg (by omega)] at hk;have en:n=((n.toNat:Nat):Int):=by omega
   have hn:n.toNat<d.sectors:=by omega
   obtain⟨m,hm⟩:∃m,n.toNat=m:=⟨_,rfl⟩;rw[hm] at en hn hk;subst en;have w1:IntKind.i64.wrap ((d.buf.length:Int)-1)=(d.buf.length:Int)-1:=fW (by omega) (by omega);simp only[g,dQ.f1,dQ.f3,aR.load,dV.load,L.sectors,L.buf,g1,aK6 W.slR,w1,dF,reduceIte,dM,Nat.reduceAdd];refine⟨λvs h'=>∃i:Nat,i≤d.buf.length∧vs=[pT r 0,.int .i64 (m:Int),.int .i64 ((i:Int)-1)]∧h'=h∧∀x∈d.buf.drop i,x.1≠m,aXJ,⟨d.buf.length,nQ _,rfl,rfl,by simp⟩,?_⟩;rintro ρ h' ⟨i,hi,hvs,rfl,hno⟩;simp only[jF,kF,lT,and_true] at hvs;obtain⟨x0,x1,x6⟩:=hvs;unfold aCi;rw[x0,x1,x6];have hl:m<d.st.length:=by rw[D.ok.len];exact hn
   by_cases ci:i=0
   ·subst ci;have g2:((0:Int)≤((0:Nat):Int)-1)=False:=eq_false (by decide);have hm4:=D.ok.many;have m1:(m+1)*d.size≤d.sectors*d.size:=yE _ hn;have m0:m*d.size≤(m+1)*d.size:=yE _ (Nat.le_succ _);have m2:d.sectors*d.size≤4096*512:=Nat.mul_le_mul hm4 hz.2;have w2:IntKind.i64.wrap ((m:Int)*(d.size:Int))=((m*d.size:Nat):Int):=by rw[←Int.natCast_mul,fW (by omega) (by omega)]
    have w3:=oM (i:=m) (by omega);have w4:IntKind.i64.wrap (((m+1:Nat):Int)*(d.size:Int))=(((m+1)*d.size:Nat):Int):=by rw[←Int.natCast_mul,fW (by omega) (by omega)]
    have fl:=aBK D.ok.each;rw[D.ok.len] at fl;have c:dE PG (Instr.sliceAt aT (.string (tx d.st.flatten)) (some (.int .i64 ((m*d.size:Nat):Int))) (some (.int .i64 (((m+1)*d.size:Nat):Int))) none)=some (.string (tx (d.at m))):=by
     have:=lE (P:=PG) (t:=aT) (l:=d.st.flatten) (i:=m*d.size) (j:=(m+1)*d.size) (lo:=some (.int .i64 ((m*d.size:Nat):Int))) (hi:=some (.int .i64 (((m+1)*d.size:Nat):Int))) aT.und (.inr ⟨_,rfl⟩) (.inr ⟨_,rfl⟩) m0 (by omega);rw[this,zLy,Nat.succ_mul,aCw,aRd D.ok.each hl];unfold Dk.at;rw[aK3 _ _ _ (by rw[zLb] at hno;exact hno)]
    simp only[g2,dQ.f2,dQ.f0,aT.load,aR.load,L.st,L.size,oQ,w2,w3,w4,c,dF,reduceIte,dM,Nat.reduceAdd];exact hk
   ·have g2:((0:Int)≤(i:Int)-1)=True:=eq_true (by omega);have ei:(i:Int)-1=((i-1:Nat):Int):=by omega
    obtain⟨x,hx⟩:∃x,d.buf[i-1]? =some x:=⟨_,lG (by omega)⟩;obtain⟨b,o,i1,f0,f1⟩:=aR8 W.slR hx;rw[←ei] at i1;by_cases cx:x.1=m
    ·have q:((x.1:Int)==(m:Int))=true:=by simp[cx]
     have ea:d.at m=x.2:=aQh hx cx hl (by rw[Nat.sub_add_cancel (by omega)];exact hno);simp only[g2,dQ.f3,dV.load,L.buf,i1,fE.f0,fE.f1,aR.load,aT.load,f0,f1,gX,q,dF,reduceIte,dM,Nat.reduceAdd];rw[ea] at hk;exact hk
    ·have q:((x.1:Int)==(m:Int))=false:=by rw[beq_eq_false_iff_ne];omega
     have w2:IntKind.i64.wrap ((i:Int)-1-1)=((i-1:Nat):Int)-1:=by rw[fW (by omega) (by omega)];omega
     simp only[g2,dQ.f3,dV.load,L.buf,i1,fE.f0,aR.load,f0,gX,q,w2,dF,reduceIte,dM,Nat.reduceAdd];refine⟨⟨i-1,by omega,rfl,by first|rfl|trivial,λy hy=>?_⟩,by simp[aXJ,x6];omega⟩;rw[aBE (by omega)] at hy;rcases jW.1 hy with e|hy
     ·have:d.buf[i-1]=x:=by rw[lG (by omega)] at hx;simpa using hx
      rw[e,this];exact cx
     ·rw[Nat.sub_add_cancel (by omega)] at hy;exact hno y hy
def aU9{h:PH}{r:Nat}{d:Dk}{F:List Nat}(D:pI r d h F)(n:Int)(hn:n<9223372036854775808){k:dI}(hk:∀h',pI r (d.armed n) h' F->eH F h h'->k (.tuple #[]) h'):bR PG zI #[pT r 0,.int .i64 n] h k:=by
 apply xE.call;unfold xE;obtain⟨bv,Fb,rfl,B,W,n1⟩:=id D.here;simp only[dQ.f4,dF,reduceIte,dM,Nat.reduceAdd];refine aR.put B (o:=4) (by show 4<5;decide) rfl λh2 B2 u2=>?_;have fin:∀h3,Bx h3 r [.int .i64 (d.size:Int),.int .i64 (d.sectors:Int),.string (tx d.st.flatten),bv,.int .i64 ((n.toNat:Nat):Int)]->eH [r] h h3->k (.tuple #[]) h3:=λh3 B3 u3=>
  hk h3 ⟨⟨bv,Fb,rfl,B3,W.upd u3 (lL n1),n1⟩,D.ok.armed n,by show n.toNat<_;omega⟩ (u3.mono λb hb=>.inl (by simp only[jI] at hb;simp[hb]))
 by_cases c:n<0
 ·have g:(n<0)=True:=eq_true c;have e0:(0:Int)=((n.toNat:Nat):Int):=by omega
  simp only[g,dQ.f4,dF,reduceIte,dM,Nat.reduceAdd];refine aR.put B2 (o:=4) (by show 4<5;decide) rfl λh3 B3 u3=>?_;have B3:Bx h3 r [.int .i64 (d.size:Int),.int .i64 (d.sectors:Int),.string (tx d.st.flatten),bv,.int .i64 0]:=B3;rw[e0] at B3;exact fin h3 B3 (u2.trans u3)
 ·have g:(n<0)=False:=eq_false c;have e0:n=((n.toNat:Nat):Int):=by omega
  simp only[g,dF,reduceIte,dM,Nat.reduceAdd];have B2:Bx h2 r [.int .i64 (d.size:Int),.int .i64 (d.sectors:Int),.string (tx d.st.flatten),bv,.int .i64 n]:=B2;rw[e0] at B2;exact fin h2 B2 u2
def aTq(size n:Nat):mD (size*n)=(List.replicate n (mD size)).flatten:=by
 induction n with
 | zero=>rfl
 | succ n ih=>
  rw[List.replicate_succ,aEw,←ih];unfold mD;rw[Nat.mul_succ,Nat.add_comm,List.replicate_append_replicate]
def aXU(a b:Int)(s:ByteArray):dE PG (build dQ #[(0,.int .i64 a),(1,.int .i64 b),(2,.string s)])=some (.agg #[.int .i64 a,.int .i64 b,.string s,.slice none 0 0,.int .i64 0]):=by kernel_rfl
def aUj{h:PH}(size sectors:Nat)(ok:iB size)(h1:1≤sectors)(h2:sectors≤4096){k:dI}(hk:∀h' r F,pI r (Dk.new size sectors) h' F->fX h F->eM h h'->k (pT r 0) h'):bR PG aC2 #[.int .i64 (size:Int),.int .i64 (sectors:Int)] h k:=by
 apply aCd.call;unfold aCd;have h64:=ok.1;have h512:=ok.2;have m2:size*sectors≤512*4096:=Nat.mul_le_mul h512 h2;have w1:IntKind.i64.wrap ((size:Int)*(sectors:Int))=((size*sectors:Nat):Int):=by rw[←Int.natCast_mul,fW (by omega) (by omega)]
 obtain⟨zs,hm,hzz⟩:=aFf (P:=PG) (n:=size*sectors) eJ.und eZ.info eZ.size eZ.bytes eZ.zero rfl (by decide) (by omega) (by omega);simp only[oQ,w1,hm,dF,reduceIte,dM,Nat.reduceAdd];intro r2 hr2;refine jC ?_
 try rw[dY]
 have u1:eM h (h.set r2 (.cells zs eZ (0,0))):=eH.new hr2;have O1:fY (h.set r2 (.cells zs eZ (0,0))) eZ 1 (.slice (some ⟨r2,0,none⟩) (size*sectors) (size*sectors)) ((mD (size*sectors)).map lA) [r2]:=fY.lit (e:=eZ) (size:=1) (n:=size*sectors) (λr hr=>by obtain⟨m,_,rfl⟩:=rS.1 hr;rfl) gB (by rw[jJ,xV]) (by show size*sectors≤xS;exact zLE m2 (by decide)) (by
  rw[hzz];unfold mD;rw[List.map_replicate];rfl)
 generalize h.set r2 (.cells zs eZ (0,0))=h3 at *;have hcv:=aFm eJ.und eZ.und aT.und O1.slR;simp only[hcv,aXU,dF,reduceIte,dM,Nat.reduceAdd];intro r8 hr8
 try rw[dY]
 have ef:mD (size*sectors)=(Dk.new size sectors).st.flatten:=by
  exact aTq size sectors
 rw[ef];have u4:eM h3 (h3.set r8 (.cells (Value.cells (.agg #[.int .i64 (size:Int),.int .i64 (sectors:Int),.string (tx (Dk.new size sectors).st.flatten),.slice none 0 0,.int .i64 0])) dQ)):=eH.new hr8;have B4:Bx (h3.set r8 (.cells (Value.cells (.agg #[.int .i64 (size:Int),.int .i64 (sectors:Int),.string (tx (Dk.new size sectors).st.flatten),.slice none 0 0,.int .i64 0])) dQ)) r8 [.int .i64 (size:Int),.int .i64 (sectors:Int),.string (tx (Dk.new size sectors).st.flatten),.slice none 0 0,.int .i64 0]:=Bx.new;refine hk _ r8 (r8::[]) ⟨⟨.slice none 0 0,[],rfl,B4,fY.nil,by simp⟩,Dk.new_ok ok h1 h2,by show 0<_;omega⟩ (fX.one (u1.none hr8)) (u1.trans u4)
def aEU{h:PH}(size:Nat){k:dI}(hk:k (.bool (decide (iB size))) h):bR PG oC #[.int .i64 (size:Int)] h k:=by
 apply aAa.call;unfold aAa;by_cases h1:64≤size
 ·have g1:((64:Int)≤(size:Int))=True:=eq_true (by omega);have e:decide ((size:Int)≤512)=decide (iB size):=by
   rw[yA,decide_eq_true_iff,decide_eq_true_iff];unfold iB;omega
  simp only[g1,dF,reduceIte,dM,Nat.reduceAdd];rw[e];exact hk
 ·have g1:((64:Int)≤(size:Int))=False:=eq_false (by omega);have e:decide (iB size)=false:=decide_eq_false (λx=>h1 x.1);rw[e] at hk;simp only[g1,dF,reduceIte,dM,Nat.reduceAdd];exact hk
def cvN(n:Nat)(hn:n<9223372036854775808):dE PG (convert aR dN (.int .i64 (n:Int)))=some (.int .u64 (n:Int)):=by
 rw[show dE PG (convert aR dN (.int .i64 (n:Int)))=some (.int .u64 (IntKind.u64.wrap (n:Int))) from by kernel_rfl,lJ (by omega) (by omega)]
def aQV{h:PH}(n:Nat)(hn:n≤1000000){k:dI}(hk:∀h',eM h h'->k (.string (tx (mD n))) h'):
  dA (lH PG (Instr.makeSlice eJ (.int .i64 (n:Int)) (.int .i64 (n:Int)))) λx=>∀r,h r=none->dA (dE PG (x.2 r)) λv=>fK (PH.set h r x.1) λh2=>dA (dH PG h2 (convert eJ aT v)) λw=>k w h2:=by
 obtain⟨zs,hm,hzz⟩:=aFf (P:=PG) (n:=n) eJ.und eZ.info eZ.size eZ.bytes eZ.zero rfl (by decide) (by omega) (by omega);rw[hm,jQ];intro r2 hr2;refine jC ?_
 try rw[dY]
 have u1:eM h (h.set r2 (.cells zs eZ (0,0))):=eH.new hr2;have O1:fY (h.set r2 (.cells zs eZ (0,0))) eZ 1 (.slice (some ⟨r2,0,none⟩) n n) ((mD n).map lA) [r2]:=fY.lit (e:=eZ) (size:=1) (n:=n) (λr hr=>by obtain⟨m,_,rfl⟩:=rS.1 hr;rfl) gB (by rw[jJ,xV]) (zLE hn (by decide)) (by
  rw[hzz];unfold mD;rw[List.map_replicate];rfl)
 have hcv:=aFm eJ.und eZ.und aT.und O1.slR;rw[hcv,jQ];exact hk _ u1
set_option maxHeartbeats 1000000 in
def aMy{h:PH}(size gen ser part parts:Nat)(s:Tx)(ok:iB size)(g1:gen<18446744073709551616)(g2:ser<18446744073709551616)(g3:part<1000000)(g4:parts<1000000)(hs:s.length+25≤size){k:dI}(hk:∀h',eM h h'->k (.string (tx (pJ size gen ser part parts s))) h'):bR PG vO #[.int .i64 (size:Int),.int .u64 (gen:Int),.int .u64 (ser:Int),.int .i64 (part:Int),.int .i64 (parts:Int),.string (tx s)] h k:=by
 apply aAD.call;unfold aAD;have h512:=ok.2;have e82:(⟨#[82]⟩:ByteArray)=tx [82]:=rfl;rw[e82];refine nO (n:=gen) (c:=8) g1 (by decide) λh1 u1=>?_;have a1:dE PG (binOp .add aT (.string (tx [82])) (.string (tx (be gen 8))))=some (.string (tx ([82]++be gen 8))):=kZ (by simp[iZ]);simp only[a1,jQ,zPP];refine nO (n:=ser) (c:=8) g2 (by decide) λh2 u2=>?_;have a2:dE PG (binOp .add aT (.string (tx ([82]++be gen 8))) (.string (tx (be ser 8))))=some (.string (tx ([82]++be gen 8++be ser 8))):=kZ (by simp[iZ]);simp only[a2,cvN part (by omega),jQ,zPP];refine nO (n:=part) (c:=1) (by omega) (by decide) λh3 u3=>?_;have a3:dE PG (binOp .add aT (.string (tx ([82]++be gen 8++be ser 8))) (.string (tx (be part 1))))=some (.string (tx ([82]++be gen 8++be ser 8++be part 1))):=kZ (by simp[iZ]);simp only[a3,cvN parts (by omega),jQ,zPP];refine nO (n:=parts) (c:=1) (by omega) (by decide) λh4 u4=>?_;have a4:dE PG (binOp .add aT (.string (tx ([82]++be gen 8++be ser 8++be part 1))) (.string (tx (be parts 1))))=some (.string (tx ([82]++be gen 8++be ser 8++be part 1++be parts 1))):=kZ (by simp[iZ]);simp only[a4,jS,cvN s.length (by omega),jQ,zPP];refine nO (n:=s.length) (c:=2) (by omega) (by decide) λh5 u5=>?_;have a5:dE PG (binOp .add aT (.string (tx ([82]++be gen 8++be ser 8++be part 1++be parts 1))) (.string (tx (be s.length 2))))=some (.string (tx ([82]++be gen 8++be ser 8++be part 1++be parts 1++be s.length 2))):=kZ (by simp[iZ]);have a6:dE PG (binOp .add aT (.string (tx ([82]++be gen 8++be ser 8++be part 1++be parts 1++be s.length 2))) (.string (tx s)))=some (.string (tx ([82]++be gen 8++be ser 8++be part 1++be parts 1++be s.length 2++s))):=kZ (by simp[iZ];omega);have hl:([82]++be gen 8++be ser 8++be part 1++be parts 1++be s.length 2++s).length=21+s.length:=by simp[iZ];omega
 have w1:IntKind.i64.wrap ((size:Int)-4)=(size:Int)-4:=fW (by omega) (by omega);have w2:IntKind.i64.wrap ((size:Int)-4-((21+s.length:Nat):Int))=((size-25-s.length:Nat):Int):=by rw[fW (by omega) (by omega)];omega
 simp only[a5,a6,aK1,w1,jS,hl,w2,jQ,zPP];refine aQV (size-25-s.length) (by omega) λh6 u6=>?_;have eb: [82]++be gen 8++be ser 8++be part 1++be parts 1++be s.length 2++s++mD (size-25-s.length)=oL size gen ser part parts s:=by
  unfold oL;simp only[xN]
 have a7:dE PG (binOp .add aT (.string (tx ([82]++be gen 8++be ser 8++be part 1++be parts 1++be s.length 2++s))) (.string (tx (mD (size-25-s.length)))))=some (.string (tx (oL size gen ser part parts s))):=by
  rw[←eb];exact kZ (by rw[hl,xV];omega)
 simp only[a7,jQ,zPP];refine aMe _ (by rw[aGz hs];omega) λh7 u7=>?_;exact hk h7 ((((((u1.trans u2).trans u3).trans u4).trans u5).trans u6).trans u7)
def aSn{size n:Nat}(ok:iB size)(h:n≤4096):fD size n=if size-25<n then 1+fD size (n-(size-25)) else 1:=by
 have h64:=ok.1;obtain⟨room,hr⟩:∃room,size-25=room:=⟨_,rfl⟩;have e:∀m,m≤4096->fD size m=max 1 ((m+room-1)/room):=λm hm=>by unfold fD;rw[if_pos ⟨ok,hm⟩,hr]
 rw[e n h,hr];have hroom:0<room:=by omega
 by_cases c:room<n
 ·rw[if_pos c,e _ (by omega)];have h1:(n+room-1)/room=(n-room+room-1)/room+1:=by
   rw[show n+room-1=(n-room+room-1)+room by omega,Nat.add_div_right _ hroom]
  have h2:1≤(n-room+room-1)/room:=by
   rw[Nat.le_div_iff_mul_le hroom];omega
  rw[h1];omega
 ·rw[if_neg c];have:(n+room-1)/room≤1:=by
   have:(n+room-1)/room<2:=by rw[Nat.div_lt_iff_lt_mul hroom];omega
   omega
  omega
def aXD(vs:List Value)(_:PH):Nat:=match vs[1]? with|some (Value.int _ y)=>y.toNat|_=>0
def aLX{h:PH}(size n:Nat)(hn:n<1000000000){k:dI}(hk:k (.int .i64 (fD size n:Int)) h):bR PG tC #[.int .i64 (size:Int),.int .i64 (n:Int)] h k:=by
 apply aAc.call;unfold aAc;refine aEU size ?_;by_cases ok:iB size
 ·have h64:=ok.1;have h512:=ok.2;have g1:((n:Int)<0)=False:=eq_false (by omega);by_cases c:4096<n
  ·have g2:((4096:Int)<(n:Int))=True:=eq_true (by omega);have e:fD size n=0:=(yQ ok).2 c;rw[e] at hk;simp only[ok,decide_true,g1,g2,dF,reduceIte,dM,Nat.reduceAdd];exact hk
  ·have g2:((4096:Int)<(n:Int))=False:=eq_false (by omega);simp only[ok,decide_true,g1,g2,dF,reduceIte,dM,Nat.reduceAdd];refine⟨λvs h'=>∃m i:Nat,m≤n∧i+n≤5000+n∧vs=[.int .i64 (size:Int),.int .i64 (m:Int),.int .i64 (i:Int)]∧h'=h∧fD size n+1=fD size m+i∧1≤i∧i+m≤n+1,aXD,⟨n,1,nQ _,by omega,rfl,rfl,by omega,by omega,by omega⟩,?_⟩;rintro ρ h' ⟨m,i,hm,hi0,hvs,rfl,hp,hi,him⟩;simp only[jF,kF,lT,and_true] at hvs;obtain⟨x0,x1,x5⟩:=hvs;unfold aEJ;rw[x0,x1,x5];have w1:IntKind.i64.wrap ((size:Int)-25)=((size-25:Nat):Int):=by rw[fW (by omega) (by omega)];omega
   have hst:=aSn (n:=m) ok (by omega);by_cases cm:size-25<m
   ·have g3:(((size-25:Nat):Int)<(m:Int))=True:=eq_true (by omega);have w2:=oM (i:=i) (by omega);have w3:IntKind.i64.wrap ((m:Int)-((size-25:Nat):Int))=((m-(size-25):Nat):Int):=by rw[fW (by omega) (by omega)];omega
    rw[if_pos cm] at hst;simp only[w1,g3,w2,w3,dF,reduceIte,dM,Nat.reduceAdd];exact⟨⟨m-(size-25),i+1,by omega,by omega,rfl,by first|rfl|trivial,by omega,by omega,by omega⟩,by simp[aXD,x1];omega⟩
   ·have g3:(((size-25:Nat):Int)<(m:Int))=False:=eq_false (by omega);rw[if_neg cm] at hst;have:i=fD size n:=by omega
    simp only[w1,g3,dF,reduceIte,dM,Nat.reduceAdd];rw[this];exact hk
 ·have e:fD size n=0:=by unfold fD;rw[if_neg (λx=>ok x.1)]
  rw[e] at hk;simp only[ok,decide_false,dF,reduceIte,dM,Nat.reduceAdd];exact hk
def aOM{h:PH}(size gen ser:Nat)(s:Tx)(ok:iB size)(g1:gen<18446744073709551616)(g2:ser<18446744073709551616)(hl:s.length≤1000000){k:dI}
  (hk:∀h' v F,fY h' aT 1 v ((hY size gen ser s).map jX) F->fX h F->eM h h'->k (.tuple #[v,.int .i64 (if fD size s.length=0 then 1 else 0)]) h'):bR PG xK #[.int .i64 (size:Int),.int .u64 (gen:Int),.int .u64 (ser:Int),.string (tx s)] h k:=by
 apply aAj.call;unfold aAj;have h64:=ok.1;have h512:=ok.2;simp only[jS,dF,reduceIte,dM,Nat.reduceAdd];refine aLX size s.length (by omega) ?_;by_cases c0:fD size s.length=0
 ·have q0:(((fD size s.length:Nat):Int)==0)=true:=by rw[c0];rfl
  simp only[gX,q0,dF,reduceIte,dM,Nat.reduceAdd];have:=hk h (.slice none 0 0) [] (by
   have:hY size gen ser s=[]:=by unfold hY;rw[c0];rfl
   rw[this];exact fY.nil) (λb hb=>by cases hb) eH.refl
  rw[if_pos c0] at this;exact this
 ·have q0:(((fD size s.length:Nat):Int)==0)=false:=by rw[beq_eq_false_iff_ne];omega
  have hs:s.length≤4096:=by
   have:=(yQ (n:=s.length) ok).2;omega
  rw[if_neg c0] at hk;simp only[gX,q0,dF,reduceIte,dM,Nat.reduceAdd];refine⟨λvs h'=>∃(i:Nat) (v:Value) (G:List Nat),i≤fD size s.length∧vs=[.int .i64 (size:Int),.int .u64 (gen:Int),.int .u64 (ser:Int),.string (tx s),.int .i64 (fD size s.length:Int),v,.int .i64 (i:Int)]∧fY h' aT 1 v (((hY size gen ser s).take i).map jX) G∧fX h G∧eM h h',gT (fD size s.length) 6,⟨0,.slice none 0 0,[],by omega,rfl,fY.nil,(λb hb=>by cases hb),eH.refl⟩,?_⟩;rintro ρ h' ⟨i,v,G,hi,hvs,O,fG,w⟩;simp only[jF,kF,lT,and_true] at hvs;obtain⟨x0,x1,x2,x3,x10,x11,x12⟩:=hvs;unfold aFK;rw[x0,x1,x2,x3,x10,x11,x12];have hpm:fD size s.length≤5000:=by
   unfold fD;split
   ·have:(s.length+(size-25)-1)/(size-25)≤s.length+(size-25)-1:=Nat.div_le_self _ _;omega
   ·omega
  by_cases hlt:i<fD size s.length
  ·have g:((i:Int)<(fD size s.length:Int))=True:=eq_true (by omega);have him:i*(size-25)≤5000*512:=Nat.mul_le_mul (by omega) (by omega);have him1:(i+1)*(size-25)≤5001*512:=Nat.mul_le_mul (by omega) (by omega);have hsm:(i+1)*(size-25)=i*(size-25)+(size-25):=Nat.succ_mul _ _;have w1:IntKind.i64.wrap ((size:Int)-25)=((size-25:Nat):Int):=by rw[fW (by omega) (by omega)];omega
   have w2:IntKind.i64.wrap ((i:Int)*((size-25:Nat):Int))=((i*(size-25):Nat):Int):=by rw[←Int.natCast_mul,fW (by omega) (by omega)]
   have w3:=oM (i:=i) (by omega);have w4:IntKind.i64.wrap (((i+1:Nat):Int)*((size-25:Nat):Int))=(((i+1)*(size-25):Nat):Int):=by rw[←Int.natCast_mul,fW (by omega) (by omega)]
   have hfront:i*(size-25)≤s.length:=by
    by_cases c:i=0
    ·subst c;omega
    ·have:=aDs (k:=i-1) ok hs (by omega);rw[Nat.sub_add_cancel (by omega)] at this;omega
   have hfr:(hY size gen ser s)[i]? =some (pJ size gen ser i (fD size s.length) (kK (size-25) s i)):=by
    unfold hY;rw[xB,List.getElem?_range hlt];rfl
   have hpl:=(aHM ok hs hlt).1;have tail:∀m:Nat,i*(size-25)≤m->m≤s.length->(s.take m).drop (i*(size-25))=kK (size-25) s i->vS k (λvs h'=>(∃(i:Nat) (v:Value) (G:List Nat),i≤fD size s.length∧vs=[.int .i64 (size:Int),.int .u64 (gen:Int),.int .u64 (ser:Int),.string (tx s),.int .i64 (fD size s.length:Int),v,.int .i64 (i:Int)]∧fY h' aT 1 v (((hY size gen ser s).take i).map jX) G∧fX h G∧eM h h')∧gT (fD size s.length) 6 vs h'<gT (fD size s.length) 6 ([0,1,2,3,10,11,12].map ρ) h') (.int .i64 (size:Int)) (.int .u64 (gen:Int)) (.int .u64 (ser:Int)) (.string (tx s)) (.int .i64 (fD size s.length:Int)) v (.int .i64 (i:Int)) (.int .i64 ((i*(size-25):Nat):Int)) (.int .i64 (m:Int)) h':=by
    intro m hm1 hm2 hm3;unfold vS;have c1:dE PG (Instr.sliceAt aT (.string (tx s)) (some (.int .i64 ((i*(size-25):Nat):Int))) (some (.int .i64 (m:Int))) none)=some (.string (tx (kK (size-25) s i))):=by
     have:=lE (P:=PG) (t:=aT) (l:=s) (i:=i*(size-25)) (j:=m) (lo:=some (.int .i64 ((i*(size-25):Nat):Int))) (hi:=some (.int .i64 (m:Int))) aT.und (.inr ⟨_,rfl⟩) (.inr ⟨_,rfl⟩) hm1 hm2;rw[this,hm3]
    simp only[c1,dF,reduceIte,dM,Nat.reduceAdd];refine aMy size gen ser i (fD size s.length) _ ok g1 g2 (by omega) (by omega) hpl λh2 u2=>?_;simp only[aGo,dF,reduceIte,dM,Nat.reduceAdd];intro r20 hr20;refine jC ?_
    try rw[dY]
    have O3:=aG7 (h:=h2) (r:=r20) (pJ size gen ser i (fD size s.length) (kK (size-25) s i));have u3:eM h2 (h2.set r20 (.cells #[.string (tx (pJ size gen ser i (fD size s.length) (kK (size-25) s i)))] aT)):=eH.new hr20;generalize h2.set r20 (.cells #[.string (tx (pJ size gen ser i (fD size s.length) (kK (size-25) s i)))] aT)=h3 at *;have fl:=kQ size gen ser s;refine mQ eB.und eB.und aT.info aT.size aT.bytes aT.zero rfl (by decide) ((O.ext u2).ext u3) O3.slR (by simp[jX,gN]) (by rw[jJ,mT];simp only[jY,lU,jJ];omega) ?_;intro v4 h4 G4 O4 u4 g4 _;simp only[w3,dF,reduceIte,dM,Nat.reduceAdd];have e3:=(w.trans u2).trans u3;refine⟨⟨i+1,v4,G4,by omega,rfl,?_,λb hb=>?_,e3.fresh u4 fG⟩,by simp[gT,x12];omega⟩
    ·rw[zLR,hfr,xX];exact O4
    ·rcases g4 b hb with e|e
     ·exact fG b e
     ·exact e3.none e
   by_cases cc:s.length<(i+1)*(size-25)
   ·have g2:((s.length:Int)<(((i+1)*(size-25):Nat):Int))=True:=eq_true (by omega);simp only[g,w1,oQ,w2,w3,w4,jS,g2,dF,reduceIte,dM,Nat.reduceAdd];refine tail s.length hfront (nQ _) ?_;unfold kK;rw[zLJ,sU (by rw[kD];omega)]
   ·have g2:((s.length:Int)<(((i+1)*(size-25):Nat):Int))=False:=eq_false (by omega);simp only[g,w1,oQ,w2,w3,w4,jS,g2,dF,reduceIte,dM,Nat.reduceAdd];refine tail _ (by omega) (by omega) ?_;unfold kK;rw[zLy,hsm,aCw]
  ·have g:((i:Int)<(fD size s.length:Int))=False:=eq_false (by omega);have et:(hY size gen ser s).take i=hY size gen ser s:=sU (by rw[kQ];omega);rw[et] at O;simp only[g,dF,reduceIte,dM,Nat.reduceAdd];exact hk h' v G O fG w
def aDz:dE PG (build dL #[])=some lM.zero.v:=by kernel_rfl
def aW9(a b c d:Int):dE PG (build dL #[(0,.int .u64 a),(1,.int .u64 b),(2,.int .i64 c),(3,.int .i64 d)])=some (.agg #[.int .u64 a,.int .u64 b,.int .i64 c,.int .i64 d,.string (tx [])]):=by kernel_rfl
def aN5{h:PH}{r:Nat}{x:lM}(B:Bx h r x.cells):dH PG h (loadAt dL (pT r 0))=some x.v:=dL.agg B (by show 0+5≤5;decide)
def aJ3{s:Tx}{n:Nat}{b:UInt8}(h:s[n]? =some b):mJ ((s.drop n).take 1)=b.toNat:=by
 have:(s.drop n).take 1=[b]:=by
  obtain⟨hl,e⟩:=zLA.1 h;rw[aBE hl,e];rfl
 rw[this];simp[mJ]
def aS6{s:Tx}{n:Nat}{a b:UInt8}(h:s[n]? =some a)(h2:s[n+1]? =some b):mJ ((s.drop n).take 2)=a.toNat*256+b.toNat:=by
 have:(s.drop n).take 2=[a,b]:=by
  obtain⟨hl,e⟩:=zLA.1 h;obtain⟨hl2,e2⟩:=zLA.1 h2;rw[aBE hl,e,aBE hl2,e2];rfl
 rw[this];simp[mJ]
def aHg(b:UInt8):dE PG (convert eZ aR (.int .u8 (b.toNat:Int)))=some (.int .i64 (b.toNat:Int)):=by
 rw[show dE PG (convert eZ aR (.int .u8 (b.toNat:Int)))=some (.int .i64 (IntKind.i64.wrap (b.toNat:Int))) from by kernel_rfl];have:=b.toNat_lt;rw[fW (by omega) (by omega)]
def lM.noB(f:lM):lM:=⟨f.gen,f.ser,f.part,f.parts,[]⟩
def aRE(s:Tx)(i:Nat):mJ ((s.drop i).take 8)<18446744073709551616:=by
 have:=aJm ((s.drop i).take 8);have h2:((s.drop i).take 8).length≤8:=by rw[mT];omega
 have h3:256^((s.drop i).take 8).length≤256^8:=aNb (by decide) h2;omega
def aOx{h0 h:PH}{r1 r34:Nat}{size least:Nat}{s:Tx}(ok:iB size)(hl:s.length=size)(hs:pH s=true)(h1:¬(size-25<lI s∨jA s≤kM s))(h2:¬aGf size (rJ s))(hle:least=aFW size (rJ s))(Z1:Bx h r1 lM.zero.cells)(B:Bx h r34 (rJ s).cells)(hp:jA s<256)(htl:(nH s).length=lI s)(w:eM h0 h)(f1:h0 r1=none){k:dI}
  (hk:∀h',eM h0 h'->k (.tuple #[(yI size s).1.v,.int .i64 (yI size s).2]) h'):pN k (.int .i64 (size:Int)) (.string (tx s)) (pT r1 0) (pT r34 0) (.int .i64 (least:Int)) h:=by
 unfold pN;have h512:=ok.2;have er:yI size s=if 4096<aFW size (rJ s)∨pJ size (aBl s) (aBu s) (kM s) (jA s) (nH s)≠s then(lM.zero,5) else(rJ s,0):=by
  unfold yI;rw[if_neg (by simpa using ok),if_neg (by simpa using hl),if_neg (by rw[hs];decide),if_neg h1,if_neg h2]
 rw[er,←hle] at hk;have fin:∀{h':PH} (f:lM) (e:Int),(∀h',eM h0 h'->k (.tuple #[f.v,.int .i64 e]) h')->Bx h' r1 lM.zero.cells->eM h0 h'->dT PG (dX dL (pT r1 0) f.v) h' λ_ h8=>dA (dH PG h8 (loadAt dL (pT r1 0))) λv9=>k (.tuple #[v9,.int .i64 e]) h8:=by
  intro h' f e hk B w;refine dL.put B (vs:=f.cells) (o:=0) rfl (by show 0+5≤5;decide) f.isC λh2 B2 u2=>?_;have B2:Bx h2 r1 f.cells:=B2;simp only[aN5 B2,jQ,zPP];exact hk h2 (w.fresh u2 (fX.one f1))
 by_cases c1:4096<least
 ·have g1:((4096:Int)<(least:Int))=True:=eq_true (by omega);rw[if_pos (.inl c1)] at hk;simp only[g1,aDz,dF,reduceIte,dM,Nat.reduceAdd];exact fin lM.zero 5 hk Z1 w
 ·have g1:((4096:Int)<(least:Int))=False:=eq_false (by omega);have b0:eA h ⟨r34,0,none⟩=some (.int .u64 (aBl s:Int)):=B.cell 0;have b1:eA h ⟨r34,0+1,none⟩=some (.int .u64 (aBu s:Int)):=B.cell 1;have b2:eA h ⟨r34,0+2,none⟩=some (.int .i64 (kM s:Int)):=B.cell 2;have b3:eA h ⟨r34,0+3,none⟩=some (.int .i64 (jA s:Int)):=B.cell 3;have b4:eA h ⟨r34,0+4,none⟩=some (.string (tx (nH s))):=B.cell 4;simp only[g1,dL.f0,dL.f1,dL.f2,dL.f3,dL.f4,dN.load,aR.load,aT.load,b0,b1,b2,b3,b4,dF,reduceIte,dM,Nat.reduceAdd];have h64:=ok.1;refine aMy size (aBl s) (aBu s) (kM s) (jA s) (nH s) ok (aRE s 1) (aRE s 9) (by omega) (by omega) (by omega) λh2 u2=>?_;by_cases c2:pJ size (aBl s) (aBu s) (kM s) (jA s) (nH s)=s
  ·have q:decide (pJ size (aBl s) (aBu s) (kM s) (jA s) (nH s)=s)=true:=decide_eq_true c2;rw[if_neg (by rintro(a|a);exact c1 a;exact a c2)] at hk;simp only[aKY,q,aN5 (B.ext u2),dF,reduceIte,dM,Nat.reduceAdd];exact fin (rJ s) 0 hk (Z1.ext u2) (w.trans u2)
  ·have q:decide (pJ size (aBl s) (aBu s) (kM s) (jA s) (nH s)=s)=false:=decide_eq_false c2;rw[if_pos (.inr c2)] at hk;simp only[aKY,q,aDz,dF,reduceIte,dM,Nat.reduceAdd];exact fin lM.zero 5 hk (Z1.ext u2) (w.trans u2)
def aTs{h:PH}(size:Nat)(s:Tx)(hs:s.length≤1000000){k:dI}(hk:∀h',eM h h'->k (.tuple #[(yI size s).1.v,.int .i64 (yI size s).2]) h'):bR PG aCY #[.int .i64 (size:Int),.string (tx s)] h k:=by
 apply tW.call;unfold tW;intro r1 hr1
 try rw[dY]
 have Z1:Bx (h.set r1 (.cells (eX PG dL) dL)) r1 lM.zero.cells:=dL.zbox;have u1:eM h (h.set r1 (.cells (eX PG dL) dL)):=eH.new hr1;generalize h.set r1 (.cells (eX PG dL) dL)=h1 at *;have fin:∀{h':PH} (e:Int),yI size s=(lM.zero,e)->Bx h' r1 lM.zero.cells->eM h h'->dT PG (dX dL (pT r1 0) lM.zero.v) h' λ_ h8=>dA (dH PG h8 (loadAt dL (pT r1 0))) λv9=>k (.tuple #[v9,.int .i64 e]) h8:=by
  intro h' e he B w;refine dL.put B (vs:=lM.zero.cells) (o:=0) rfl (by show 0+5≤5;decide) lM.zero.isC λh2 B2 u2=>?_;have B2:Bx h2 r1 lM.zero.cells:=B2;simp only[aN5 B2,jQ,zPP];have:=hk h2 (w.fresh u2 (fX.one hr1));rw[he] at this;exact this
 refine aEU size ?_;by_cases ok:iB size
 ·have h64:=ok.1;have h512:=ok.2;by_cases hl:s.length=size
  ·have q:((s.length:Int) !=(size:Int))=false:=by simp[hl]
   simp only[ok,decide_true,jS,fZ,q,dF,reduceIte,dM,Nat.reduceAdd];refine aOI s hs λh4 u4=>?_;have e4:=u1.trans u4;cases hsl:pH s with
   | false=>
    have er:yI size s=(lM.zero,8):=by unfold yI;rw[if_neg (by simpa using ok),if_neg (by simpa using hl),if_pos hsl]
    simp only[aDz,dF,reduceIte,dM,Nat.reduceAdd];exact fin 8 er (Z1.ext u4) e4
   | true=>
    have c1:dE PG (Instr.sliceAt aT (.string (tx s)) (some (.int .i64 1)) (some (.int .i64 9)) none)=some (.string (tx ((s.drop 1).take 8))):=by
     have:=lE (P:=PG) (t:=aT) (l:=s) (i:=1) (j:=9) (lo:=some (.int .i64 1)) (hi:=some (.int .i64 9)) aT.und (.inr ⟨_,rfl⟩) (.inr ⟨_,rfl⟩) (by omega) (by omega);rw[this,zLy]
    have c2:dE PG (Instr.sliceAt aT (.string (tx s)) (some (.int .i64 9)) (some (.int .i64 17)) none)=some (.string (tx ((s.drop 9).take 8))):=by
     have:=lE (P:=PG) (t:=aT) (l:=s) (i:=9) (j:=17) (lo:=some (.int .i64 9)) (hi:=some (.int .i64 17)) aT.und (.inr ⟨_,rfl⟩) (.inr ⟨_,rfl⟩) (by omega) (by omega);rw[this,zLy]
    obtain⟨b17,hb17⟩:∃b,s[17]? =some b:=⟨_,lG (by omega)⟩;obtain⟨b18,hb18⟩:∃b,s[18]? =some b:=⟨_,lG (by omega)⟩;obtain⟨b19,hb19⟩:∃b,s[19]? =some b:=⟨_,lG (by omega)⟩;obtain⟨b20,hb20⟩:∃b,s[20]? =some b:=⟨_,lG (by omega)⟩;have i17:dE PG (Instr.index aT (.string (tx s)) (.int .i64 17))=some (.int .u8 b17.toNat):=oZ (j:=17) aT.und hb17;have i18:dE PG (Instr.index aT (.string (tx s)) (.int .i64 18))=some (.int .u8 b18.toNat):=oZ (j:=18) aT.und hb18;have i19:dE PG (Instr.index aT (.string (tx s)) (.int .i64 19))=some (.int .u8 b19.toNat):=oZ (j:=19) aT.und hb19;have i20:dE PG (Instr.index aT (.string (tx s)) (.int .i64 20))=some (.int .u8 b20.toNat):=oZ (j:=20) aT.und hb20;have d17:kM s=b17.toNat:=aJ3 hb17;have d18:jA s=b18.toNat:=aJ3 hb18;have d19:lI s=b19.toNat*256+b20.toNat:=aS6 hb19 hb20;have l17:=b17.toNat_lt;have l18:=b18.toNat_lt;have l19:=b19.toNat_lt;have l20:=b20.toNat_lt;have w1:IntKind.i64.wrap ((b19.toNat:Int)*256)=((b19.toNat*256:Nat):Int):=by rw[fW (by omega) (by omega)];omega
    have w2:IntKind.i64.wrap (((b19.toNat*256:Nat):Int)+(b20.toNat:Int))=(lI s:Int):=by rw[fW (by omega) (by omega)];omega
    have w3:IntKind.i64.wrap ((size:Int)-25)=((size-25:Nat):Int):=by rw[fW (by omega) (by omega)];omega
    simp only[c1,c2,i17,i18,aHg,dF,reduceIte,dM,Nat.reduceAdd];refine aB9 (by rw[mT];omega) ?_;refine aB9 (by rw[mT];omega) ?_;rw[←d17,←d18];show dA (dE PG (build dL #[(0,.int .u64 (aBl s:Int)),(1,.int .u64 (aBu s:Int)),(2,.int .i64 (kM s:Int)),(3,.int .i64 (jA s:Int))])) _;simp only[aW9,jQ,zPP];intro r34 hr34
    try rw[dY]
    refine dL.fill (vs:=(rJ s).noB.cells) hr34 rfl (rJ s).noB.isC λh5 B5 u5=>?_;have e5:=e4.trans u5;have Z5:=(Z1.ext u4).ext u5;have n1:r34≠r1:=λe=>(Z1.ext u4).known (e▸hr34);have b2:eA h5 ⟨r34,0+2,none⟩=some (.int .i64 (kM s:Int)):=B5.cell 2;have b3:eA h5 ⟨r34,0+3,none⟩=some (.int .i64 (jA s:Int)):=B5.cell 3;have er1:yI size s=if size-25<lI s∨jA s≤kM s then(lM.zero,5)
      else if aGf size (rJ s) then(lM.zero,5)
      else if 4096<aFW size (rJ s)∨pJ size (aBl s) (aBu s) (kM s) (jA s) (nH s)≠s then(lM.zero,5)
      else(rJ s,0):=by
     unfold yI;rw[if_neg (by simpa using ok),if_neg (by simpa using hl),if_neg (by rw[hsl];decide)]
    by_cases k1:size-25<lI s
    ·have g1:(((size-25:Nat):Int)<(lI s:Int))=True:=eq_true (by omega);rw[if_pos (.inl k1)] at er1;simp only[i19,i20,aHg,oQ,w1,w2,w3,g1,aDz,dF,reduceIte,dM,Nat.reduceAdd];exact fin 5 er1 Z5 e5
    ·have g1:(((size-25:Nat):Int)<(lI s:Int))=False:=eq_false (by omega);by_cases k2:jA s≤kM s
     ·have g2:((jA s:Int)≤(kM s:Int))=True:=eq_true (by omega);rw[if_pos (.inr k2)] at er1;simp only[i19,i20,aHg,oQ,w1,w2,w3,g1,dL.f2,dL.f3,aR.load,b2,b3,g2,aDz,dF,reduceIte,dM,Nat.reduceAdd];exact fin 5 er1 Z5 e5
     ·have g2:((jA s:Int)≤(kM s:Int))=False:=eq_false (by omega);rw[if_neg (by omega)] at er1;have w4:IntKind.i64.wrap ((21:Int)+(lI s:Int))=((21+lI s:Nat):Int):=by rw[fW (by omega) (by omega)];omega
      have c3:dE PG (Instr.sliceAt aT (.string (tx s)) (some (.int .i64 21)) (some (.int .i64 ((21+lI s:Nat):Int))) none)=some (.string (tx (nH s))):=by
       have:=lE (P:=PG) (t:=aT) (l:=s) (i:=21) (j:=21+lI s) (lo:=some (.int .i64 21)) (hi:=some (.int .i64 ((21+lI s:Nat):Int))) aT.und (.inr ⟨_,rfl⟩) (.inr ⟨_,rfl⟩) (by omega) (by omega);rw[this,zLy,aCw];rfl
      have htl:(nH s).length=lI s:=by unfold nH;rw[mT,kD];omega
      simp only[i19,i20,aHg,oQ,w1,w2,w3,g1,dL.f2,dL.f3,dL.f4,aR.load,b2,b3,g2,w4,c3,dF,reduceIte,dM,Nat.reduceAdd];refine aT.put B5 (o:=4) (by show 4<5;decide) rfl λh6 B6 u6=>?_;have B6:Bx h6 r34 (rJ s).cells:=B6;have Z6:=Z5.upd u6 (by simpa using λe=>n1 e.symm);have e6:eM h h6:=e5.fresh u6 (fX.one (e4.none hr34));have c2':eA h6 ⟨r34,0+2,none⟩=some (.int .i64 (kM s:Int)):=B6.cell 2;have c3':eA h6 ⟨r34,0+3,none⟩=some (.int .i64 (jA s:Int)):=B6.cell 3;have w5:IntKind.i64.wrap ((jA s:Int)-1)=((jA s-1:Nat):Int):=by rw[fW (by omega) (by omega)];omega
      have wm:∀z:Nat,z≤1000->IntKind.i64.wrap (((jA s-1:Nat):Int)*((size-25:Nat):Int))=(((jA s-1)*(size-25):Nat):Int)∧IntKind.i64.wrap ((((jA s-1)*(size-25):Nat):Int)+(z:Int))=(((jA s-1)*(size-25)+z:Nat):Int):=λz hz=>by
       have:(jA s-1)*(size-25)≤256*512:=Nat.mul_le_mul (by omega) (by omega);refine⟨by rw[←Int.natCast_mul,fW (by omega) (by omega)],by rw[fW (by omega) (by omega)];omega⟩
      -- the bad lengths
      have nb:¬(size-25<lI s∨jA s≤kM s):=by omega
      have last:¬aGf size (rJ s)->(dA (dH PG h6 (gV BinOp.eql aR (.tmp 90) (.tmp 93) (.int .i64 (kM s:Int)) (.int .i64 ((jA s-1:Nat):Int)))) λv139=>dW v139 (pN k (.int .i64 (size:Int)) (.string (tx s)) (pT r1 0) (pT r34 0) (.int .i64 (((jA s-1)*(size-25)+lI s:Nat):Int)) h6) (pN k (.int .i64 (size:Int)) (.string (tx s)) (pT r1 0) (pT r34 0) (.int .i64 (((jA s-1)*(size-25)+1:Nat):Int)) h6)):=by
       intro hbad;by_cases cl:kM s+1=jA s
       ·have ql:((kM s:Int)==((jA s-1:Nat):Int))=true:=by rw[beq_iff_eq];omega
        simp only[gX,ql,dF,reduceIte,dM,Nat.reduceAdd];refine aOx ok hl hsl nb hbad ?_ Z6 B6 (by omega) htl e6 hr1 hk;unfold aFW;rw[if_pos (show(rJ s).part+1=(rJ s).parts from cl)];show _=(jA s-1)*(size-25)+(nH s).length;rw[htl]
       ·have ql:((kM s:Int)==((jA s-1:Nat):Int))=false:=by rw[beq_eq_false_iff_ne];omega
        simp only[gX,ql,dF,reduceIte,dM,Nat.reduceAdd];refine aOx ok hl hsl nb hbad ?_ Z6 B6 (by omega) htl e6 hr1 hk;unfold aFW;rw[if_neg (show ¬(rJ s).part+1=(rJ s).parts from cl)];rfl
      have dB:aGf size (rJ s)↔(kM s+1<jA s∧lI s≠size-25)∨(0<kM s∧lI s=0):=by
       rw[←htl];exact Iff.rfl
      have er2:aGf size (rJ s)->yI size s=(lM.zero,5):=λhb=>by rw[er1,if_pos hb]
      have wz:=wm (lI s) (by omega);have wo:=wm 1 (by omega);have wo2:IntKind.i64.wrap ((((jA s-1)*(size-25):Nat):Int)+1)=(((jA s-1)*(size-25)+1:Nat):Int):=wo.2;by_cases k3:kM s<jA s-1
      ·have g3:((kM s:Int)<((jA s-1:Nat):Int))=True:=eq_true (by omega);by_cases k4:lI s=size-25
       ·have q4:((lI s:Int) !=((size-25:Nat):Int))=false:=by simp[k4]
        by_cases k5:0<kM s
        ·have g5:((0:Int)<(kM s:Int))=True:=eq_true (by omega);have q6:((lI s:Int)==0)=false:=by rw[beq_eq_false_iff_ne];omega
         simp only[dL.f2,dL.f3,aR.load,c2',c3',w5,g3,w3,fZ,q4,g5,gX,q6,oQ,wz.1,wo2,wz.2,dF,reduceIte,dM,Nat.reduceAdd];have:=last (by rw[dB];omega);simp only[gX,dF,reduceIte,dM,Nat.reduceAdd] at this;exact this
        ·have g5:((0:Int)<(kM s:Int))=False:=eq_false (by omega);simp only[dL.f2,dL.f3,aR.load,c2',c3',w5,g3,w3,fZ,q4,g5,gX,oQ,wz.1,wo2,wz.2,dF,reduceIte,dM,Nat.reduceAdd];have:=last (by rw[dB];omega);simp only[gX,dF,reduceIte,dM,Nat.reduceAdd] at this;exact this
       ·have q4:((lI s:Int) !=((size-25:Nat):Int))=true:=by rw[bne_iff_ne];omega
        simp only[dL.f2,dL.f3,aR.load,c2',c3',w5,g3,w3,fZ,q4,aDz,dF,reduceIte,dM,Nat.reduceAdd];exact fin 5 (er2 (by rw[dB];omega)) Z6 e6
      ·have g3:((kM s:Int)<((jA s-1:Nat):Int))=False:=eq_false (by omega);by_cases k5:0<kM s
       ·have g5:((0:Int)<(kM s:Int))=True:=eq_true (by omega);by_cases k6:lI s=0
        ·have q6:((lI s:Int)==0)=true:=by simp[k6]
         simp only[dL.f2,dL.f3,aR.load,c2',c3',w5,g3,g5,gX,q6,aDz,dF,reduceIte,dM,Nat.reduceAdd];exact fin 5 (er2 (by rw[dB];omega)) Z6 e6
        ·have q6:((lI s:Int)==0)=false:=by rw[beq_eq_false_iff_ne];omega
         simp only[dL.f2,dL.f3,aR.load,c2',c3',w5,w3,g3,g5,gX,q6,oQ,wz.1,wo2,wz.2,dF,reduceIte,dM,Nat.reduceAdd];have:=last (by rw[dB];omega);simp only[gX,dF,reduceIte,dM,Nat.reduceAdd] at this;exact this
       ·have g5:((0:Int)<(kM s:Int))=False:=eq_false (by omega);simp only[dL.f2,dL.f3,aR.load,c2',c3',w5,w3,g3,g5,gX,oQ,wz.1,wo2,wz.2,dF,reduceIte,dM,Nat.reduceAdd];have:=last (by rw[dB];omega);simp only[gX,dF,reduceIte,dM,Nat.reduceAdd] at this;exact this
  ·have q:((s.length:Int) !=(size:Int))=true:=by rw[bne_iff_ne];omega
   have er:yI size s=(lM.zero,6):=by unfold yI;rw[if_neg (by simpa using ok),if_pos hl]
   simp only[ok,decide_true,jS,fZ,q,aDz,dF,reduceIte,dM,Nat.reduceAdd];exact fin 6 er Z1 u1
 ·have er:yI size s=(lM.zero,1):=by unfold yI;rw[if_pos ok]
  simp only[ok,decide_false,aDz,dF,reduceIte,dM,Nat.reduceAdd];exact fin 1 er Z1 u1
def aV4{size:Nat}{x:Tx}(h:(hC size x).2=0):(hC size x).1.part<(hC size x).1.parts:=by
 unfold hC at h ⊢;split at h
 ·cases h
 ·rename_i a;split at h
  ·cases h
  ·rename_i b;split at h
   ·cases h
   ·rename_i c;split at h
    ·rename_i d;rw[if_neg a,if_neg b,if_neg c,if_pos d];exact d.1.2.2.2
    ·cases h
def aTv(size gen ser:Nat)(xs:List Tx)(p q:Nat)(t:Tx):kI size gen ser xs 0 p t=kI size gen ser xs 0 q t:=by
 cases xs with
 | nil=>rfl
 | cons x xs=>
  rw[aFX,aFX];simp only[if_true]
def aSO{h:PH}{size gen ser:Nat}{xs:List Tx}(hsz:size≤1000)(h1:1≤size)(hx:∀s∈xs,s.length=size)(hl:xs.length≤5000){k:dI}
  (hk:∀h',eM h h'->k (.tuple #[.string (tx (kI size gen ser xs 0 0 []).1),.int .i64 ((kI size gen ser xs 0 0 []).2:Int)]) h'):bR PG aBG #[.int .i64 (size:Int),.int .u64 (gen:Int),.int .u64 (ser:Int),.string (tx xs.flatten)] h k:=by
 apply aAI.call;unfold aAI;obtain⟨T,hT⟩:∃T,kI size gen ser xs 0 0 []=T:=⟨_,rfl⟩;rw[hT] at hk;have fl:=aBK hx;have flb:xs.length*size≤5000*1000:=Nat.mul_le_mul hl hsz;refine⟨λvs h'=>∃(n parts:Nat) (t:Tx),n≤xs.length∧vs=[.int .i64 (size:Int),.int .u64 (gen:Int),.int .u64 (ser:Int),.string (tx xs.flatten),.string (tx t),.int .i64 (parts:Int),.int .i64 (n:Int)]∧eM h h'∧t.length≤n*1000∧parts<256∧n≤parts∧(if n=parts then T=(t,parts) else T=kI size gen ser (xs.drop n) n parts t),gT xs.length 6,⟨0,1,[],by omega,rfl,eH.refl,by simp,by omega,by omega,by rw[if_neg (by decide),zLb,aTv size gen ser xs 1 0];exact hT.symm⟩,?_⟩;rintro ρ h' ⟨n,parts,t,hn,hvs,w,ht,hp,hnp,hr⟩;simp only[jF,kF,lT,and_true] at hvs;obtain⟨x0,x1,x2,x3,x10,x11,x12⟩:=hvs;unfold aET;rw[x0,x1,x2,x3,x10,x11,x12];by_cases he:n=parts
 ·have g0:((n:Int)<(parts:Int))=False:=eq_false (by omega);rw[if_pos he] at hr;simp only[g0,dF,reduceIte,dM,Nat.reduceAdd];have:=hk h' w;rw[hr] at this;exact this
 ·have g0:((n:Int)<(parts:Int))=True:=eq_true (by omega);rw[if_neg he] at hr;have g1:=oM (i:=n) (by omega);have hm1:(n+1)*size≤5001*1000:=Nat.mul_le_mul (by omega) hsz;have hm0:n*size≤5001*1000:=Nat.mul_le_mul (by omega) hsz;have g2:IntKind.i64.wrap (((n+1:Nat):Int)*(size:Int))=(((n+1)*size:Nat):Int):=by rw[←Int.natCast_mul,fW (by omega) (by omega)]
  have g3:IntKind.i64.wrap ((n:Int)*(size:Int))=((n*size:Nat):Int):=by rw[←Int.natCast_mul,fW (by omega) (by omega)]
  by_cases hlt:n<xs.length
  ·have hle:(n+1)*size≤xs.length*size:=yE _ hlt;have gl:((xs.flatten.length:Int)<(((n+1)*size:Nat):Int))=False:=eq_false (by omega);obtain⟨x,hxx⟩:∃x,xs[n]? =some x:=⟨_,lG hlt⟩;have hxl:=hx x (wE hxx);have hms:n*size≤(n+1)*size:=yE _ (Nat.le_succ _);have c:dE PG (Instr.sliceAt aT (.string (tx xs.flatten)) (some (.int .i64 ((n*size:Nat):Int))) (some (.int .i64 (((n+1)*size:Nat):Int))) none)=some (.string (tx x)):=by
    have:=lE (P:=PG) (t:=aT) (l:=xs.flatten) (i:=n*size) (j:=(n+1)*size) (lo:=some (.int .i64 ((n*size:Nat):Int))) (hi:=some (.int .i64 (((n+1)*size:Nat):Int))) aT.und (.inr ⟨_,rfl⟩) (.inr ⟨_,rfl⟩) hms (by omega);rw[this,aPH hx hxx]
   have ed:xs.drop n=x::xs.drop (n+1):=by
    rw[aBE hlt];have:xs[n]=x:=by rw[lG hlt] at hxx;simpa using hxx
    rw[this]
   rw[ed,aFX] at hr;obtain⟨rf1,rf2⟩:=aMT size x;simp only[g0,g1,oQ,g2,jS,gl,g3,c,dF,reduceIte,dM,Nat.reduceAdd];refine aTs size x (by omega) λh2 u2=>?_;rw[aPU];simp only[dF,reduceIte,dM,Nat.reduceAdd];intro r16 hr16
   try rw[dY]
   refine dL.fill (vs:=(hC size x).1.cells) hr16 rfl (hC size x).1.isC λh3 B3 u3=>?_;have e3:=(w.trans u2).trans u3;have b0:eA h3 ⟨r16,0,none⟩=some (.int .u64 ((hC size x).1.gen:Int)):=B3.cell 0;have b1:eA h3 ⟨r16,0+1,none⟩=some (.int .u64 ((hC size x).1.ser:Int)):=B3.cell 1;have b2:eA h3 ⟨r16,0+2,none⟩=some (.int .i64 ((hC size x).1.part:Int)):=B3.cell 2;have b3:eA h3 ⟨r16,0+3,none⟩=some (.int .i64 ((hC size x).1.parts:Int)):=B3.cell 3;have b4:eA h3 ⟨r16,0+4,none⟩=some (.string (tx (hC size x).1.b)):=B3.cell 4;have nq:∀{a b:Nat},a=b->((a:Int) !=(b:Int))=false:=λe=>by simp[e]
   have nn:∀{a b:Nat},a≠b->((a:Int) !=(b:Int))=true:=λe=>by rw[bne_iff_ne];omega
   have fail:aHG gen ser n (if n=0 then(hC size x).1.parts else parts) (hC size x)->k (.tuple #[.string {data:=#[]},.int .i64 0]) h3:=λhb=>by
    rw[if_pos hb] at hr;have:=hk h3 e3;rw[hr] at this;exact this
   by_cases c1:(hC size x).2=0
   ·have q1:((hC size x).2 !=0)=false:=by rw[c1];rfl
    have hlt2:=aV4 c1;by_cases c2:(hC size x).1.gen=gen
    ·by_cases c3:(hC size x).1.ser=ser
     ·by_cases c4:(hC size x).1.part=n
      ·have ea:dE PG (binOp .add aT (.string (tx t)) (.string (tx (hC size x).1.b)))=some (.string (tx (t++(hC size x).1.b))):=kZ (by omega);have goal:¬aHG gen ser n (if n=0 then(hC size x).1.parts else parts) (hC size x)->(∃(n' parts':Nat) (t':Tx),n'≤xs.length∧[.int .i64 (size:Int),.int .u64 (gen:Int),.int .u64 (ser:Int),.string (tx xs.flatten),.string (tx (t++(hC size x).1.b)),.int .i64 ((hC size x).1.parts:Int),.int .i64 ((n+1:Nat):Int)]=[Value.int .i64 (size:Int),.int .u64 (gen:Int),.int .u64 (ser:Int),.string (tx xs.flatten),.string (tx t'),.int .i64 (parts':Int),.int .i64 (n':Int)]∧eM h h3∧t'.length≤n'*1000∧parts'<256∧n'≤parts'∧(if n'=parts' then T=(t',parts') else T=kI size gen ser (xs.drop n') n' parts' t')):=by
        intro hb;rw[if_neg hb] at hr;refine⟨n+1,(hC size x).1.parts,_,by omega,rfl,e3,by rw[kO];omega,rf1,by omega,?_⟩;by_cases c6:n+1=(hC size x).1.parts
        ·rw[if_pos c6] at hr ⊢;exact hr
        ·rw[if_neg c6] at hr ⊢;have:(if n=0 then(hC size x).1.parts else parts)=(hC size x).1.parts:=by
          split
          ·rfl
          ·rename_i h0;have h5:(hC size x).1.parts=parts:=Classical.byContradiction λe=>hb (.inr (.inr (.inr (.inr (by rw[if_neg h0];exact e)))));exact h5.symm
         rw[this] at hr;exact hr
       by_cases hn0:n=0
       ·have gz:((0:Int)<(n:Int))=False:=eq_false (by omega);simp only[fZ,q1,dL.f0,dL.f1,dL.f2,dL.f3,dL.f4,dN.load,aR.load,aT.load,b0,b1,b2,b3,b4,nq c2,nq c3,nq c4,gz,ea,g1,dF,reduceIte,dM,Nat.reduceAdd];exact⟨goal (by
         rintro(a|a|a|a|a)
         ·exact a c1
         ·exact a c2
         ·exact a c3
         ·exact a c4
         ·rw[if_pos hn0] at a;exact a rfl),by simp[gT,x12];omega⟩
       ·have gz:((0:Int)<(n:Int))=True:=eq_true (by omega);by_cases c5:(hC size x).1.parts=parts
        ·simp only[fZ,q1,dL.f0,dL.f1,dL.f2,dL.f3,dL.f4,dN.load,aR.load,aT.load,b0,b1,b2,b3,b4,nq c2,nq c3,nq c4,gz,nq c5,ea,g1,dF,reduceIte,dM,Nat.reduceAdd];exact⟨goal (by
          rintro(a|a|a|a|a)
          ·exact a c1
          ·exact a c2
          ·exact a c3
          ·exact a c4
          ·rw[if_neg hn0] at a;exact a c5),by simp[gT,x12];omega⟩
        ·simp only[fZ,q1,dL.f0,dL.f1,dL.f2,dL.f3,dN.load,aR.load,b0,b1,b2,b3,nq c2,nq c3,nq c4,gz,nn c5,dF,reduceIte,dM,Nat.reduceAdd];exact fail (.inr (.inr (.inr (.inr (by rw[if_neg hn0];exact c5)))))
      ·simp only[fZ,q1,dL.f0,dL.f1,dL.f2,dN.load,aR.load,b0,b1,b2,nq c2,nq c3,nn c4,dF,reduceIte,dM,Nat.reduceAdd];exact fail (.inr (.inr (.inr (.inl c4))))
     ·simp only[fZ,q1,dL.f0,dL.f1,dN.load,aR.load,b0,b1,nq c2,nn c3,dF,reduceIte,dM,Nat.reduceAdd];exact fail (.inr (.inr (.inl c3)))
    ·simp only[fZ,q1,dL.f0,dN.load,aR.load,b0,nn c2,dF,reduceIte,dM,Nat.reduceAdd];exact fail (.inr (.inl c2))
   ·have q1:((hC size x).2 !=0)=true:=bne_iff_ne.2 c1;simp only[fZ,q1,dF,reduceIte,dM,Nat.reduceAdd];exact fail (.inl c1)
  ·have gl:((xs.flatten.length:Int)<(((n+1)*size:Nat):Int))=True:=by
    have:n=xs.length:=by omega
    have hms:(n+1)*size=n*size+size:=Nat.succ_mul _ _;rw[this] at hms;exact eq_true (by rw[this];omega)
   rw[zO (by omega)] at hr;simp only[g0,g1,oQ,g2,jS,gl,dF,reduceIte,dM,Nat.reduceAdd];have:=hk h' w;rw[hr] at this;exact this
def aVW{h:PH}{size gen:Nat}{xs:List Tx}(ok:iB size)(hx:∀s∈xs,s.length=size)(hl:xs.length≤5000){k:dI}
  (hk:∀h' v F,fY h' aT 1 v ((lF size gen (xs.length+1) xs 0).1.map jX) F->fX h F->eM h h'->k (.tuple #[v,.int .i64 ((lF size gen (xs.length+1) xs 0).2:Int)]) h'):bR PG aCM #[.int .i64 (size:Int),.int .u64 (gen:Int),.string (tx xs.flatten)] h k:=by
 apply aBU.call;unfold aBU;obtain⟨T,hT⟩:∃T,lF size gen (xs.length+1) xs 0=T:=⟨_,rfl⟩;rw[hT] at hk;have h64:=ok.1;have h512:=ok.2;have fl:=aBK hx;have flb:xs.length*size≤5000*512:=Nat.mul_le_mul hl h512;refine aEU size ?_;simp only[ok,decide_true,dF,reduceIte,dM,Nat.reduceAdd];refine⟨λvs h'=>∃(used ser f:Nat) (v:Value) (out:List Tx) (F:List Nat),used≤xs.length∧ser≤used∧out.length=ser∧xs.length<f+used∧vs=[.int .i64 (size:Int),.int .u64 (gen:Int),.string (tx xs.flatten),v,.int .i64 (used:Int)]∧fY h' aT 1 v (out.map jX) F∧fX h F∧eM h h'∧T=(out++(lF size gen f (xs.drop used) ser).1,used+(lF size gen f (xs.drop used) ser).2),gT xs.length 4,⟨0,0,xs.length+1,.slice none 0 0,[],[],by omega,by omega,rfl,by omega,rfl,fY.nil,(λb hb=>by cases hb),eH.refl,by rw[zLb,hT,zLU,kB]⟩,?_⟩;rintro ρ h' ⟨used,ser,f,v,out,F,hu,hs,ho,hf,hvs,O,fF,w,hr⟩;simp only[jF,kF,lT,and_true] at hvs;obtain⟨x0,x1,x2,x8,x9⟩:=hvs;unfold aFk;rw[x0,x1,x2,x8,x9];have hm0:used*size≤xs.length*size:=yE _ hu;have g3:IntKind.i64.wrap ((used:Int)*(size:Int))=((used*size:Nat):Int):=by rw[←Int.natCast_mul,fW (by omega) (by omega)]
 have c:dE PG (Instr.sliceAt aT (.string (tx xs.flatten)) (some (.int .i64 ((used*size:Nat):Int))) none none)=some (.string (tx (xs.drop used).flatten)):=by
  have:=lE (P:=PG) (t:=aT) (l:=xs.flatten) (i:=used*size) (j:=xs.flatten.length) (lo:=some (.int .i64 ((used*size:Nat):Int))) (hi:=none) aT.und (.inr ⟨_,rfl⟩) (.inl ⟨rfl,rfl⟩) (by omega) (nQ _);rw[this,zLJ,aG8 hx]
 obtain⟨f,rfl⟩:∃g,f=g+1:=⟨f-1,by omega⟩;have hle:=aNV (size:=size) (gen:=gen) (ser:=ser) (xs.drop used) 0 0 [];rw[kD] at hle;simp only[uM O.slR,ho,cvN ser (by omega),oQ,g3,c,dF,reduceIte,dM,Nat.reduceAdd];refine aSO (by omega) (by omega) (λs hs=>hx s (List.mem_of_mem_drop hs)) (by rw[kD];omega) λh2 u2=>?_;unfold lF at hr;by_cases c0:(kI size gen ser (xs.drop used) 0 0 []).2=0
 ·rw[if_pos c0,zLQ,zLP] at hr;have q0:(((kI size gen ser (xs.drop used) 0 0 []).2:Int)==0)=true:=by simp[c0]
  simp only[gX,q0,dF,reduceIte,dM,Nat.reduceAdd];have:=hk h2 v F;have hr':T=(out,used):=hr;rw[hr'] at this;exact this (O.ext u2) fF (w.trans u2)
 ·rw[if_neg c0] at hr;have q0:(((kI size gen ser (xs.drop used) 0 0 []).2:Int)==0)=false:=by rw[beq_eq_false_iff_ne];omega
  simp only[gX,q0,aGo,dF,reduceIte,dM,Nat.reduceAdd];intro r13 hr13;refine jC ?_
  try rw[dY]
  have S1:=(aGi (h:=h2) (r:=r13) (kI size gen ser (xs.drop used) 0 0 []).1).slR;have u3:eM h2 (h2.set r13 (.cells #[.string (tx (kI size gen ser (xs.drop used) 0 0 []).1)] aT)):=eH.new hr13;refine mQ eB.und eB.und aT.info aT.size aT.bytes aT.zero rfl (by decide) ((O.ext u2).ext u3) S1 (by simp[gN]) (by simp only[jJ,jY,lU];omega) ?_;intro v4 h4 F4 O4 u4 g4 _;have O4:fY h4 aT 1 v4 ((out++[(kI size gen ser (xs.drop used) 0 0 []).1]).map jX) F4:=by rw[xX];exact O4
  have gu:IntKind.i64.wrap ((used:Int)+((kI size gen ser (xs.drop used) 0 0 []).2:Int))=((used+(kI size gen ser (xs.drop used) 0 0 []).2:Nat):Int):=by rw[fW (by omega) (by omega)];omega
  have e3:=(w.trans u2).trans u3;simp only[gu,dF,reduceIte,dM,Nat.reduceAdd];rw[rQ] at hr;refine⟨⟨used+(kI size gen ser (xs.drop used) 0 0 []).2,ser+1,f,v4,_,F4,by omega,by omega,by rw[kO,ho];rfl,by omega,rfl,O4,fF.grow e3 g4,e3.fresh u4 fF,?_⟩,by simp[gT,x9];omega⟩;rw[hr,xN,Nat.add_assoc];rfl
def aIJ:dE PG (build dD #[])=some Hd.zero.v:=by kernel_rfl
def aPr(a b:Int):dE PG (build dD #[(0,.int .u64 a),(1,.int .i64 b)])=some (.agg #[.int .u64 a,.int .i64 b]):=by kernel_rfl
def aWw(a:Int):dE PG (build dD #[(0,.int .u64 a)])=some (.agg #[.int .u64 a,.int .i64 0]):=by kernel_rfl
def aBy{h:PH}{r:Nat}{x:Hd}(B:Bx h r x.cells):dH PG h (loadAt dD (pT r 0))=some x.v:=dD.agg B (by show 0+2≤2;decide)
def aQu{h:PH}(size:Nat)(x:Hd)(hg:x.gen<18446744073709551616)(hs:x.seg<1000000){k:dI}(hk:∀h',eM h h'->k (.tuple #[.string (tx (gY size x).1),.int .i64 (gY size x).2]) h'):bR PG aAA #[.int .i64 (size:Int),x.v] h k:=by
 apply vH.call;unfold vH;intro r1 hr1
 try rw[dY]
 have u1:eM h (h.set r1 (.cells (Value.cells x.v) dD)):=eH.new hr1;have B1:Bx (h.set r1 (.cells (Value.cells x.v) dD)) r1 x.cells:=Bx.new;generalize h.set r1 (.cells (Value.cells x.v) dD)=h1 at *;have bad:(¬iB size∨x.gen=0∨1<x.seg)->k (.tuple #[.string {data:=#[]},.int .i64 1]) h1:=λc=>by
  have e:gY size x=([],1):=by unfold gY;rw[if_pos c]
  have:=hk h1 u1;rw[e] at this;exact this
 refine aEU size ?_;have b0:eA h1 ⟨r1,0,none⟩=some (.int .u64 (x.gen:Int)):=B1.cell 0;have b1:eA h1 ⟨r1,0+1,none⟩=some (.int .i64 (x.seg:Int)):=B1.cell 1;by_cases c1:iB size
 ·have h64:=c1.1;have h512:=c1.2;by_cases c2:x.gen=0
  ·have g2:((x.gen:Int)<1)=True:=eq_true (by omega);simp only[c1,decide_true,dD.f0,dN.load,b0,g2,dF,reduceIte,dM,Nat.reduceAdd];exact bad (.inr (.inl c2))
  ·have g2:((x.gen:Int)<1)=False:=eq_false (by omega);have go:x.seg≤1->dA (dE PG (convert aR dN (.int .i64 (x.seg:Int)))) λv55=>
     bR PG hM #[.int .u64 (x.gen:Int),.int .i64 8] h1 λv56 h57=>
     dH PG h57 (loadAt aR (pT r1 (0+1)))=some (.int .i64 (x.seg:Int))∧(dA (dE PG (binOp BinOp.add aT (Value.string {data:=#[72]}) v56)) λv58=>
     bR PG hM #[v55,(Value.int IntKind.i64 1)] h57 λv59 h60=>
     (dA (dE PG (binOp BinOp.add aT v58 v59)) λv61=>
     dA (dE PG (binOp BinOp.sub aR (.int .i64 (size:Int)) (Value.int IntKind.i64 4))) λv62=>
     dA (dE PG (Builtin.len_ #[aT] aR #[v61])) λv63=>
     dA (dE PG (binOp BinOp.sub aR v62 v63)) λv64=>
     dA (lH PG (Instr.makeSlice eJ v64 v64)) λx66=>∀r65,h60 r65=none->dA (dE PG (x66.2 r65)) λv67=>fK (PH.set h60 r65 x66.1) λh68=>
     dA (dH PG h68 (convert eJ aT v67)) λv69=>
     dA (dE PG (binOp BinOp.add aT v61 v69)) λv70=>
     bR PG rI #[v70] h68 λv71 h72=>
     k (Value.tuple #[v71,(Value.int IntKind.i64 0)]) h72)):=by
    intro c3;have e:gY size x=(oI (oY size x),0):=by unfold gY;rw[if_neg (by rintro(a|a|a);exact a c1;exact c2 a;omega)]
    rw[e] at hk;have e72:(⟨#[72]⟩:ByteArray)=tx [72]:=rfl;rw[e72];simp only[cvN x.seg (by omega),jQ,zPP];refine nO (n:=x.gen) (c:=8) hg (by decide) λh2 u2=>?_;have a1:dE PG (binOp .add aT (.string (tx [72])) (.string (tx (be x.gen 8))))=some (.string (tx ([72]++be x.gen 8))):=kZ (by simp[iZ]);have b1':eA h2 ⟨r1,0+1,none⟩=some (.int .i64 (x.seg:Int)):=(B1.ext u2).cell 1;refine⟨by rw[aR.load];exact b1',?_⟩;simp only[a1,jQ,zPP];refine nO (n:=x.seg) (c:=1) (by omega) (by decide) λh3 u3=>?_;have a2:dE PG (binOp .add aT (.string (tx ([72]++be x.gen 8))) (.string (tx (be x.seg 1))))=some (.string (tx ([72]++be x.gen 8++be x.seg 1))):=kZ (by simp[iZ]);have hl:([72]++be x.gen 8++be x.seg 1).length=10:=by simp[iZ]
    have w1:IntKind.i64.wrap ((size:Int)-4)=(size:Int)-4:=fW (by omega) (by omega);have w2:IntKind.i64.wrap ((size:Int)-4-((10:Nat):Int))=((size-14:Nat):Int):=by rw[fW (by omega) (by omega)];omega
    simp only[a2,aK1,w1,jS,hl,w2,jQ,zPP];refine aQV (size-14) (by omega) λh4 u4=>?_;have eb: [72]++be x.gen 8++be x.seg 1++mD (size-14)=oY size x:=by unfold oY;simp only[xN]
    have a3:dE PG (binOp .add aT (.string (tx ([72]++be x.gen 8++be x.seg 1))) (.string (tx (mD (size-14)))))=some (.string (tx (oY size x))):=by
     rw[←eb];exact kZ (by rw[hl,xV];omega)
    simp only[a3,jQ,zPP];refine aMe _ (by rw[←eb,kO,hl,xV];omega) λh5 u5=>?_;exact hk h5 ((((u1.trans u2).trans u3).trans u4).trans u5)
   by_cases c3:x.seg=0
   ·have q3:((x.seg:Int) !=0)=false:=by simp[c3]
    simp only[c1,decide_true,dD.f0,dD.f1,dN.load,aR.load,b0,b1,g2,fZ,q3,dF,reduceIte,dM,Nat.reduceAdd];have:=go (by omega);simp only[aR.load,kB] at this;exact this
   ·have q3:((x.seg:Int) !=0)=true:=by rw[bne_iff_ne];omega
    by_cases c4:x.seg=1
    ·have q4:((x.seg:Int) !=1)=false:=by simp[c4]
     simp only[c1,decide_true,dD.f0,dD.f1,dN.load,aR.load,b0,b1,g2,fZ,q3,q4,dF,reduceIte,dM,Nat.reduceAdd];have:=go (by omega);simp only[aR.load,kB] at this;exact this
    ·have q4:((x.seg:Int) !=1)=true:=by rw[bne_iff_ne];omega
     simp only[c1,decide_true,dD.f0,dD.f1,dN.load,aR.load,b0,b1,g2,fZ,q3,q4,dF,reduceIte,dM,Nat.reduceAdd];exact bad (.inr (.inr (by omega)))
 ·simp only[c1,decide_false,dF,reduceIte,dM,Nat.reduceAdd];exact bad (.inl c1)
def hdz(s:Tx)(i:Nat):Bool:=((s.take i).drop 10).all (· == 0)
def aWl{h:PH}(size:Nat)(s:Tx)(hs:s.length≤1000000){k:dI}(hk:∀h',eM h h'->k (.tuple #[(iF size s).1.v,.int .i64 (iF size s).2]) h'):bR PG aC0 #[.int .i64 (size:Int),.string (tx s)] h k:=by
 rw[←aWM] at hk;apply vC.call;unfold vC;intro r1 hr1
 try rw[dY]
 have Z1:Bx (h.set r1 (.cells (eX PG dD) dD)) r1 Hd.zero.cells:=dD.zbox;have u1:eM h (h.set r1 (.cells (eX PG dD) dD)):=eH.new hr1;generalize h.set r1 (.cells (eX PG dD) dD)=h1 at *;have fin:∀{h':PH} (f:Hd) (e:Int),aIS size s=(f,e)->Bx h' r1 Hd.zero.cells->eM h h'->dT PG (dX dD (pT r1 0) f.v) h' λ_ h8=>dA (dH PG h8 (loadAt dD (pT r1 0))) λv9=>k (.tuple #[v9,.int .i64 e]) h8:=by
  intro h' f e he B w;refine dD.put B (vs:=f.cells) (o:=0) rfl (by show 0+2≤2;decide) f.isC λh2 B2 u2=>?_;have B2:Bx h2 r1 f.cells:=B2;simp only[aBy B2,jQ,zPP];have:=hk h2 (w.fresh u2 (fX.one hr1));rw[he] at this;exact this
 refine aEU size ?_;by_cases ok:iB size
 ·have h64:=ok.1;have h512:=ok.2;by_cases hl:s.length=size
  ·have q:((s.length:Int) !=(size:Int))=false:=by simp[hl]
   simp only[ok,decide_true,jS,fZ,q,dF,reduceIte,dM,Nat.reduceAdd];refine aOI s hs λh4 u4=>?_;have e4:=u1.trans u4;cases hsl:pH s with
   | false=>
    have er:aIS size s=(Hd.zero,8):=by unfold aIS;rw[if_neg (by simpa using ok),if_neg (by simpa using hl),if_pos hsl]
    simp only[aIJ,dF,reduceIte,dM,Nat.reduceAdd];exact fin Hd.zero 8 er (Z1.ext u4) e4
   | true=>
    have er:aIS size s=if aGx size s then(rZ s,0) else(Hd.zero,5):=by unfold aIS;rw[if_neg (by simpa using ok),if_neg (by simpa using hl),if_neg (by rw[hsl];decide)]
    have c1:dE PG (Instr.sliceAt aT (.string (tx s)) (some (.int .i64 1)) (some (.int .i64 9)) none)=some (.string (tx ((s.drop 1).take 8))):=by
     have:=lE (P:=PG) (t:=aT) (l:=s) (i:=1) (j:=9) (lo:=some (.int .i64 1)) (hi:=some (.int .i64 9)) aT.und (.inr ⟨_,rfl⟩) (.inr ⟨_,rfl⟩) (by omega) (by omega);rw[this,zLy]
    obtain⟨b9,hb9⟩:∃b,s[9]? =some b:=⟨_,lG (by omega)⟩;obtain⟨b0,hb0⟩:∃b,s[0]? =some b:=⟨_,lG (by omega)⟩;have i9:dE PG (Instr.index aT (.string (tx s)) (.int .i64 9))=some (.int .u8 b9.toNat):=oZ (j:=9) aT.und hb9;have i0:dE PG (Instr.index aT (.string (tx s)) (.int .i64 0))=some (.int .u8 b0.toNat):=oZ (j:=0) aT.und hb0;have d9:(rZ s).seg=b9.toNat:=aJ3 hb9;have l9:=b9.toNat_lt;have t1:s.take 1=[72]↔b0=72:=by
     have:s.take 1=[b0]:=by
      obtain⟨hl0,e⟩:=zLA.1 hb0;cases s with
      | nil=>cases hl0
      | cons y s=>simp at e;simp[e]
     rw[this];simp
    simp only[c1,i9,aHg,dF,reduceIte,dM,Nat.reduceAdd];refine aB9 (by rw[mT];omega) ?_;rw[←d9];show dA (dE PG (build dD #[(0,.int .u64 ((rZ s).gen:Int)),(1,.int .i64 ((rZ s).seg:Int))])) _;simp only[aPr,jQ,zPP];intro r29 hr29
    try rw[dY]
    refine dD.fill (vs:=(rZ s).cells) hr29 rfl (rZ s).isC λh5 B5 u5=>?_;have e5:=e4.trans u5;have Z5:=(Z1.ext u4).ext u5;have bg:eA h5 ⟨r29,0,none⟩=some (.int .u64 ((rZ s).gen:Int)):=B5.cell 0;have bs:eA h5 ⟨r29,0+1,none⟩=some (.int .i64 ((rZ s).seg:Int)):=B5.cell 1;have q0:((b0.toNat:Int)==72)=decide (b0=72):=by
     rw[yA,beq_iff_eq,decide_eq_true_iff];constructor
     ·intro e;apply UInt8.toNat_inj.1;have:b0.toNat=72:=by omega
      rw[this];rfl
     ·intro e;rw[e];rfl
    have loop:∀b:Bool,b=decide (b0=72∧(rZ s).gen≠0∧(rZ s).seg<2)->iV [0,1,4,6,7,8] (λn61 ρ h=>aCB k n61 (ρ 0) (ρ 1) (ρ 4) (ρ 6) (ρ 7) (ρ 8) h) [.int .i64 (size:Int),.string (tx s),pT r1 0,pT r29 0,.bool b,.int .i64 10] h5:=by
     intro b hb;refine⟨λvs h'=>∃i:Nat,10≤i∧i≤size-4∧vs=[.int .i64 (size:Int),.string (tx s),pT r1 0,pT r29 0,.bool (decide (b0=72∧(rZ s).gen≠0∧(rZ s).seg<2)&&hdz s i),.int .i64 (i:Int)]∧h'=h5,gT size 5,⟨10,by omega,by omega,?_,rfl⟩,?_⟩
     ·have:(s.take 10).drop 10=[]:=zO (by rw[mT];omega);unfold hdz;rw[this,hb];simp
     rintro ρ h' ⟨i,hi,hi2,hvs,rfl⟩;simp only[jF,kF,lT,and_true] at hvs;obtain⟨x0,x1,x4,x6,x7,x8⟩:=hvs;unfold aCB;rw[x0,x1,x4,x6,x7,x8];have w4:IntKind.i64.wrap ((size:Int)-4)=((size-4:Nat):Int):=by rw[fW (by omega) (by omega)];omega
     by_cases hlt:i<size-4
     ·have g:((i:Int)<((size-4:Nat):Int))=True:=eq_true (by omega);have gi:=oM (i:=i) (by omega);obtain⟨y,hy⟩:∃y,s[i]? =some y:=⟨_,lG (by omega)⟩;have iy:dE PG (Instr.index aT (.string (tx s)) (.int .i64 (i:Int)))=some (.int .u8 y.toNat):=oZ (j:=i) aT.und hy;have et:(s.take (i+1)).drop 10=(s.take i).drop 10++[y]:=by
       rw[zLR,hy,List.drop_append_of_le_length (by rw[mT];omega)];rfl
      have qy:((y.toNat:Int)==0)=decide (y=0):=by
       rw[yA,beq_iff_eq,decide_eq_true_iff];constructor
       ·intro e;apply UInt8.toNat_inj.1;have:y.toNat=0:=by omega
        rw[this];rfl
       ·intro e;rw[e];rfl
      have en:(decide (b0=72∧(rZ s).gen≠0∧(rZ s).seg<2)&&hdz s (i+1))=((decide (b0=72∧(rZ s).gen≠0∧(rZ s).seg<2)&&hdz s i)&&decide (y=0)):=by
       have:hdz s (i+1)=(hdz s i&&decide (y=0)):=by
        have e0:(y==0)=decide (y=0):=by rw[yA,beq_iff_eq,decide_eq_true_iff]
        unfold hdz;rw[et,List.all_append,List.all_cons,List.all_nil,Bool.and_true,e0]
       rw[this,Bool.and_assoc]
      cases cb:(decide (b0=72∧(rZ s).gen≠0∧(rZ s).seg<2)&&hdz s i) with
      | true=>
       rw[cb,zLo] at en;simp only[w4,g,iy,gX,qy,gi,dF,reduceIte,dM,Nat.reduceAdd];exact⟨⟨i+1,by omega,by omega,by rw[en],by first|rfl|trivial⟩,by simp[gT,x8];omega⟩
      | false=>
       rw[cb,zLn] at en;simp only[w4,g,gi,dF,reduceIte,dM,Nat.reduceAdd];exact⟨⟨i+1,by omega,by omega,by rw[en],by first|rfl|trivial⟩,by simp[gT,x8];omega⟩
     ·have g:((i:Int)<((size-4:Nat):Int))=False:=eq_false (by omega);obtain rfl:i=size-4:=by omega
      have ed:(decide (b0=72∧(rZ s).gen≠0∧(rZ s).seg<2)&&hdz s (size-4))=decide (aGx size s):=by
       rw[yA,tM,decide_eq_true_iff,decide_eq_true_iff];unfold aGx hdz;rw[t1,aKJ];simp only[beq_iff_eq];exact⟨λ⟨⟨a,b,c⟩,d⟩=>⟨a,b,c,d⟩,λ⟨a,b,c,d⟩=>⟨⟨a,b,c⟩,d⟩⟩
      rw[ed];by_cases cd:aGx size s
      ·rw[if_pos cd] at er;simp only[w4,g,cd,decide_true,aBy B5,dF,reduceIte,dM,Nat.reduceAdd];exact fin (rZ s) 0 er Z5 e5
      ·rw[if_neg cd] at er;simp only[w4,g,cd,decide_false,aIJ,dF,reduceIte,dM,Nat.reduceAdd];exact fin Hd.zero 5 er Z5 e5
    by_cases k0:b0=72
    ·have g0:decide (b0=72)=true:=decide_eq_true k0;by_cases k1:(rZ s).gen=0
     ·have g1:((0:Int)<((rZ s).gen:Int))=False:=eq_false (by omega);simp only[i0,gX,q0,g0,dD.f0,dN.load,bg,g1,dF,reduceIte,dM,Nat.reduceAdd];exact loop false (by rw[eq_comm];exact decide_eq_false (λx=>x.2.1 k1))
     ·have g1:((0:Int)<((rZ s).gen:Int))=True:=eq_true (by omega);have e2:decide (((rZ s).seg:Int)<2)=decide (b0=72∧(rZ s).gen≠0∧(rZ s).seg<2):=by
       rw[yA,decide_eq_true_iff,decide_eq_true_iff];exact⟨λh=>⟨k0,k1,by omega⟩,λh=>by omega⟩
      simp only[i0,gX,q0,g0,dD.f0,dD.f1,dN.load,aR.load,bg,g1,bs,dF,reduceIte,dM,Nat.reduceAdd];exact loop _ e2
    ·have g0:decide (b0=72)=false:=decide_eq_false k0;simp only[i0,gX,q0,g0,dF,reduceIte,dM,Nat.reduceAdd];exact loop false (by rw[eq_comm];exact decide_eq_false (λx=>k0 x.1))
  ·have q:((s.length:Int) !=(size:Int))=true:=by rw[bne_iff_ne];omega
   have er:aIS size s=(Hd.zero,6):=by unfold aIS;rw[if_neg (by simpa using ok),if_pos hl]
   simp only[ok,decide_true,jS,fZ,q,aIJ,dF,reduceIte,dM,Nat.reduceAdd];exact fin Hd.zero 6 er Z1 u1
 ·have er:aIS size s=(Hd.zero,1):=by unfold aIS;rw[if_pos ok]
  simp only[ok,decide_false,aIJ,dF,reduceIte,dM,Nat.reduceAdd];exact fin Hd.zero 1 er Z1 u1
def yN(size:Nat)(x y:Tx):Nat->Hd×Int
 | 0=>(Hd.zero,-1)
 | 1=>aAn (Hd.zero,-1) 0 (iF size x)
 | _=>aAn (aAn (Hd.zero,-1) 0 (iF size x)) 1 (iF size y)
def aSj{h:PH}{v:Value}(size:Nat)(x y:Tx)(S:jE h 1 v ([x,y].map jX))(hx:x.length≤1000000)(hy:y.length≤1000000){k:dI}(hk:∀h',eM h h'->k (.tuple #[(oS size x y).1.v,.int .i64 (oS size x y).2]) h'):bR PG aBC #[.int .i64 (size:Int),v] h k:=by
 rw[←aRr] at hk;apply aAJ.call;unfold aAJ;intro r1 hr1
 try rw[dY]
 have Z1:Bx (h.set r1 (.cells (eX PG dD) dD)) r1 Hd.zero.cells:=dD.zbox;have u1:eM h (h.set r1 (.cells (eX PG dD) dD)):=eH.new hr1;generalize h.set r1 (.cells (eX PG dD) dD)=h1 at *;simp only[aIJ,dF,reduceIte,dM,Nat.reduceAdd];intro r4 hr4
 try rw[dY]
 refine dD.fill (vs:=Hd.zero.cells) hr4 rfl Hd.zero.isC λh2 B2 u2=>?_;have Z2:=Z1.ext u2;have n14:r1≠r4:=Z1.apart hr4;have e2:=u1.trans u2;have f1:fX h [r1]:=fX.one hr1;have f4:fX h [r4]:=fX.one (u1.none hr4);have lv:dE PG (Builtin.len_ #[eB] aR #[v])=some (.int .i64 2):=uM S;refine⟨λvs h'=>∃i:Nat,i≤2∧vs=[.int .i64 (size:Int),v,pT r1 0,pT r4 0,.int .i64 (yN size x y i).2,.int .i64 (i:Int)]∧Bx h' r4 (yN size x y i).1.cells∧Bx h' r1 Hd.zero.cells∧eM h h',gT 2 5,⟨0,by omega,rfl,B2,Z2,e2⟩,?_⟩;rintro ρ h' ⟨i,hi,hvs,B,Zb,w⟩;simp only[jF,kF,lT,and_true] at hvs;obtain⟨x0,x1,x4,x6,x7,x8⟩:=hvs;unfold aES;rw[x0,x1,x4,x6,x7,x8];by_cases hlt:i<2
 ·have g:((i:Int)<2)=True:=eq_true (by omega);have gi:=oM (i:=i) (by omega);obtain⟨s,hs⟩:∃s,[x,y][i]? =some s:=⟨_,lG (show i<[x,y].length from hlt)⟩;have hsl:s.length≤1000000:=by
   have:=wE hs;simp only[jW,zLg,or_false] at this;rcases this with rfl|rfl<;>assumption
  obtain⟨a,i1,i2⟩:=aGH (S.ext w) hs;have step:yN size x y (i+1)=aAn (yN size x y i) (i:Int) (iF size s):=by
   have:i=0∨i=1:=by omega
   rcases this with rfl|rfl
   ·simp at hs;subst hs;rfl
   ·simp at hs;subst hs;rfl
  simp only[lv,g,i1,i2,dF,reduceIte,dM,Nat.reduceAdd];refine aWl size s hsl λh3 u3=>?_;simp only[dF,reduceIte,dM,Nat.reduceAdd];intro r18 hr18
  try rw[dY]
  refine dD.fill (vs:=(iF size s).1.cells) hr18 rfl (iF size s).1.isC λh5 B5 u5=>?_;have e5:=(w.trans u3).trans u5;have D4:=(B.ext u3).ext u5;have D1:=(Zb.ext u3).ext u5;have b0:eA h5 ⟨r18,0,none⟩=some (.int .u64 ((iF size s).1.gen:Int)):=B5.cell 0;have c0:eA h5 ⟨r4,0,none⟩=some (.int .u64 ((yN size x y i).1.gen:Int)):=D4.cell 0;have stay:yN size x y (i+1)=yN size x y i->oW k (λvs h'=>(∃i:Nat,i≤2∧vs=[.int .i64 (size:Int),v,pT r1 0,pT r4 0,.int .i64 (yN size x y i).2,.int .i64 (i:Int)]∧Bx h' r4 (yN size x y i).1.cells∧Bx h' r1 Hd.zero.cells∧eM h h')∧gT 2 5 vs h'<gT 2 5 ([0,1,4,6,7,8].map ρ) h') (.int .i64 (size:Int)) v (pT r1 0) (pT r4 0) (.int .i64 (yN size x y i).2) (.int .i64 (i:Int)) h5:=by
   intro en;unfold oW aAW;simp only[gi,dF,reduceIte,dM,Nat.reduceAdd];rw[←en];rw[←en] at D4;exact⟨⟨i+1,by omega,rfl,D4,D1,e5⟩,by simp[gT,x8];omega⟩
  have move:yN size x y (i+1)=((iF size s).1,(i:Int))->dT PG (dX dD (pT r4 0) (iF size s).1.v) h5 λ_ h60=>oW k (λvs h'=>(∃i:Nat,i≤2∧vs=[.int .i64 (size:Int),v,pT r1 0,pT r4 0,.int .i64 (yN size x y i).2,.int .i64 (i:Int)]∧Bx h' r4 (yN size x y i).1.cells∧Bx h' r1 Hd.zero.cells∧eM h h')∧gT 2 5 vs h'<gT 2 5 ([0,1,4,6,7,8].map ρ) h') (.int .i64 (size:Int)) v (pT r1 0) (pT r4 0) (.int .i64 (i:Int)) (.int .i64 (i:Int)) h60:=by
   intro en;refine dD.put D4 (vs:=(iF size s).1.cells) (o:=0) rfl (by show 0+2≤2;decide) (iF size s).1.isC λh6 B6 u6=>?_;have B6:Bx h6 r4 (iF size s).1.cells:=B6;unfold oW aAW;simp only[gi,dF,reduceIte,dM,Nat.reduceAdd];exact⟨⟨i+1,by omega,by rw[en],by rw[en];exact B6,D1.upd u6 (by simpa using n14),e5.fresh u6 f4⟩,by simp[gT,x8];omega⟩
  by_cases c1:(iF size s).2=0
  ·have q1:((iF size s).2==0)=true:=by rw[c1];rfl
   by_cases c2:(yN size x y i).2<0
   ·have g2:((yN size x y i).2<0)=True:=eq_true c2;simp only[gX,q1,g2,aBy B5,dF,reduceIte,dM,Nat.reduceAdd];exact move (by rw[step];exact if_pos ⟨c1,.inl c2⟩)
   ·have g2:((yN size x y i).2<0)=False:=eq_false c2;by_cases c3:(yN size x y i).1.gen<(iF size s).1.gen
    ·have g3:(((yN size x y i).1.gen:Int)<((iF size s).1.gen:Int))=True:=eq_true (by omega);simp only[gX,q1,g2,dD.f0,dN.load,b0,c0,g3,aBy B5,dF,reduceIte,dM,Nat.reduceAdd];exact move (by rw[step];exact if_pos ⟨c1,.inr c3⟩)
    ·have g3:(((yN size x y i).1.gen:Int)<((iF size s).1.gen:Int))=False:=eq_false (by omega);simp only[gX,q1,g2,dD.f0,dN.load,b0,c0,g3,dF,reduceIte,dM,Nat.reduceAdd];exact stay (by rw[step];exact if_neg (λz=>z.2.elim c2 c3))
  ·have q1:((iF size s).2==0)=false:=by rw[beq_eq_false_iff_ne];exact c1
   simp only[gX,q1,dF,reduceIte,dM,Nat.reduceAdd];exact stay (by rw[step];exact if_neg (λz=>c1 z.1))
 ·have g:((i:Int)<2)=False:=eq_false (by omega);obtain rfl:i=2:=by omega
  have g2:(((2:Nat):Int)<2)=False:=eq_false (by decide);have B:Bx h' r4 (aAn (aAn (Hd.zero,-1) 0 (iF size x)) 1 (iF size y)).1.cells:=B;simp only[lv,g2,aBy B,dF,reduceIte,dM,Nat.reduceAdd];refine dD.put Zb (vs:=(aAn (aAn (Hd.zero,-1) 0 (iF size x)) 1 (iF size y)).1.cells) (o:=0) rfl (by show 0+2≤2;decide) (Hd.isC _) λh6 B6 u6=>?_;have B6:Bx h6 r1 (aAn (aAn (Hd.zero,-1) 0 (iF size x)) 1 (iF size y)).1.cells:=B6;simp only[aBy B6,dF,reduceIte,dM,Nat.reduceAdd];exact hk h6 (w.fresh u6 f1)
def aVS{h:PH}(x:Hd)(hg:x.gen<18446744073709551616){k:dI}(hk:∀h',eM h h'->k (.tuple #[(iQ x).1.v,.int .i64 (iQ x).2]) h'):bR PG aCV #[x.v] h k:=by
 apply aBQ.call;unfold aBQ;intro r1 hr1
 try rw[dY]
 have u1:eM h (h.set r1 (.cells (Value.cells x.v) dD)):=eH.new hr1;have B1:Bx (h.set r1 (.cells (Value.cells x.v) dD)) r1 x.cells:=Bx.new;generalize h.set r1 (.cells (Value.cells x.v) dD)=h1 at *;intro r3 hr3
 try rw[dY]
 have Z3:Bx (h1.set r3 (.cells (eX PG dD) dD)) r3 Hd.zero.cells:=dD.zbox;have u3:eM h1 (h1.set r3 (.cells (eX PG dD) dD)):=eH.new hr3;have C1:=B1.ext u3;generalize h1.set r3 (.cells (eX PG dD) dD)=h3 at *;have e3:=u1.trans u3;have b0:eA h3 ⟨r1,0,none⟩=some (.int .u64 (x.gen:Int)):=C1.cell 0;have b1:eA h3 ⟨r1,0+1,none⟩=some (.int .i64 (x.seg:Int)):=C1.cell 1;have fin:∀(f:Hd) (e:Int),iQ x=(f,e)->dT PG (dX dD (pT r3 0) f.v) h3 λ_ h8=>dA (dH PG h8 (loadAt dD (pT r3 0))) λv9=>k (.tuple #[v9,.int .i64 e]) h8:=by
  intro f e hr;refine dD.put Z3 (vs:=f.cells) (o:=0) rfl (by show 0+2≤2;decide) f.isC λh2 B2 u2=>?_;have B2:Bx h2 r3 f.cells:=B2;simp only[aBy B2,jQ,zPP];have:=hk h2 (e3.fresh u2 (fX.one (u1.none hr3)));rw[hr] at this;exact this
 by_cases c:x.gen=18446744073709551615
 ·have wg:IntKind.u64.wrap ((x.gen:Int)+1)=0:=by rw[c];decide
  have q:((0:Int)==0)=true:=rfl;simp only[dD.f0,dN.load,b0,wg,gX,q,aIJ,dF,reduceIte,dM,Nat.reduceAdd];exact fin Hd.zero 12 (by unfold iQ;rw[if_pos c])
 ·have wg:IntKind.u64.wrap ((x.gen:Int)+1)=((x.gen+1:Nat):Int):=by rw[lJ (by omega) (by omega)];omega
  have q:(((x.gen+1:Nat):Int)==0)=false:=by rw[beq_eq_false_iff_ne];omega
  by_cases c2:x.seg=0
  ·have q2:((x.seg:Int)==0)=true:=by simp[c2]
   simp only[dD.f0,dD.f1,dN.load,aR.load,b0,b1,wg,gX,q,q2,aPr,dF,reduceIte,dM,Nat.reduceAdd];exact fin ⟨x.gen+1,1⟩ 0 (by unfold iQ;rw[if_neg c,if_pos c2])
  ·have q2:((x.seg:Int)==0)=false:=by rw[beq_eq_false_iff_ne];omega
   simp only[dD.f0,dD.f1,dN.load,aR.load,b0,b1,wg,gX,q,q2,aPr,dF,reduceIte,dM,Nat.reduceAdd];exact fin ⟨x.gen+1,0⟩ 0 (by unfold iQ;rw[if_neg c,if_neg c2])
def aER{h:PH}{r:Nat}{d:Dk}{F:List Nat}(D:pI r d h F)(h2:2≤d.sectors){k:dI}(hk:k (.int .i64 (d.segs:Int)) h):bR PG mZ #[pT r 0] h k:=by
 apply yM.call;unfold yM;obtain⟨bv,L⟩:=D.b;have hm:=D.ok.many;have w1:IntKind.i64.wrap ((d.sectors:Int)-2)=((d.sectors-2:Nat):Int):=by rw[fW (by omega) (by omega)];omega
 have w2:dE PG (binOp .quo aR (.int .i64 ((d.sectors-2:Nat):Int)) (.int .i64 2))=some (.int .i64 (d.segs:Int)):=by
  have e:Int.tdiv ((d.sectors-2:Nat):Int) 2=(d.segs:Int):=rfl;have e2:IntKind.i64.wrap (d.segs:Int)=(d.segs:Int):=fW (by omega) (by unfold Dk.segs;omega);rw[aLe (by decide),e,e2]
 simp only[dQ.f1,aR.load,L.sectors,w1,w2,dF,reduceIte,dM,Nat.reduceAdd];exact hk
def aMd{h:PH}{r:Nat}{d:Dk}{F:List Nat}(D:pI r d h F)(h2:2≤d.sectors)(x:Hd)(hs:x.seg≤1){k:dI}(hk:∀h',eM h h'->k (.int .i64 (d.base x.seg:Int)) h'):bR PG tQ #[pT r 0,x.v] h k:=by
 apply aBY.call;unfold aBY;have hm:=D.ok.many;intro r1 hr1
 try rw[dY]
 have u1:eM h (h.set r1 (.cells (Value.cells x.v) dD)):=eH.new hr1;have B1:Bx (h.set r1 (.cells (Value.cells x.v) dD)) r1 x.cells:=Bx.new;generalize h.set r1 (.cells (Value.cells x.v) dD)=h1 at *;have b1:eA h1 ⟨r1,0+1,none⟩=some (.int .i64 (x.seg:Int)):=B1.cell 1;have hsg:d.segs≤4096:=by unfold Dk.segs;omega
 by_cases c:x.seg=1
 ·have q:((x.seg:Int)==1)=true:=by simp[c]
  have w2:IntKind.i64.wrap ((2:Int)+(d.segs:Int))=(d.base x.seg:Int):=by
   rw[fW (by omega) (by omega),c];unfold Dk.base;omega
  simp only[dD.f1,aR.load,b1,gX,q,dF,reduceIte,dM,Nat.reduceAdd];refine aER (D.ext u1) h2 ?_;simp only[w2,dF,reduceIte,dM,Nat.reduceAdd];exact hk h1 u1
 ·have q:((x.seg:Int)==1)=false:=by rw[beq_eq_false_iff_ne];omega
  have e:d.base x.seg=2:=by
   have:x.seg=0:=by omega
   rw[this];unfold Dk.base;omega
  simp only[dD.f1,aR.load,b1,gX,q,dF,reduceIte,dM,Nat.reduceAdd];have:=hk h1 u1;rw[e] at this;exact this
def aJ1{h:PH}{a:Nat}{d:Dk}{F G:List Nat}{v:Value}{l:List Tx}(D:pI a d h F)(n:Nat)(hn:n≤1000000)(O:fY h aT 1 v (l.map jX) G)(hd:∀b∈G,b∉F)(hb:d.buf.length+l.length≤1000000){k:dI}(hk:∀h' F',pI a (jZ d n l).1 h' F'->fT h F h' F'->k (.int .i64 (jZ d n l).2) h'):bR PG rW #[pT a 0,.int .i64 (n:Int),v] h k:=by
 apply aCE.call;unfold aCE;obtain⟨T,hT⟩:∃T,jZ d n l=T:=⟨_,rfl⟩;rw[hT] at hk;refine⟨λvs h'=>∃(i:Nat) (d':Dk) (F':List Nat),i≤l.length∧vs=[pT a 0,.int .i64 (n:Int),v,.int .i64 (i:Int)]∧pI a d' h' F'∧fY h' aT 1 v (l.map jX) G∧(∀b∈G,b∉F')∧T=jZ d' (n+i) (l.drop i)∧d'.buf.length≤d.buf.length+i∧fT h F h' F',gT l.length 3,⟨0,d,F,by omega,rfl,D,O,hd,hT.symm,by omega,fT.refl⟩,?_⟩;rintro ρ h' ⟨i,d',F',hi,hvs,D',O',hd',hT',hb',st⟩;simp only[jF,kF,lT,and_true] at hvs;obtain⟨x0,x1,x2,x7⟩:=hvs;unfold aGP;rw[x0,x1,x2,x7];by_cases hlt:i<l.length
 ·have g:((i:Int)<(l.length:Int))=True:=eq_true (by omega);have gi:=oM (i:=i) (by omega);have gn:IntKind.i64.wrap ((n:Int)+(i:Int))=((n+i:Nat):Int):=by rw[fW (by omega) (by omega)];omega
  obtain⟨x,hx⟩:∃x,l[i]? =some x:=⟨_,lG hlt⟩;have ed:l.drop i=x::l.drop (i+1):=by
   rw[aBE hlt];have:l[i]=x:=by rw[lG hlt] at hx;simpa using hx
   rw[this]
  rw[ed,aLO] at hT';obtain⟨p,i1,i2⟩:=aGH O'.slR hx;simp only[uM O'.slR,g,i1,i2,gn,dF,reduceIte,dM,Nat.reduceAdd];refine aSc D' _ x (by omega) λh5 F5 D5 s5=>?_;have st5:=st.trans s5;by_cases c:(d'.wr ((n+i:Nat):Int) x).2=0
  ·have q:((d'.wr ((n+i:Nat):Int) x).2 !=0)=false:=by rw[c];rfl
   rw[if_neg (λe=>e c)] at hT';simp only[fZ,q,gi,dF,reduceIte,dM,Nat.reduceAdd];obtain⟨O5,hd5⟩:=O'.step s5 hd';have:=aQH d' ((n+i:Nat):Int) x;exact⟨⟨i+1,_,F5,by omega,rfl,D5,O5,hd5,by rw[←Nat.add_assoc];exact hT',by omega,st5⟩,by simp[gT,x7];omega⟩
  ·have q:((d'.wr ((n+i:Nat):Int) x).2 !=0)=true:=bne_iff_ne.2 c;rw[if_pos c] at hT';simp only[fZ,q,dF,reduceIte,dM,Nat.reduceAdd];subst hT';exact hk h5 F5 D5 st5
 ·have g:((i:Int)<(l.length:Int))=False:=eq_false (by omega);have ed:l.drop i=[]:=zO (by omega);rw[ed] at hT';have hT':T=d'.fl:=hT';simp only[uM O'.slR,g,dF,reduceIte,dM,Nat.reduceAdd];refine aNR D' (by omega) λh5 F5 D5 s5=>?_;subst hT';exact hk h5 F5 D5 (st.trans s5)
def aQq{h:PH}{a:Nat}{d:Dk}{F:List Nat}(D:pI a d h F)(h4:4≤d.sectors)(x:Hd)(hs:x.seg≤1)(hb:d.buf.length≤1000000){k:dI}
  (hk:∀h' v G,fY h' aT 1 v ((lF d.size x.gen (d.segs+1) (d.secs (d.base x.seg) d.segs) 0).1.map jX) G->fX h G->eM h h'->k (.tuple #[v,.int .i64 ((lF d.size x.gen (d.segs+1) (d.secs (d.base x.seg) d.segs) 0).2:Int)]) h'):bR PG aAU #[pT a 0,x.v] h k:=by
 apply rK.call;unfold rK;have hm:=D.ok.many;have hz:=D.ok.size;have hfit:=zH d h4 hs;have hsg:d.segs≤4096:=by unfold Dk.segs;omega
 intro r1 hr1
 try rw[dY]
 have u1:eM h (h.set r1 (.cells (Value.cells x.v) dD)):=eH.new hr1;have B1:Bx (h.set r1 (.cells (Value.cells x.v) dD)) r1 x.cells:=Bx.new;generalize h.set r1 (.cells (Value.cells x.v) dD)=h1 at *;refine⟨λvs h'=>∃i:Nat,i≤d.segs∧vs=[pT a 0,pT r1 0,.string (tx (d.secs (d.base x.seg) i).flatten),.int .i64 (i:Int)]∧Bx h' r1 x.cells∧eM h h',gT d.segs 3,⟨0,by omega,rfl,B1,u1⟩,?_⟩;rintro ρ h' ⟨i,hi,hvs,B,w⟩;simp only[jF,kF,lT,and_true] at hvs;obtain⟨x0,x3,x6,x7⟩:=hvs;unfold aEA;rw[x0,x3,x6,x7];refine aER (D.ext w) (by omega) ?_;have hfl:(d.secs (d.base x.seg) i).flatten.length=i*d.size:=by rw[aBK (aHF D.ok (by omega)),Dk.secs_len]
 have hz2:=hz.2;have him:i*d.size≤4096*512:=Nat.mul_le_mul (by omega) hz2;by_cases hlt:i<d.segs
 ·have g:((i:Int)<(d.segs:Int))=True:=eq_true (by omega);have gi:=oM (i:=i) (by omega);have gn:IntKind.i64.wrap ((d.base x.seg:Int)+(i:Int))=((d.base x.seg+i:Nat):Int):=by rw[fW (by omega) (by omega)];omega
  have erd:d.rd ((d.base x.seg+i:Nat):Int)=(d.at (d.base x.seg+i),0):=by
   unfold Dk.rd;rw[if_neg (by omega)];rfl
  have hal:=D.ok.at_len (n:=d.base x.seg+i) (by omega);simp only[g,aBy B,dF,reduceIte,dM,Nat.reduceAdd];refine aMd (D.ext w) (by omega) x hs λh5 u5=>?_;simp only[gn,dF,reduceIte,dM,Nat.reduceAdd];refine aK9 ((D.ext w).ext u5) _ hb ?_;rw[erd];have ea:dE PG (binOp .add aT (.string (tx (d.secs (d.base x.seg) i).flatten)) (.string (tx (d.at (d.base x.seg+i)))))=some (.string (tx (d.secs (d.base x.seg) (i+1)).flatten)):=by
   rw[aOA];exact kZ (by omega)
  simp only[ea,gi,dF,reduceIte,dM,Nat.reduceAdd];exact⟨⟨i+1,by omega,rfl,B.ext u5,w.trans u5⟩,by simp[gT,x7];omega⟩
 ·have g:((i:Int)<(d.segs:Int))=False:=eq_false (by omega);obtain rfl:i=d.segs:=by omega
  obtain⟨bv,L⟩:=(D.ext w).b;have bg:eA h' ⟨r1,0,none⟩=some (.int .u64 (x.gen:Int)):=B.cell 0;simp only[g,dQ.f0,aR.load,L.size,dD.f0,dN.load,bg,dF,reduceIte,dM,Nat.reduceAdd];have sl:=Dk.secs_len d (d.base x.seg) d.segs;refine aVW hz (aHF D.ok (by omega)) (by omega) λh6 v G O6 f6 u6=>?_;rw[sl] at O6 ⊢;simp only[dF,reduceIte,dM,Nat.reduceAdd];exact hk h6 v G O6 (f6.of w) (w.trans u6)
def Wl.ocells(r:Nat)(x:Wl):List Value:=[pT r 0,.int .u64 (x.hd.gen:Int),.int .i64 (x.hd.seg:Int),.int .i64 (x.slot:Int),.int .i64 (x.used:Int),.int .i64 (x.ser:Int),.bool x.ready,.bool x.broken]
structure WoA(a w:Nat)(d:Dk)(x:Wl)(h:PH)(F:List Nat):Prop where
 here:∃Fd,F=w::Fd∧Bx h w (x.ocells a)∧pI a d h Fd∧w∉Fd
 ok:WOk d x
 ser:x.ser≤x.used
 gen:x.hd.gen<18446744073709551616
def WoA.upd{a w:Nat}{d:Dk}{x:Wl}{h h':PH}{F K:List Nat}(H:WoA a w d x h F)(u:eH K h h')(hK:∀b∈F,b∉K):WoA a w d x h' F:=by
 obtain⟨Fd,rfl,B,D,n⟩:=H.here;exact⟨⟨Fd,rfl,B.upd u (hK w (by simp)),D.upd u (λb hb=>hK b (by simp[hb])),n⟩,H.ok,H.ser,H.gen⟩
def WoA.known{a w:Nat}{d:Dk}{x:Wl}{h:PH}{F:List Nat}(H:WoA a w d x h F):∀b∈F,h b≠none:=by
 obtain⟨Fd,rfl,B,D,n⟩:=H.here;intro b hb;rcases jW.1 hb with rfl|hb
 ·exact B.known
 ·exact D.known b hb
def WoA.good(a w:Nat)(d:Dk)(x:Wl):aIu (WoA a w d x):=⟨λH=>H.known,λH u hK=>H.upd u hK⟩
def WoA.ext{a w:Nat}{d:Dk}{x:Wl}{h h':PH}{F:List Nat}(H:WoA a w d x h F)(u:eM h h'):WoA a w d x h' F:=(WoA.good a w d x).ext H u
structure WoB(a w:Nat)(x:Wl)(h:PH):Prop where
 disk:eA h ⟨w,0,none⟩=some (pT a 0)
 head:dH PG h (loadAt dD (pT w (0+1)))=some x.hd.v
 gen:eA h ⟨w,0+1,none⟩=some (.int .u64 (x.hd.gen:Int))
 slot:eA h ⟨w,0+3,none⟩=some (.int .i64 (x.slot:Int))
 used:eA h ⟨w,0+4,none⟩=some (.int .i64 (x.used:Int))
 ser:eA h ⟨w,0+5,none⟩=some (.int .i64 (x.ser:Int))
 ready:eA h ⟨w,0+6,none⟩=some (.bool x.ready)
 broken:eA h ⟨w,0+7,none⟩=some (.bool x.broken)
def WoB.of{a w:Nat}{x:Wl}{h:PH}(B:Bx h w (x.ocells a)):WoB a w x h:=
 ⟨B.cell 0,dD.agg B (by show 0+1+2≤8;decide),B.cell 1,B.cell 3,B.cell 4,B.cell 5,B.cell 6,B.cell 7⟩
def aUx{h:PH}{a w:Nat}{d:Dk}{x:Wl}{F:List Nat}(H:WoA a w d x h F)(n:Nat)(hn:n<1000000000){k:dI}(hk:k (.bool (fits d x n)) h):bR PG zR #[pT w 0,.int .i64 (n:Int)] h k:=by
 apply qJ.call;unfold qJ;obtain⟨Fd,eF,B,D,n1⟩:=id H.here;obtain⟨bv,LD⟩:=D.b;have L:=WoB.of B;have hm:=H.ok.ok.many;have h4:=H.ok.four;have hu:=H.ok.used;have hsg:d.segs≤4096:=by unfold Dk.segs;omega
 simp only[dO.f0,fN.load,L.disk,dQ.f0,aR.load,LD.size,dF,reduceIte,dM,Nat.reduceAdd];refine aLX d.size n hn ?_;by_cases c:fD d.size n=0
 ·have g:((0:Int)<(fD d.size n:Int))=False:=eq_false (by omega);have e:fits d x n=false:=by unfold fits;exact decide_eq_false (λh=>h.1 c)
  simp only[g,dF,reduceIte,dM,Nat.reduceAdd];rw[e] at hk;exact⟨λh=>absurd h (by decide),hk⟩
 ·have g:((0:Int)<(fD d.size n:Int))=True:=eq_true (by omega);have w1:IntKind.i64.wrap ((d.segs:Int)-(x.used:Int))=(d.segs:Int)-(x.used:Int):=fW (by omega) (by omega);have e:decide ((fD d.size n:Int)≤(d.segs:Int)-(x.used:Int))=fits d x n:=by
   unfold fits;rw[yA,decide_eq_true_iff,decide_eq_true_iff];omega
  simp only[g,dO.f0,dO.f3,fN.load,aR.load,L.disk,L.used,dF,reduceIte,dM,Nat.reduceAdd];refine aER D (by omega) ?_;simp only[w1,dF,reduceIte,dM,Nat.reduceAdd];rw[e];exact⟨λ_=>L.used,hk⟩
def aFG{x:Wl}(h:x.broken=false){e:Int}(he:e≠13):x.brk e=x:=aTl h he
def aPz{h0 h:PH}{a w:Nat}{d':Dk}{x:Wl}{F0 Fd:List Nat}{e:Int}(B:Bx h w (x.ocells a))(D:pI a d' h Fd)(n:w∉Fd)(ok:WOk d' x)(ser:x.ser≤x.used)(gen:x.hd.gen<18446744073709551616)(st:fT h0 F0 h (w::Fd))(he:e=13){k:dI}
  (hk:∀h' F',WoA a w d' (x.brk e) h' F'->fT h0 F0 h' F'->k (.int .i64 e) h'):dT PG (dX iI (pT w (0+7)) (.bool true)) h λ_ h2=>k (.int .i64 e) h2:=by
 refine iI.put B (o:=7) (by show 7<8;decide) rfl λh2 B2 u2=>?_;subst he;have B2:Bx h2 w ((x.brk 13).ocells a):=B2;refine hk h2 (w::Fd) ⟨⟨Fd,rfl,B2,D.upd u2 (lL n),n⟩,ok.brk 13,ser,gen⟩ ⟨st.upd.then u2 (λb hb=>?_),st.grow⟩;simp only[jI] at hb;exact st.grow b (by rw[hb];simp)
def aRw{h:PH}{a w:Nat}{d:Dk}{x:Wl}{F:List Nat}(H:WoA a w d x h F)(s:Tx)(hs:s.length≤1000000)(hb:d.buf.length≤990000){k:dI}
  (hk:∀h' F',WoA a w (jM d x s).1 (jM d x s).2.1 h' F'->fT h F h' F'->k (.int .i64 (jM d x s).2.2) h'):bR PG xW #[pT w 0,.string (tx s)] h k:=by
 apply oV.call;unfold oV;obtain⟨Fd,rfl,B,D,n1⟩:=id H.here;obtain⟨bv,LD⟩:=D.b;have L:=WoB.of B;have hm:=D.ok.many;have h4:=H.ok.four;have hu:=H.ok.used;have hser:=H.ser;have hz:=D.ok.size;have hsg:d.segs≤4096:=by unfold Dk.segs;omega
 have hwo:=H.ok.append s;unfold jM at hk;cases hx:x.broken with
 | true=>
  have lb:=L.broken;rw[hx] at lb;rw[if_pos hx] at hk;simp only[dO.f6,iI.load,lb,dF,reduceIte,dM,Nat.reduceAdd];exact hk h _ H fT.refl
 | false=>
  have lb:=L.broken;rw[hx] at lb;rw[if_neg (by rw[hx];decide)] at hk;cases cr:x.ready with
  | false=>
   have lr:=L.ready;rw[cr] at lr;rw[if_pos cr,aFG hx (by decide)] at hk;simp only[dO.f5,dO.f6,iI.load,lb,lr,dF,reduceIte,dM,Nat.reduceAdd];exact hk h _ H fT.refl
  | true=>
   have lr:=L.ready;rw[cr] at lr;rw[if_neg (by rw[cr];decide)] at hk;by_cases c1:4096<s.length
   ·have g1:((4096:Int)<(s.length:Int))=True:=eq_true (by omega);rw[if_pos ((yQ hz).2 c1),aFG hx (by decide)] at hk;simp only[dO.f5,dO.f6,iI.load,lb,lr,jS,g1,dF,reduceIte,dM,Nat.reduceAdd];exact hk h _ H fT.refl
   ·have g1:((4096:Int)<(s.length:Int))=False:=eq_false (by omega);have hp0:fD d.size s.length≠0:=λe=>c1 ((yQ hz).1 e);rw[if_neg hp0] at hk;simp only[dO.f0,dO.f1,dO.f4,dO.f5,dO.f6,iI.load,lb,lr,jS,g1,fN.load,L.disk,dQ.f0,aR.load,LD.size,dD.f0,dN.load,L.gen,L.ser,cvN x.ser (by omega),dF,reduceIte,dM,Nat.reduceAdd];refine aOM d.size x.hd.gen x.ser s hz H.gen (by omega) hs λh3 v G O3 f3 u3=>?_;have L3:=WoB.of (B.ext u3);have fl:(hY d.size x.hd.gen x.ser s).length=fD d.size s.length:=kQ ..;simp only[uM O3.slR,fl,dO.f0,dO.f3,fN.load,aR.load,L3.disk,L3.used,dF,reduceIte,dM,Nat.reduceAdd];refine aER (D.ext u3) (by omega) ?_;refine⟨L3.used,?_⟩;have w1:IntKind.i64.wrap ((d.segs:Int)-(x.used:Int))=(d.segs:Int)-(x.used:Int):=fW (by omega) (by omega);have hf0:fits d x s.length=decide (fD d.size s.length+x.used≤d.segs):=by
     unfold fits;rw[yA,decide_eq_true_iff,decide_eq_true_iff];exact⟨λh=>h.2,λh=>⟨hp0,h⟩⟩
    by_cases c2:fD d.size s.length+x.used≤d.segs
    ·have g2:((d.segs:Int)-(x.used:Int)<(fD d.size s.length:Int))=False:=eq_false (by omega);have cf:fits d x s.length=true:=by rw[hf0];exact decide_eq_true c2
     rw[if_neg (by rw[cf];decide)] at hk;have hfit:=zH d h4 H.ok.seg;have w2:IntKind.i64.wrap ((d.base x.hd.seg:Int)+(x.used:Int))=((d.base x.hd.seg+x.used:Nat):Int):=by rw[fW (by omega) (by omega)];omega
     simp only[w1,g2,dO.f0,dO.f1,dO.f3,fN.load,aR.load,L3.disk,L3.head,L3.used,dF,reduceIte,dM,Nat.reduceAdd];refine aMd (D.ext u3) (by omega) x.hd H.ok.seg λh5 u5=>?_;have e5:=u3.trans u5;have L5:=WoB.of (B.ext e5);refine⟨L5.used,L5.disk,?_⟩;have dG:∀b∈G,b∉Fd:=λb hb hf=>D.known b hf (f3 b hb);simp only[w2,dF,reduceIte,dM,Nat.reduceAdd];refine aJ1 (D.ext e5) (d.base x.hd.seg+x.used) (by omega) (O3.ext u5) dG (by omega) λh6 F6 D6 s6=>?_;obtain⟨B6,n6⟩:=(B.ext e5).step s6 n1;have st6:fT h (w::Fd) h6 (w::F6):=(fT.ext e5).trans (fT.in n1 s6);have hpo:=qV (hY d.size x.hd.gen x.ser s) D.ok (d.base x.hd.seg+x.used);have hd':jZ d (d.base x.hd.seg+x.used) (hY d.size x.hd.gen x.ser s)=vB d x s:=rfl;rw[hd'] at D6 hpo ⊢;have hap:=H.ok.ap cf;by_cases c6:(vB d x s).2=0
     ·have q6:((vB d x s).2 !=0)=false:=by rw[c6];rfl
      rw[if_neg (λe=>e c6)] at hk;have e:jM d x s=((vB d x s).1,⟨x.hd,x.slot,x.used+fD d.size s.length,x.ser+1,x.ready,false⟩,0):=by
       unfold jM;rw[if_neg (by rw[hx];decide),if_neg (by rw[cr];decide),if_neg hp0,if_neg (by rw[cf];decide),if_neg (λe=>e c6)]
      rw[e] at hwo;have L6:=WoB.of B6;have w3:IntKind.i64.wrap ((x.used:Int)+(fD d.size s.length:Int))=((x.used+fD d.size s.length:Nat):Int):=by rw[fW (by omega) (by omega)];omega
      have w4:IntKind.i64.wrap ((x.ser:Int)+1)=((x.ser+1:Nat):Int):=by rw[fW (by omega) (by omega)];omega
      simp only[fZ,q6,dO.f3,dO.f4,aR.load,L6.used,w3,dF,reduceIte,dM,Nat.reduceAdd];refine aR.put B6 (o:=4) (by show 4<8;decide) rfl λh7 B7 u7=>?_;have c5:eA h7 ⟨w,0+5,none⟩=some (.int .i64 (x.ser:Int)):=B7.cell 5;simp only[dO.f4,aR.load,c5,w4,dF,reduceIte,dM,Nat.reduceAdd];refine aR.put B7 (o:=5) (by show 5<8;decide) rfl λh8 B8 u8=>?_;have B8:Bx h8 w (Wl.ocells a ⟨x.hd,x.slot,x.used+fD d.size s.length,x.ser+1,x.ready,x.broken⟩):=B8;rw[hx] at B8;have u78:=u7.trans u8;exact hk h8 (w::F6) ⟨⟨F6,rfl,B8,D6.upd u78 (lL n6),n6⟩,hwo.1,by show x.ser+1≤x.used+fD d.size s.length;omega,H.gen⟩ ⟨st6.upd.trans (u78.mono λb hb=>.inl (by simp only[jI] at hb;simp[hb])),st6.grow⟩
     ·have q6:((vB d x s).2 !=0)=true:=bne_iff_ne.2 c6;rw[if_pos c6] at hk;simp only[fZ,q6,dO.f6,dF,reduceIte,dM,Nat.reduceAdd];exact aPz B6 D6 n6 (H.ok.to hpo.1 hpo.2.2.1) H.ser H.gen st6 (hap.resolve_left c6) hk
    ·have g2:((d.segs:Int)-(x.used:Int)<(fD d.size s.length:Int))=True:=eq_true (by omega);have cf:fits d x s.length=false:=by rw[hf0];exact decide_eq_false c2
     rw[if_pos cf,aFG hx (by decide)] at hk;simp only[w1,g2,dF,reduceIte,dM,Nat.reduceAdd];exact hk h3 _ (H.ext u3) (fT.ext u3)
def aJt{h:PH}{a w:Nat}{d:Dk}{x:Wl}{F:List Nat}(H:WoA a w d x h F)(s:Tx)(hs:s.length≤1000000)(hb:d.buf.length≤980000){k:dI}
  (hk:∀h' F',WoA a w (iE d x s).1 (iE d x s).2.1 h' F'->fT h F h' F'->k (.int .i64 (iE d x s).2.2) h'):bR PG pX #[pT w 0,.string (tx s)] h k:=by
 apply mR.call;unfold mR;obtain⟨Fd,rfl,B,D,n1⟩:=id H.here;obtain⟨bv,LD⟩:=D.b;have L:=WoB.of B;have hm:=D.ok.many;have h4:=H.ok.four;have hu:=H.ok.used;have hz:=D.ok.size;have hsg:d.segs≤4096:=by unfold Dk.segs;omega
 have hwo:=H.ok.check s;have hkW:=hk;unfold iE at hk;cases hx:x.broken with
 | true=>
  have lb:=L.broken;rw[hx] at lb;rw[if_pos hx] at hk;simp only[dO.f6,iI.load,lb,dF,reduceIte,dM,Nat.reduceAdd];exact hk h _ H fT.refl
 | false=>
  have lb:=L.broken;rw[hx] at lb;rw[if_neg (by rw[hx];decide)] at hk;by_cases c1:4096<s.length
  ·have g1:((4096:Int)<(s.length:Int))=True:=eq_true (by omega);rw[if_pos ((yQ hz).2 c1),aFG hx (by decide)] at hk;simp only[dO.f6,iI.load,lb,jS,g1,dF,reduceIte,dM,Nat.reduceAdd];exact hk h _ H fT.refl
  ·have g1:((4096:Int)<(s.length:Int))=False:=eq_false (by omega);have hp0:fD d.size s.length≠0:=λe=>c1 ((yQ hz).1 e);rw[if_neg hp0] at hk;simp only[dO.f0,dO.f6,iI.load,lb,jS,g1,fN.load,L.disk,dQ.f0,aR.load,LD.size,dF,reduceIte,dM,Nat.reduceAdd];refine aLX d.size s.length (by omega) ?_;refine⟨L.disk,?_⟩;refine aER D (by omega) ?_;by_cases c2:d.segs<fD d.size s.length
   ·have g2:((d.segs:Int)<(fD d.size s.length:Int))=True:=eq_true (by omega);rw[if_pos c2,aFG hx (by decide)] at hk;simp only[g2,dF,reduceIte,dM,Nat.reduceAdd];exact hk h _ H fT.refl
   ·have g2:((d.segs:Int)<(fD d.size s.length:Int))=False:=eq_false (by omega);rw[if_neg c2] at hk;simp only[g2,dO.f1,L.head,dF,reduceIte,dM,Nat.reduceAdd];refine aVS x.hd H.gen λh4' u4=>?_;obtain⟨N,hN⟩:∃N,iQ x.hd=N:=⟨_,rfl⟩;have hng:=aPo H.gen;have hns:=aKM x.hd;have hnh:=aOD (h:=x.hd) hz;have hn13:N.2≠13:=by
     rw[←hN];unfold iQ;split
     ·show(12:Int)≠13;decide
     ·show(0:Int)≠13;decide
    rw[hN] at hng hns hnh hk ⊢;obtain⟨N1,N2⟩:=N;simp only at hng hns hnh hk hn13;simp only[dF,reduceIte,dM,Nat.reduceAdd];intro r28 hr28
    try rw[dY]
    refine dD.fill (vs:=N1.cells) hr28 rfl N1.isC λh5 B5 u5=>?_;have e5:=u4.trans u5;by_cases c3:N2=0
    ·have q3:(N2 !=0)=false:=by rw[c3];rfl
     have L5:=WoB.of (B.ext e5);obtain⟨bv5,LD5⟩:=(D.ext e5).b;have n28:r28∉w::Fd:=λhm=>(H.ext u4).known r28 hm hr28;have n28':r28≠w∧r28∉Fd:=by simpa using n28
     have b0:eA h5 ⟨r28,0,none⟩=some (.int .u64 (N1.gen:Int)):=B5.cell 0;rw[if_neg (λe=>e c3)] at hk;simp only[fZ,q3,dO.f0,fN.load,L5.disk,dQ.f0,aR.load,LD5.size,dD.f0,dN.load,b0,dF,reduceIte,dM,Nat.reduceAdd];refine aOM d.size N1.gen 0 s hz hng (by decide) hs λh7 v G O7 f7 u7=>?_;have e7:=e5.trans u7;have L7:=WoB.of (B.ext e7);obtain⟨bv7,LD7⟩:=(D.ext e7).b;have B7:=B5.ext u7;simp only[dO.f0,fN.load,L7.disk,dQ.f0,aR.load,LD7.size,aBy B7,dF,reduceIte,dM,Nat.reduceAdd];refine aQu d.size N1 hng (by omega) λh8 u8=>?_;have e8:=e7.trans u8;have L8:=WoB.of (B.ext e8);simp only[dO.f0,fN.load,L8.disk,aBy (B7.ext u8),dF,reduceIte,dM,Nat.reduceAdd];refine aMd (D.ext e8) (by omega) N1 hns λh9' u9=>?_;have e9:=e8.trans u9;have L9':=WoB.of (B.ext e9);refine⟨L9'.disk,?_⟩;have fl:(hY d.size N1.gen 0 s).length=fD d.size s.length:=kQ ..;have hfit:=zH d h4 hns;have dG:∀b∈G,b∉Fd:=λb hb hf=>D.known b hf (e5.none (f7 b hb));refine aJ1 (D.ext e9) (d.base N1.seg) (by omega) ((O7.ext u8).ext u9) dG (by omega) λh9 F9 D9 s9=>?_;obtain⟨B9,n9⟩:=(B.ext e9).step s9 n1;have st9:fT h (w::Fd) h9 (w::F9):=(fT.ext e9).trans (fT.in n1 s9);obtain⟨Bn,mn⟩:=((B7.ext u8).ext u9).step s9 n28'.2;have hpo:=qV (hY d.size N1.gen 0 s) D.ok (d.base N1.seg);have hpb:=aCK (hY d.size N1.gen 0 s) d (d.base N1.seg);have hck:=WOk.ck (gen:=N1.gen) D.ok h4 hns hp0 (by omega);have hd':jZ d (d.base N1.seg) (hY d.size N1.gen 0 s)=nI d N1 s:=rfl;rw[hd'] at D9 hpo hpb ⊢;have hck:(nI d N1 s).2=0∨(nI d N1 s).2=13:=hck;by_cases c4:(nI d N1 s).2=0
     ·have q4:((nI d N1 s).2 !=0)=false:=by rw[c4];rfl
      rw[if_neg (λe=>e c4)] at hk;have L9:=WoB.of B9;have hsl:=H.ok.slot;have w1:IntKind.i64.wrap ((1:Int)-(x.slot:Int))=((1-x.slot:Nat):Int):=by rw[fW (by omega) (by omega)];omega
      simp only[fZ,q4,dO.f0,dO.f2,fN.load,aR.load,L9.disk,L9.slot,w1,aGo,dF,reduceIte,dM,Nat.reduceAdd];intro r79 hr79;refine jC ?_
      try rw[dY]
      have O12:=aG7 (h:=h9) (r:=r79) (gY d.size N1).1;have u12:eM h9 (h9.set r79 (.cells #[.string (tx (gY d.size N1).1)] aT)):=eH.new hr79;generalize h9.set r79 (.cells #[.string (tx (gY d.size N1).1)] aT)=h12 at *;have n79:∀b∈[r79],b∉F9:=λb hb hf=>by
       simp only[jI] at hb;rw[hb] at hf;exact D9.known r79 hf hr79
      refine aJ1 (D9.ext u12) (1-x.slot) (by omega) O12 n79 (by simp only[jY,lU];omega) λh13 F13 D13 s13=>?_;obtain⟨B13,n13⟩:=(B9.ext u12).step s13 n9;have st13:fT h (w::Fd) h13 (w::F13):=(st9.trans (fT.ext u12)).trans (fT.in n9 s13);obtain⟨En,en⟩:=(Bn.ext u12).step s13 mn;obtain⟨O13,-⟩:=(((O7.ext u8).ext u9).step s9 dG).1.ext u12 |>.step s13 (((O7.ext u8).ext u9).step s9 dG).2;have hpo2:=qV [(gY d.size N1).1] hpo.1 (1-x.slot);have hio:=aMu [(gY d.size N1).1] (d:=(nI d N1 s).1) (1-x.slot) (by rw[hpo.2.2.1];simp only[jY,lU];omega) (λy hy=>by
       simp only[jI] at hy;rw[hy,hpo.2.1];exact(hnh c3).2)
      obtain⟨P,hP⟩:∃P,jZ (nI d N1 s).1 (1-x.slot) [(gY d.size N1).1]=P:=⟨_,rfl⟩;rw[hP] at D13 hpo2 hk hio ⊢;have geo:P.1.sectors=d.sectors:=hpo2.2.2.1.trans hpo.2.2.1;by_cases c5:P.2=0
      ·have q5:(P.2 !=0)=false:=by rw[c5];rfl
       rw[if_neg (λe=>e c5)] at hk;have eW:iE d x s=(P.1,⟨N1,1-x.slot,fD d.size s.length,1,true,false⟩,0):=by
        unfold iE;rw[if_neg (by rw[hx];decide),if_neg hp0,if_neg c2,hN];simp only;rw[if_neg (λe=>e c3),if_neg (λe=>e c4),hP,if_neg (λe=>e c5)]
       rw[eW] at hwo;simp only[fZ,q5,dO.f1,dO.f2,dO.f3,dO.f4,dO.f5,aBy En,dF,reduceIte,dM,Nat.reduceAdd];refine dD.put B13 (vs:=N1.cells) (o:=1) rfl (by show 1+2≤8;decide) N1.isC λh14 B14 u14=>?_;have c14:eA h14 ⟨w,0+3,none⟩=some (.int .i64 (x.slot:Int)):=B14.cell 3;simp only[dO.f2,aR.load,c14,w1,dF,reduceIte,dM,Nat.reduceAdd];refine aR.put B14 (o:=3) (by show 3<8;decide) rfl λh15 B15 u15=>?_;simp only[uM O13.slR,fl,dO.f3,dO.f4,dO.f5,dF,reduceIte,dM,Nat.reduceAdd];refine aR.put B15 (o:=4) (by show 4<8;decide) rfl λh16 B16 u16=>?_;refine aR.put B16 (o:=5) (by show 5<8;decide) rfl λh17 B17 u17=>?_;refine iI.put B17 (o:=6) (by show 6<8;decide) rfl λh18 B18 u18=>?_;have B18:Bx h18 w (Wl.ocells a ⟨N1,1-x.slot,fD d.size s.length,1,true,x.broken⟩):=B18;rw[hx] at B18;have uu:=(((u14.trans u15).trans u16).trans u17).trans u18;exact hk h18 (w::F13) ⟨⟨F13,rfl,B18,D13.upd uu (lL n13),n13⟩,hwo.1,by show 1≤fD d.size s.length;omega,hng⟩ ⟨st13.upd.trans (uu.mono λb hb=>.inl (by simp only[jI] at hb;simp[hb])),st13.grow⟩
      ·have q5:(P.2 !=0)=true:=bne_iff_ne.2 c5;rw[if_pos c5] at hk;simp only[fZ,q5,dO.f6,dF,reduceIte,dM,Nat.reduceAdd];exact aPz B13 D13 n13 (H.ok.to hpo2.1 geo) H.ser H.gen st13 (hio.resolve_left c5) hk
     ·have q4:((nI d N1 s).2 !=0)=true:=bne_iff_ne.2 c4;rw[if_pos c4] at hk;simp only[fZ,q4,dO.f6,dF,reduceIte,dM,Nat.reduceAdd];exact aPz B9 D9 n9 (H.ok.to hpo.1 hpo.2.2.1) H.ser H.gen st9 (hck.resolve_left c4) hk
    ·have q3:(N2 !=0)=true:=bne_iff_ne.2 c3;rw[if_pos c3,aFG hx hn13] at hk;simp only[fZ,q3,dF,reduceIte,dM,Nat.reduceAdd];exact hk h5 _ (H.ext e5) (fT.ext e5)
def aX1(a:Nat):dE PG (build dO #[(0,pT a 0)])=some (.agg (Wl.ocells a Wl.zero).toArray):=by kernel_rfl
def aOG{h0 h:PH}{a w:Nat}{d:Dk}{hd:Hd}{slot us se:Nat}{F0 F:List Nat}(B:Bx h w (Wl.ocells a ⟨hd,slot,us,se,false,false⟩))(D:pI a d h F)(n1:w∉F)(h4:4≤d.sectors)(hs:hd.seg≤1)(h1:slot≤1)(hg:hd.gen<18446744073709551616)(hb:d.buf.length≤1000000)(st:fT h0 F0 h F)(fw:w∈F0∨h0 w=none){k:dI}
  (hk:∀h' F' v G,WoA a w d (aA7 d hd slot).1 h' F'->fY h' aT 1 v ((aA7 d hd slot).2.map jX) G->(∀b∈G,b∉F')->fT h0 F0 h' (F'++G)->k (.tuple #[pT w 0,v,.int .i64 0]) h'):xF k (pT a 0) (pT w 0) h:=by
 unfold xF;have L:=WoB.of B;have hm:=D.ok.many;have hsg:d.segs≤4096:=by unfold Dk.segs;omega
 simp only[dO.f1,L.head,dF,reduceIte,dM,Nat.reduceAdd];refine aQq D h4 hd hs hb λh7 v G O7 f7 e7=>?_;have sl:=Dk.secs_len d (d.base hd.seg) d.segs;have hle:=aJx (size:=d.size) (gen:=hd.gen) (d.segs+1) (d.secs (d.base hd.seg) d.segs) 0;have hma:=aI6 (size:=d.size) (gen:=hd.gen) (d.segs+1) (d.secs (d.base hd.seg) d.segs) 0;rw[sl] at hle;have hw:(aA7 d hd slot)=(⟨hd,slot,(lF d.size hd.gen (d.segs+1) (d.secs (d.base hd.seg) d.segs) 0).2,(lF d.size hd.gen (d.segs+1) (d.secs (d.base hd.seg) d.segs) 0).1.length,false,false⟩,(lF d.size hd.gen (d.segs+1) (d.secs (d.base hd.seg) d.segs) 0).1):=rfl;rw[hw] at hk;have hok:WOk d (aA7 d hd slot).1:=WOk.mk' D.ok h4 hs h1;rw[hw] at hok;obtain⟨R,hR⟩:∃R,lF d.size hd.gen (d.segs+1) (d.secs (d.base hd.seg) d.segs) 0=R:=⟨_,rfl⟩;rw[hR] at hk hok O7 hle hma ⊢;have B7:=B.ext e7;have D7:=D.ext e7;simp only[dO.f3,dO.f4,dF,reduceIte,dM,Nat.reduceAdd];refine aR.put B7 (o:=4) (by show 4<8;decide) rfl λh8 B8 u8=>?_;simp only[uM O7.slR,dO.f4,dF,reduceIte,dM,Nat.reduceAdd];refine aR.put B8 (o:=5) (by show 5<8;decide) rfl λh9 B9 u9=>?_;have B9:Bx h9 w (Wl.ocells a ⟨hd,slot,R.2,R.1.length,false,false⟩):=B9;have u89:=u8.trans u9;have nw:w∉G:=λhx=>B.known (f7 w hx);have dG:∀b∈G,b∉F:=λb hb hf=>D.known b hf (f7 b hb);refine hk h9 (w::F) v G ⟨⟨F,rfl,B9,D7.upd u89 (lL n1),n1⟩,hok,hma,hg⟩ (O7.upd u89 (lL nw)) (λb hb hm=>?_) ⟨?_,λb hb=>?_⟩
 ·rcases jW.1 hm with rfl|hm
  ·exact nw hb
  ·exact dG b hb hm
 ·exact(st.upd.trans e7.upd).then u89 (λb hb=>by
   simp only[jI] at hb;rw[hb];exact fw)
 ·simp only[zLT,jW,wQ] at hb;rcases hb with rfl|hb|hb
  ·exact fw
  ·exact st.grow b hb
  ·exact st.none (f7 b hb)
def aT0{h:PH}{a:Nat}{d:Dk}{F:List Nat}(D:pI a d h F)(hb:d.buf.length≤999000){k:dI}
  (bad:∀h' F',pI a (gQ d).1 h' F'->fT h F h' F'->(gQ d).2.2≠0->k (.tuple #[.pointer none,.slice none 0 0,.int .i64 (gQ d).2.2]) h')
  (hk:∀h' F' w v G,WoA a w (gQ d).1 (gQ d).2.1.1 h' F'->fY h' aT 1 v ((gQ d).2.1.2.map jX) G->(∀b∈G,b∉F')->fT h F h' (F'++G)->(gQ d).2.2=0->k (.tuple #[pT w 0,v,.int .i64 0]) h'):bR PG aCU #[pT a 0] h k:=by
 apply uC.call;unfold uC;have hm:=D.ok.many;have hz:=D.ok.size;unfold gQ at bad hk;obtain⟨bv,LD⟩:=D.b;by_cases c4:d.sectors<4
 ·have g:((d.sectors:Int)<4)=True:=eq_true (by omega);rw[if_pos c4] at bad;simp only[dQ.f1,aR.load,LD.sectors,g,dF,reduceIte,dM,Nat.reduceAdd];exact bad h F D fT.refl (by show(1:Int)≠0;decide)
 ·have g:((d.sectors:Int)<4)=False:=eq_false (by omega);rw[if_neg c4] at bad hk;simp only[dQ.f1,aR.load,LD.sectors,g,dF,reduceIte,dM,Nat.reduceAdd];refine aNR D (by omega) λh5 F5 D5 st5=>?_;by_cases c5:d.fl.2=0
  ·have q:(d.fl.2 !=0)=false:=by rw[c5];rfl
   rw[if_neg (λe=>e c5)] at bad hk;have eg:d.fl.1.size=d.size:=d.fl_geo.1;have es:d.fl.1.sectors=d.sectors:=d.fl_geo.2;have eb:d.fl.1.buf.length≤999000:=zLE (aTf d) hb;have rd:∀n:Nat,n<d.sectors->d.fl.1.rd (n:Int)=(d.fl.1.at n,0):=λn hn=>by
    unfold Dk.rd;rw[if_neg (by omega)];rfl
   simp only[fZ,q,dF,reduceIte,dM,Nat.reduceAdd];refine aK9 D5 0 (by omega) ?_;rw[show d.fl.1.rd 0=(d.fl.1.at 0,0) from rd 0 (by omega)];simp only[dF,reduceIte,dM,Nat.reduceAdd];refine aK9 D5 1 (by omega) ?_;rw[show d.fl.1.rd 1=(d.fl.1.at 1,0) from rd 1 (by omega)];simp only[aX1,dF,reduceIte,dM,Nat.reduceAdd];intro r17 hr17
   try rw[dY]
   have u6:eM h5 (h5.set r17 (.cells (Value.cells (.agg (Wl.ocells a Wl.zero).toArray)) dO)):=eH.new hr17;have B6:Bx (h5.set r17 (.cells (Value.cells (.agg (Wl.ocells a Wl.zero).toArray)) dO)) r17 (Wl.ocells a Wl.zero):=Bx.new;generalize h5.set r17 (.cells (Value.cells (.agg (Wl.ocells a Wl.zero).toArray)) dO)=h6 at *;have n5:r17∉F5:=λhm=>D5.known r17 hm hr17;have fw:r17∈F∨h r17=none:=st5.none hr17;have al0:=D5.ok.at_len (n:=0) (by omega);have al1:=D5.ok.at_len (n:=1) (by omega);rw[eg] at al0 al1;unfold iB at hz;obtain⟨bv6,LD6⟩:=(D5.ext u6).b;have ls:=LD6.size;rw[eg] at ls;simp only[dQ.f0,aR.load,ls,aV1,dF,reduceIte,dM,Nat.reduceAdd];intro r22 hr22;refine jC ?_
   try rw[dY]
   have O9:=aQM (h:=h6) (r:=r22) (d.fl.1.at 0) (d.fl.1.at 1);have u9:eM h6 (h6.set r22 (.cells #[.string (tx (d.fl.1.at 0)),.string (tx (d.fl.1.at 1))] aT)):=eH.new hr22;generalize h6.set r22 (.cells #[.string (tx (d.fl.1.at 0)),.string (tx (d.fl.1.at 1))] aT)=h9 at *;refine aSj d.size _ _ O9.slR (by omega) (by omega) λh10 u10=>?_;have e10:=(u6.trans u9).trans u10;have B10:=(B6.ext u9).ext u10;have D10:=D5.ext e10;have st10:=st5.trans (fT.ext (F:=F5) e10);obtain⟨N,hN⟩:∃N,oS d.size (d.fl.1.at 0) (d.fl.1.at 1)=N:=⟨_,rfl⟩;have hno:=aJE d.size (d.fl.1.at 0) (d.fl.1.at 1);have hng:=aM9 d.size (d.fl.1.at 0) (d.fl.1.at 1);rw[hN] at bad hk hno hng ⊢;obtain⟨N1,N2⟩:=N;simp only[dO.f1,dO.f2,dF,reduceIte,dM,Nat.reduceAdd];refine dD.put B10 (vs:=N1.cells) (o:=1) rfl (by show 1+2≤8;decide) N1.isC λh11 B11 u11=>?_;refine aR.put B11 (o:=3) (by show 3<8;decide) rfl λh12 B12 u12=>?_;have c12:eA h12 ⟨r17,0+3,none⟩=some (.int .i64 N2):=B12.cell 3;have u112:=u11.trans u12;have D12:=D10.upd u112 (lL n5);have st12:fT h F h12 F5:=⟨st10.upd.then u112 (λb hb=>by
    simp only[jI] at hb;rw[hb];exact fw),st10.grow⟩
   by_cases c:N2<0
   ·have g:(N2<0)=True:=eq_true c;rw[if_pos c] at bad hk;simp only[dO.f1,dO.f2,aR.load,c12,g,aWw,dF,reduceIte,dM,Nat.reduceAdd];refine dD.put B12 (vs:=Hd.cells ⟨1,0⟩) (o:=1) rfl (by show 1+2≤8;decide) (Hd.isC _) λh13 B13 u13=>?_;refine aR.put B13 (o:=3) (by show 3<8;decide) rfl λh14 B14 u14=>?_;have B14:Bx h14 r17 (Wl.ocells a ⟨⟨1,0⟩,1,0,0,false,false⟩):=B14;have u134:=u13.trans u14;have D14:=D12.upd u134 (lL n5);have L14:=WoB.of B14;have st14:fT h F h14 F5:=⟨st12.upd.then u134 (λb hb=>by
     simp only[jI] at hb;rw[hb];exact fw),st12.grow⟩
    obtain⟨bv14,LD14⟩:=D14.b;have ls:=LD14.size;rw[eg] at ls;simp only[dQ.f0,aR.load,ls,dO.f1,L14.head,dF,reduceIte,dM,Nat.reduceAdd];refine aQu d.size ⟨1,0⟩ (by decide) (by decide) λh16 e16=>?_;simp only[aGo,dF,reduceIte,dM,Nat.reduceAdd];intro r61 hr61;refine jC ?_
    try rw[dY]
    have O17:=aG7 (h:=h16) (r:=r61) (gY d.size ⟨1,0⟩).1;have u17:eM h16 (h16.set r61 (.cells #[.string (tx (gY d.size ⟨1,0⟩).1)] aT)):=eH.new hr61;generalize h16.set r61 (.cells #[.string (tx (gY d.size ⟨1,0⟩).1)] aT)=h17 at *;have e17:=e16.trans u17;have n61:∀b∈[r61],b∉F5:=λb hb hf=>by
     simp only[jI] at hb;rw[hb] at hf;exact D14.known r61 hf (e16.none hr61)
    refine aJ1 (D14.ext e17) 1 (by decide) O17 n61 (by simp only[jY,lU];omega) λh18 F18 D18 s18=>?_;obtain⟨B18,n18⟩:=(B14.ext e17).step s18 n5;have st18:=(st14.trans (fT.ext e17)).trans s18;obtain⟨P,hP⟩:∃P,jZ d.fl.1 1 [(gY d.size ⟨1,0⟩).1]=P:=⟨_,rfl⟩;have hpo:=qV [(gY d.size ⟨1,0⟩).1] D5.ok 1;have hpb:=aCK [(gY d.size ⟨1,0⟩).1] d.fl.1 1;rw[hP] at bad hk D18 hpo hpb ⊢;by_cases c6:P.2=0
    ·have q6:(P.2 !=0)=false:=by rw[c6];rfl
     rw[if_neg (λe=>e c6)] at hk;simp only[fZ,q6,dF,reduceIte,dM,Nat.reduceAdd];simp only[jY,lU] at hpb;refine aOG B18 D18 n18 (by rw[hpo.2.2.1];omega) (by decide) (by decide) (by decide) (by omega) st18 fw λh' F' v G W O dj st=>?_;exact hk h' F' r17 v G W O dj st rfl
    ·have q6:(P.2 !=0)=true:=bne_iff_ne.2 c6;rw[if_pos c6] at bad;simp only[fZ,q6,dF,reduceIte,dM,Nat.reduceAdd];exact bad h18 F18 D18 st18 c6
   ·have g:(N2<0)=False:=eq_false c;rw[if_neg c] at hk;simp only[dO.f2,aR.load,c12,g,dF,reduceIte,dM,Nat.reduceAdd];have en:N2=((N2.toNat:Nat):Int):=by omega
    have B12:Bx h12 r17 (Wl.ocells a ⟨N1,N2.toNat,0,0,false,false⟩):=by
     rw[en] at B12;exact B12
    refine aOG B12 D12 n5 (by rw[es];omega) hno.1 (by have:=hno.2;simp only at this;omega) hng (by omega) st12 fw λh' F' v G W O dj st=>?_;exact hk h' F' r17 v G W O dj st rfl
  ·have q:(d.fl.2 !=0)=true:=bne_iff_ne.2 c5;rw[if_pos c5] at bad;simp only[fZ,q,dF,reduceIte,dM,Nat.reduceAdd];exact bad h5 F5 D5 st5 c5
def aOe{h:PH}{q:Pl}(w:q.wf){k:dI}(hbad:¬kX q->∀h',eM h h'->k (.tuple #[.string (tx []),.int .i64 1]) h')(hk:kX q->∀h',eM h h'->k (.tuple #[.string (tx q.bs),.int .i64 0]) h'):bR PG oF #[.agg q.cells.toArray] h k:=by
 apply sO.call;unfold sO;intro r hr
 try rw[dY]
 have u1:eM h (h.set r (.cells (Value.cells (.agg q.cells.toArray)) dK)):=eH.new hr;have B1:Bx (h.set r (.cells (Value.cells (.agg q.cells.toArray)) dK)) r q.cells:=Bx.new;generalize h.set r (.cells (Value.cells (.agg q.cells.toArray)) dK)=h1 at *;have l0:∀{h':PH},eM h1 h'->dH PG h' (loadAt dN (pT r 0))=some (.int .u64 q.h):=λu=>by rw[dN.load,(B1.ext u).cell];rfl
 have l1:∀{h':PH},eM h1 h'->dH PG h' (loadAt aR (pT r 1))=some (.int .i64 q.i):=λu=>by rw[aR.load,(B1.ext u).cell];rfl
 have q0:({data:=#[]}:ByteArray)=tx []:=rfl;by_cases h0:q.i<0
 ·have g:=eq_true h0;simp only[dK.f1,l1 eH.refl,g,q0,dF,reduceIte,dM,Nat.reduceAdd];exact hbad (λc=>by have:=c.1;omega) _ u1
 have g:=eq_false h0;by_cases h2:65535<q.i
 ·have g2:=eq_true h2;simp only[dK.f1,l1 eH.refl,g,g2,q0,dF,reduceIte,dM,Nat.reduceAdd];exact hbad (λc=>by have:=c.2;omega) _ u1
 have g2:=eq_false h2;have hk:=hk ⟨by omega,by omega⟩;obtain⟨H,i⟩:=q;obtain⟨w1,w2⟩:=w;simp only at *;obtain⟨H,rfl⟩:=zLm w1;obtain⟨i,rfl⟩:=zLm (Int.not_lt.1 h0);have c1:IntKind.u64.wrap (i:Int)=(i:Int):=lJ (by omega) (by omega);simp only[dK.f1,dK.f0,l1 eH.refl,l0 eH.refl,g,g2,aFI,c1,dF,reduceIte,dM,Nat.reduceAdd];refine nO (by omega) (by decide) λh2 u2=>?_;simp only[l1 u2,eq_self,true_and];refine nO (by omega) (by decide) λh3 u3=>?_;rw[kZ (by simp only[iZ];decide)];simp only[dF,reduceIte,dM,Nat.reduceAdd];unfold Pl.bs at hk;exact hk _ (u1.trans (u2.trans u3))
def aBI{i:It}:i.right=true↔aEq i:=by
 unfold It.right aEq;simp only[tM,aHb,decide_eq_true_eq];constructor
 ·rintro⟨a,b⟩;exact⟨by omega,by omega,b⟩
 ·rintro⟨a,b,c⟩;exact⟨by omega,c⟩
def aBL{i:Nt}:i.right=true↔aGF i:=by
 unfold Nt.right aGF;simp only[tM,decide_eq_true_eq,and_assoc]
def aXZ{x:Int×Pk}(h:x.2.right=true):(aD2 x).length≤84:=by
 have:=(Pk.right_iff.1 h).2.2.2.2;simp only[aD2,Pk.bs,kO,iZ,aIp];omega
def aL9(l:List (Int×Pk))(x:Int×Pk):mL (l++[x])=mL l++aD2 x:=by
 induction l with
 | nil=>simp[mL]
 | cons y l ih=>simp[mL,ih]
def aGW:∀{l:List (Int×Pk)},(∀x∈l,x.2.right=true)->(mL l).length≤84*l.length
 | [],_=>by simp[mL]
 | x::l,h=>by
  have h1:=aXZ (h x (by simp));have h2:=aGW (l:=l) λy hy=>h y (by simp[hy]);simp only[mL,kO,jY];omega
def aOk{h:PH}{v:Value}{l:List It}(V:jE h 5 v (l.map It.cells))(hl:l.length≤100000)(w:∀i∈l,i.p.wf){k:dI}
  (hbad:¬(l.length≤255∧∀i∈l,i.right=true)->∀h',eM h h'->k (.tuple #[.string (tx []),.int .i64 1]) h') (hk:l.length≤255->(∀i∈l,i.right=true)->∀h',eM h h'->k (.tuple #[.string (tx (tP (l.map It.x))),.int .i64 0]) h'):
  bR PG sJ #[v] h k:=by
 have lx:=V.len (t':=aR) dC.und;rw[jJ] at lx;have q0:({data:=#[]}:ByteArray)=tx []:=rfl;apply sQ.call;unfold sQ;by_cases h2:255<l.length
 ·have g:((255:Int)<(l.length:Int))=True:=eq_true (by omega);simp only[lx,g,q0,dF,reduceIte,dM,Nat.reduceAdd];exact hbad (λc=>by have:=c.1;omega) _ eH.refl
 have g:((255:Int)<(l.length:Int))=False:=eq_false (by omega);have c1:IntKind.u64.wrap (l.length:Int)=(l.length:Int):=lJ (by omega) (by omega);simp only[lx,g,aFI,c1,dF,reduceIte,dM,Nat.reduceAdd];refine nO (by omega) (by decide) λh2 u2=>?_;refine⟨λvs h'=>∃i:Nat,i≤l.length∧vs=[v,.string (tx (be l.length 1++mL ((l.take i).map It.x))),.int .i64 (i:Int)]∧eM h h'∧∀y∈l.take i,y.right=true,gT l.length 2,⟨0,by omega,by simp[mL],u2,by simp⟩,?_⟩;rintro ρ h' ⟨i,hi,hvs,u,hr⟩;simp only[jF,kF,lT,and_true] at hvs;obtain⟨e0,e1,e2⟩:=hvs;unfold aE7;rw[e0,e1,e2];by_cases hlt:i<l.length
 ·have hd:((i:Int)<(l.length:Int))=True:=by apply eq_true;omega
  obtain⟨m,hm⟩:∃m,l[i]? =some m:=⟨_,lG hlt⟩;have hmem:m∈l:=wE hm;have look:∃b o,dE PG (indexAt dC v (.int .i64 (i:Int)))=some (pT b o)∧∀{h'':PH},eM h h''->dH PG h'' (loadAt dJ (pT b o))=some (m.val)∧dH PG h'' (loadAt aR (pT b (o+4)))=some (.int .i64 m.g)∧dH PG h'' (loadAt cT (pT b o))=some (.agg m.p.cells.toArray):=by
   obtain⟨b,o,cs,e',fr,h1,hb,hle,hex⟩:=V.at dC.und dJ.info dJ.size (k:=.i64) (j:=(i:Int)) (r:=m.cells) (by omega) (by rw[xB,xZ,hm];rfl);have hd:∀i n,i+n≤5->(cs.extract (o+i) (o+i+n)).toList=(m.cells.drop i).take n:=λi n hi=>by
    rw[←hex];simp only[zLD,zLx,aCw,zLy,rQ,aJV];congr 1;omega
   refine⟨b,o,h1,fun {h''} u=>?_⟩;have hb':=u.get hb;refine⟨?_,?_,?_⟩
   ·rw[dJ.loadAgg hb' hle];congr 2;exact zLw (hd 0 5 (by decide))
   ·rw[aR.load];unfold eA;simp only[hb'];have:=congrArg (λl:List Value=>l[0]?) (hd 4 1 (by decide));simp only[zLD,zLx,zLP,aCw,aEv,aJ4] at this;simpa[It.cells,Pk.cells] using this
   ·rw[cT.loadAgg hb' (by omega)];congr 2;exact zLw (hd 0 4 (by decide))
  obtain⟨b,o,a1,a2⟩:=look;have ei:=oM (i:=i) (by omega);have wm:=w m hmem;simp only[lx,hd,a1,(a2 u).1,dF,reduceIte,dM,Nat.reduceAdd];refine aMm m wm.1 wm.2.2.1 λh3 u3=>?_;have e3:=u.trans u3;by_cases hm2:m.right=true
  ·have ok:=aBI.1 hm2;have hp:m.p.right=true:=ok.2.2;obtain⟨n,hn⟩:∃n:Nat,m.g=(n:Int):=zLm (by have:=ok.1;omega);have ex:m.x=((n:Int),m.p):=by rw[aN0 ok,hn]
   have hn':n≤255:=by have:=ok.2.1;omega
   have c2:IntKind.u64.wrap (n:Int)=(n:Int):=lJ (by omega) (by omega);have hlen:(mL ((l.take i).map It.x)).length≤84*255:=by
    have:=aGW (l:=(l.take i).map It.x) (by
     simp only[aJe];intro y hy;have oy:=aBI.1 (hr y hy);rw[aN0 oy];exact oy.2.2)
    rw[jJ,mT] at this;omega
   simp only[hm2,dJ.f0,dJ.f1,(a2 e3).2.1,(a2 e3).2.2,hn,aFI,c2,dF,reduceIte,dM,Nat.reduceAdd];refine nO (by omega) (by decide) λh4 u4=>?_;have e4:=e3.trans u4;have s1:dE PG (binOp .add aT (.string (tx (be l.length 1++mL ((l.take i).map It.x)))) (.string (tx (be n 1))))=some (.string (tx ((be l.length 1++mL ((l.take i).map It.x))++be n 1))):=kZ (by simp only[iZ,kO];omega);simp only[(a2 e4).2.2,s1,eq_self,true_and,dF,reduceIte,dM,Nat.reduceAdd];refine aMt wm hp λh5 u5=>?_;have hpl:m.p.bs.length≤84:=by
    have:=(Pk.right_iff.1 hp).2.2.2.2;simp only[Pk.bs,kO,iZ,aIp];omega
   have s2:dE PG (binOp .add aT (.string (tx ((be l.length 1++mL ((l.take i).map It.x))++be n 1))) (.string (tx m.p.bs)))=some (.string (tx (be l.length 1++mL ((l.take (i+1)).map It.x)))):=by
    rw[kZ (by simp only[iZ,kO];omega),zLR,hm];simp only[Option.toList,xX,jF,kF,aL9,ex,aD2,xZ,xN]
   simp only[s2,ei,dF,reduceIte,dM,Nat.reduceAdd];refine⟨⟨i+1,by omega,rfl,e4.trans u5,λy hy=>?_⟩,by simp[gT,e2];omega⟩;rw[zLR,hm] at hy;rcases wQ.1 hy with hy|hy
   ·exact hr y hy
   ·simp at hy;subst hy;exact hm2
  ·have hf:m.right=false:=by simpa using hm2
   simp only[hf,q0,dF,reduceIte,dM,Nat.reduceAdd];exact hbad (λc=>hm2 (c.2 m hmem)) _ e3
 ·have hd:((i:Int)<(l.length:Int))=False:=by apply eq_false;omega
  rw[sU (by omega)] at hr e1 ⊢;simp only[lx,hd,dF,reduceIte,dM,Nat.reduceAdd];have hk:=hk (by omega) hr _ u;unfold tP at hk;rw[jJ] at hk;exact hk
def aOh{h:PH}{v:Value}{l:List Nt}(V:jE h 5 v (l.map Nt.cells))(hl:l.length≤100000)(w:∀i∈l,i.p.wf){k:dI}
  (hbad:¬(l.length≤255∧∀i∈l,i.right=true)->∀h',eM h h'->k (.tuple #[.string (tx []),.int .i64 1]) h') (hk:l.length≤255->(∀i∈l,i.right=true)->∀h',eM h h'->k (.tuple #[.string (tx (tP (l.map Nt.x))),.int .i64 0]) h'):
  bR PG sL #[v] h k:=by
 have lx:=V.len (t':=aR) eK.und;rw[jJ] at lx;have q0:({data:=#[]}:ByteArray)=tx []:=rfl;apply tB.call;unfold tB;by_cases h2:255<l.length
 ·have g:((255:Int)<(l.length:Int))=True:=eq_true (by omega);simp only[lx,g,q0,dF,reduceIte,dM,Nat.reduceAdd];exact hbad (λc=>by have:=c.1;omega) _ eH.refl
 have g:((255:Int)<(l.length:Int))=False:=eq_false (by omega);have c1:IntKind.u64.wrap (l.length:Int)=(l.length:Int):=lJ (by omega) (by omega);simp only[lx,g,aFI,c1,dF,reduceIte,dM,Nat.reduceAdd];refine nO (by omega) (by decide) λh2 u2=>?_;refine⟨λvs h'=>∃i:Nat,i≤l.length∧vs=[v,.string (tx (be l.length 1++mL ((l.take i).map Nt.x))),.int .i64 (i:Int)]∧eM h h'∧∀y∈l.take i,y.right=true,gT l.length 2,⟨0,by omega,by simp[mL],u2,by simp⟩,?_⟩;rintro ρ h' ⟨i,hi,hvs,u,hr⟩;simp only[jF,kF,lT,and_true] at hvs;obtain⟨e0,e1,e2⟩:=hvs;unfold aE4;rw[e0,e1,e2];by_cases hlt:i<l.length
 ·have hd:((i:Int)<(l.length:Int))=True:=by apply eq_true;omega
  obtain⟨m,hm⟩:∃m,l[i]? =some m:=⟨_,lG hlt⟩;have hmem:m∈l:=wE hm;have look:∃b o,dE PG (indexAt eK v (.int .i64 (i:Int)))=some (pT b o)∧∀{h'':PH},eM h h''->dH PG h'' (loadAt dP (pT b o))=some (.agg m.cells.toArray)∧dH PG h'' (loadAt aR (pT b o))=some (.int .i64 m.k)∧dH PG h'' (loadAt cT (pT b (o+1)))=some (.agg m.p.cells.toArray):=by
   obtain⟨b,o,cs,e',fr,h1,hb,hle,hex⟩:=V.at eK.und dP.info dP.size (k:=.i64) (j:=(i:Int)) (r:=m.cells) (by omega) (by rw[xB,xZ,hm];rfl);have hd:∀i n,i+n≤5->(cs.extract (o+i) (o+i+n)).toList=(m.cells.drop i).take n:=λi n hi=>by
    rw[←hex];simp only[zLD,zLx,aCw,zLy,rQ,aJV];congr 1;omega
   refine⟨b,o,h1,fun {h''} u=>?_⟩;have hb':=u.get hb;refine⟨?_,?_,?_⟩
   ·rw[dP.loadAgg hb' hle];congr 2;exact zLw (hd 0 5 (by decide))
   ·rw[aR.load];unfold eA;simp only[hb'];have:=congrArg (λl:List Value=>l[0]?) (hd 0 1 (by decide));simp only[zLD,zLx,zLP,aCw,aEv,aJ4] at this;simpa[Nt.cells,Pk.cells] using this
   ·rw[cT.loadAgg hb' (by omega)];congr 2;exact zLw (hd 1 4 (by decide))
  obtain⟨b,o,a1,a2⟩:=look;have ei:=oM (i:=i) (by omega);have wm:=w m hmem;simp only[lx,hd,a1,(a2 u).1,dF,reduceIte,dM,Nat.reduceAdd];refine aMw m wm.1 wm.2.2.1 λh3 u3=>?_;have e3:=u.trans u3;by_cases hm2:m.right=true
  ·have ok:=aBL.1 hm2;have hp:m.p.right=true:=ok.2.2;obtain⟨n,hn⟩:∃n:Nat,m.k=(n:Int):=zLm (by have:=ok.1;omega);have ex:m.x=((n:Int),m.p):=by rw[aNv ok,hn]
   have hn':n≤255:=by have:=ok.2.1;omega
   have c2:IntKind.u64.wrap (n:Int)=(n:Int):=lJ (by omega) (by omega);have hlen:(mL ((l.take i).map Nt.x)).length≤84*255:=by
    have:=aGW (l:=(l.take i).map Nt.x) (by
     simp only[aJe];intro y hy;have oy:=aBL.1 (hr y hy);rw[aNv oy];exact oy.2.2)
    rw[jJ,mT] at this;omega
   simp only[hm2,dP.f0,dP.f1,(a2 e3).2.1,(a2 e3).2.2,hn,aFI,c2,dF,reduceIte,dM,Nat.reduceAdd];refine nO (by omega) (by decide) λh4 u4=>?_;have e4:=e3.trans u4;have s1:dE PG (binOp .add aT (.string (tx (be l.length 1++mL ((l.take i).map Nt.x)))) (.string (tx (be n 1))))=some (.string (tx ((be l.length 1++mL ((l.take i).map Nt.x))++be n 1))):=kZ (by simp only[iZ,kO];omega);simp only[(a2 e4).2.2,s1,eq_self,true_and,dF,reduceIte,dM,Nat.reduceAdd];refine aMt wm hp λh5 u5=>?_;have hpl:m.p.bs.length≤84:=by
    have:=(Pk.right_iff.1 hp).2.2.2.2;simp only[Pk.bs,kO,iZ,aIp];omega
   have s2:dE PG (binOp .add aT (.string (tx ((be l.length 1++mL ((l.take i).map Nt.x))++be n 1))) (.string (tx m.p.bs)))=some (.string (tx (be l.length 1++mL ((l.take (i+1)).map Nt.x)))):=by
    rw[kZ (by simp only[iZ,kO];omega),zLR,hm];simp only[Option.toList,xX,jF,kF,aL9,ex,aD2,xZ,xN]
   simp only[s2,ei,dF,reduceIte,dM,Nat.reduceAdd];refine⟨⟨i+1,by omega,rfl,e4.trans u5,λy hy=>?_⟩,by simp[gT,e2];omega⟩;rw[zLR,hm] at hy;rcases wQ.1 hy with hy|hy
   ·exact hr y hy
   ·simp at hy;subst hy;exact hm2
  ·have hf:m.right=false:=by simpa using hm2
   simp only[hf,q0,dF,reduceIte,dM,Nat.reduceAdd];exact hbad (λc=>hm2 (c.2 m hmem)) _ e3
 ·have hd:((i:Int)<(l.length:Int))=False:=by apply eq_false;omega
  rw[sU (by omega)] at hr e1 ⊢;simp only[lx,hd,dF,reduceIte,dM,Nat.reduceAdd];have hk:=hk (by omega) hr _ u;unfold tP at hk;rw[jJ] at hk;exact hk
def ixQ{r o i:Nat}(hi:i<2):dE PG (indexAt eD (pT r o) (.int .i64 (i:Int)))=some (pT r (o+i*2)):=by
 have ix:=uI (P:=PG) (t:=eD) (b:=r) (o:=o) (k:=.i64) (j:=(i:Int)) eD.und dK.info dK.size (by omega) (by omega);rw[ix,xZ]
def aX6{r o:Nat}:dE PG (indexAt eD (pT r o) (.int .i64 0))=some (pT r o):=ixQ (i:=0) (by decide)
def aXa{r o:Nat}:dE PG (indexAt eD (pT r o) (.int .i64 1))=some (pT r (o+2)):=ixQ (i:=1) (by decide)
def mP.neq{h:PH}{x y:Operand}(p q p' q':Pl):dH PG h (gV .neq eD x y (mP p q) (mP p' q'))=some (.bool (!decide (p=p'∧q=q'))):=by
 refine aKy (by kernel_rfl) ?_;rw[aNW eD.und dK.info dK.size (λj=>if j=0 then decide (p=p') else decide (q=q'))]
 ·congr 1;simp[List.range,List.range.loop]
 ·intro j hj;have:j=0∨j=1:=by omega
  rcases this with rfl|rfl
  ·exact⟨_,_,aA9 dK.und rfl dK.info dK.size,aA9 dK.und rfl dK.info dK.size,Pl.eqIn (d:=9997) p p'⟩
  ·exact⟨_,_,aA9 dK.und rfl dK.info dK.size,aA9 dK.und rfl dK.info dK.size,Pl.eqIn (d:=9997) q q'⟩
def aJ6{h:PH}{q:Pl}(w:q.wf){k:dI}(hk:∀h' s e,(e=0∧kX q∨e=1∧¬kX q)->s.length≤100000->eM h h'->k (.tuple #[.string (tx s),.int .i64 e]) h'):bR PG oF #[.agg q.cells.toArray] h k:=
 aOe w (λc h' u=>hk h' [] 1 (.inr ⟨rfl,c⟩) (by simp) u) (λc h' u=>hk h' _ 0 (.inl ⟨rfl,c⟩) (by simp[Pl.bs,iZ]) u)
def aR7{h:PH}{v:Value}{l:List It}(V:jE h 5 v (l.map It.cells))(hl:l.length≤100000)(w:∀i∈l,i.p.wf){k:dI}
  (hk:∀h' s e,(e=0∧(∀i∈l,aEq i)∨e=1∧¬(l.length≤255∧∀i∈l,aEq i))->s.length≤100000->eM h h'->k (.tuple #[.string (tx s),.int .i64 e]) h'):bR PG sJ #[v] h k:=
 aOk V hl w (λc h' u=>hk h' [] 1 (.inr ⟨rfl,λd=>c ⟨d.1,λi hi=>aBI.2 (d.2 i hi)⟩⟩) (by simp) u) (λc d h' u=>hk h' _ 0 (.inl ⟨rfl,λi hi=>aBI.1 (d i hi)⟩) (by
  have:=aGW (l:=l.map It.x) (by
   simp only[aJe];intro y hy;rw[aN0 (aBI.1 (d y hy))];exact(aBI.1 (d y hy)).2.2)
  simp only[tP,kO,iZ,jJ] at *;omega) u)
def aRx{h:PH}{v:Value}{l:List Nt}(V:jE h 5 v (l.map Nt.cells))(hl:l.length≤100000)(w:∀i∈l,i.p.wf){k:dI}
  (hk:∀h' s e,(e=0∧(∀i∈l,aGF i)∨e=1∧¬(l.length≤255∧∀i∈l,aGF i))->s.length≤100000->eM h h'->k (.tuple #[.string (tx s),.int .i64 e]) h'):bR PG sL #[v] h k:=
 aOh V hl w (λc h' u=>hk h' [] 1 (.inr ⟨rfl,λd=>c ⟨d.1,λi hi=>aBL.2 (d.2 i hi)⟩⟩) (by simp) u) (λc d h' u=>hk h' _ 0 (.inl ⟨rfl,λi hi=>aBL.1 (d i hi)⟩) (by
  have:=aGW (l:=l.map Nt.x) (by
   simp only[aJe];intro y hy;rw[aNv (aBL.1 (d y hy))];exact(aBL.1 (d y hy)).2.2)
  simp only[tP,kO,iZ,jJ] at *;omega) u)
def aRj{h:PH}{r:Rc}{v vn:Value}(V:kV h v r.s.its)(VN:wX h vn r.ns)(wf:r.wf)(hi:r.s.its.length≤100000)(hn:r.ns.length≤100000){k:dI}
  (hk:∀h' s e,(e=0∧zJ r∨e=1∧¬zJ r)->eM h h'->k (.tuple #[.string (tx s),.int .i64 e]) h'):bR PG qI #[r.v v vn] h k:=by
 apply sV.call;unfold sV;intro r1 hr1
 try rw[dY]
 have u1:eM h (h.set r1 (.cells (Value.cells (r.v v vn)) bT)):=eH.new hr1;have B1:Bx (h.set r1 (.cells (Value.cells (r.v v vn)) bT)) r1 (r.cells v vn):=Bx.new;generalize h.set r1 (.cells (Value.cells (r.v v vn)) bT)=h1 at *;have q0:({data:=#[]}:ByteArray)=tx []:=rfl;have q1:({data:=#[1]}:ByteArray)=tx [1]:=rfl;have q2:({data:=#[2]}:ByteArray)=tx [2]:=rfl;have lk:∀{h':PH},eM h1 h'->dH PG h' (loadAt aR (pT r1 0))=some (.int .i64 r.k):=λu=>by rw[aR.load,(B1.ext u).cell];rfl
 have lp0:∀{h':PH},eM h1 h'->dH PG h' (loadAt dK (pT r1 1))=some (.agg r.s.p0.cells.toArray):=λu=>aCn (B1.ext u) rfl;have lp1:∀{h':PH},eM h1 h'->dH PG h' (loadAt dK (pT r1 3))=some (.agg r.s.p1.cells.toArray):=λu=>aCn (B1.ext u) rfl;have ltw:∀{h':PH},eM h1 h'->dH PG h' (loadAt eD (pT r1 1))=some (mP r.s.p0 r.s.p1):=λu=>aIb (B1.ext u) rfl;have lit:∀{h':PH},eM h1 h'->dH PG h' (loadAt dC (pT r1 5))=some v:=λu=>by rw[dC.load,(B1.ext u).cell];rfl
 have lch:∀{h':PH},eM h1 h'->dH PG h' (loadAt aR (pT r1 6))=some (.int .i64 r.ch):=λu=>by rw[aR.load,(B1.ext u).cell];rfl
 have lpl:∀{h':PH},eM h1 h'->dH PG h' (loadAt dK (pT r1 7))=some (.agg r.pl.cells.toArray):=λu=>aCn (B1.ext u) rfl;have lph:∀{h':PH},eM h1 h'->dH PG h' (loadAt dN (pT r1 7))=some (.int .u64 r.pl.h):=λu=>by rw[dN.load,(B1.ext u).cell];rfl
 have lpi:∀{h':PH},eM h1 h'->dH PG h' (loadAt aR (pT r1 8))=some (.int .i64 r.pl.i):=λu=>by rw[aR.load,(B1.ext u).cell];rfl
 have lns:∀{h':PH},eM h1 h'->dH PG h' (loadAt eK (pT r1 9))=some vn:=λu=>by rw[eK.load,(B1.ext u).cell];rfl
 have li:=It.len V;have ln:=Nt.len VN;by_cases k1:r.k=1
 ·have kk:(r.k==1)=true:=by simp[k1]
  have notok:∀{h':PH},eM h1 h'->¬zJ r->k (.tuple #[.string (tx []),.int .i64 1]) h':=λu c=>hk _ [] 1 (.inr ⟨rfl,c⟩) (u1.trans u);simp only[bT.f0,bT.f1,cR.f0,cR.f1,aX6,aXa,kB,Nat.reduceAdd,lk eH.refl,gX,kk,lp0 eH.refl,dF,reduceIte,dM,Nat.reduceAdd];refine aJ6 wf.s.a λh2 s0 e0 c0 g0 u2=>?_;simp only[lp1 u2,dF,reduceIte,dM,Nat.reduceAdd];refine aJ6 wf.s.b λh3 s1 e1 c1 g1 u3=>?_;have e3:=u2.trans u3;simp only[lit e3,dF,reduceIte,dM,Nat.reduceAdd];refine aR7 (V.ext (u1.trans e3)) hi wf.s.i λh4 s2 e2 c2 g2 u4=>?_;have e4:=e3.trans u4;rcases c0 with⟨rfl,c0⟩|⟨rfl,c0⟩
  case inr=>
   have n1:((1:Int) !=0)=true:=by decide
   simp only[fZ,n1,q0,dF,reduceIte,dM,Nat.reduceAdd];exact notok e4 λc=>c0 (c.a k1).1
  rcases c1 with⟨rfl,c1⟩|⟨rfl,c1⟩
  case inr=>
   have n1:((1:Int) !=0)=true:=by decide
   simp only[fZ,n1,q0,dF,reduceIte,dM,Nat.reduceAdd];exact notok e4 λc=>c1 (c.a k1).2.1
  rcases c2 with⟨rfl,c2⟩|⟨rfl,c2⟩
  case inr=>
   have n1:((1:Int) !=0)=true:=by decide
   simp only[fZ,n1,q0,dF,reduceIte,dM,Nat.reduceAdd];exact notok e4 λc=>c2 ⟨by have:=(yG c.plain k1).2.2.2;omega,(c.a k1).2.2⟩
  by_cases d1:40<r.s.its.length
  ·have g:((40:Int)<(r.s.its.length:Int))=True:=eq_true (by omega);simp only[fZ,bT.f1,cR.f1,lit e4,li,g,q0,kB,Nat.reduceAdd,dF,reduceIte,dM,Nat.reduceAdd];exact notok e4 λc=>by have:=(yG c.plain k1).2.2.2;omega
  have g:((40:Int)<(r.s.its.length:Int))=False:=eq_false (by omega);by_cases d2:r.ch=0
  case neg=>
   have g2:(r.ch !=0)=true:=by simp[d2]
   simp only[fZ,bT.f1,bT.f2,cR.f1,lit e4,li,g,lch e4,g2,q0,kB,Nat.reduceAdd,dF,reduceIte,dM,Nat.reduceAdd];exact notok e4 λc=>d2 (yG c.plain k1).1
  have g2:(r.ch !=0)=false:=by simp[d2]
  by_cases d3:r.pl.h=0
  case neg=>
   have g3:(r.pl.h !=0)=true:=by simp[d3]
   simp only[fZ,bT.f1,bT.f2,bT.f3,cR.f1,dK.f0,lit e4,li,g,lch e4,g2,lph e4,g3,q0,kB,Nat.reduceAdd,dF,reduceIte,dM,Nat.reduceAdd];exact notok e4 λc=>d3 (by rw[(yG c.plain k1).2.1];rfl)
  have g3:(r.pl.h !=0)=false:=by simp[d3]
  by_cases d4:r.pl.i=0
  case neg=>
   have g4:(r.pl.i !=0)=true:=by simp[d4]
   simp only[fZ,bT.f1,bT.f2,bT.f3,cR.f1,dK.f0,dK.f1,lit e4,li,g,lch e4,g2,lph e4,g3,lpi e4,g4,q0,kB,Nat.reduceAdd,dF,reduceIte,dM,Nat.reduceAdd];exact notok e4 λc=>d4 (by rw[(yG c.plain k1).2.1];rfl)
  have g4:(r.pl.i !=0)=false:=by simp[d4]
  by_cases d5:0<r.ns.length
  ·have g5:((0:Int)<(r.ns.length:Int))=True:=eq_true (by omega);simp only[fZ,bT.f1,bT.f2,bT.f3,bT.f4,cR.f1,dK.f0,dK.f1,lit e4,li,g,lch e4,g2,lph e4,g3,lpi e4,g4,lns e4,ln,g5,q0,kB,Nat.reduceAdd,dF,reduceIte,dM,Nat.reduceAdd];exact notok e4 λc=>by rw[(yG c.plain k1).2.2.1] at d5;simp at d5
  have g5:((0:Int)<(r.ns.length:Int))=False:=eq_false (by omega);have ok:zJ r:=by
   refine⟨?_,λ_=>⟨c0,c1,c2⟩,λh2=>by rw[k1] at h2;cases h2⟩;unfold Rc.plain;rw[if_pos k1];have e5:r.ns.length=0:=by omega
   have e6:r.pl=Pl.zero:=by
    have:∀q:Pl,q.h=0->q.i=0->q=Pl.zero:=λq a b=>by
     obtain⟨x,y⟩:=q;simp only at a b;subst a b;rfl
    exact this _ d3 d4
   simp only[d2,e5,e6,decide_true,Bool.and_true,zLo,decide_eq_true_eq];omega
  have a1:dE PG (binOp .add aT (.string (tx [1])) (.string (tx s0)))=some (.string (tx ([1]++s0))):=kZ (by simp only[jY,lU];omega);have a2:dE PG (binOp .add aT (.string (tx ([1]++s0))) (.string (tx s1)))=some (.string (tx (([1]++s0)++s1))):=kZ (by simp only[kO,jY,lU];omega);have a3:dE PG (binOp .add aT (.string (tx (([1]++s0)++s1))) (.string (tx s2)))=some (.string (tx ((([1]++s0)++s1)++s2))):=kZ (by simp only[kO,jY,lU];omega);simp only[fZ,bT.f1,bT.f2,bT.f3,bT.f4,cR.f1,dK.f0,dK.f1,lit e4,li,g,lch e4,g2,lph e4,g3,lpi e4,g4,lns e4,ln,g5,q1,a1,a2,a3,kB,Nat.reduceAdd,dF,reduceIte,dM,Nat.reduceAdd];exact hk _ _ 0 (.inl ⟨rfl,ok⟩) (u1.trans e4)
 have kk:(r.k==1)=false:=by simp[k1]
 by_cases k2:r.k=2
 case neg=>
  have kk2:(r.k==2)=false:=by simp[k2]
  simp only[bT.f0,lk eH.refl,gX,kk,kk2,q0,dF,reduceIte,dM,Nat.reduceAdd];exact hk _ _ 1 (.inr ⟨rfl,λc=>by have:=(tA c.plain k1).1;exact k2 this⟩) u1
 have kk2:(r.k==2)=true:=by simp[k2]
 have notok:∀{h':PH},eM h1 h'->¬zJ r->k (.tuple #[.string (tx []),.int .i64 1]) h':=λu c=>hk _ [] 1 (.inr ⟨rfl,c⟩) (u1.trans u);simp only[bT.f0,bT.f3,lk eH.refl,gX,kk,kk2,lpl eH.refl,kB,dF,reduceIte,dM,Nat.reduceAdd];refine aJ6 wf.pl λh2 s0 e0 c0 g0 u2=>?_;simp only[bT.f4,lns u2,kB,dF,reduceIte,dM,Nat.reduceAdd];refine aRx (VN.ext (u1.trans u2)) hn wf.n λh4 s2 e2 c2 g2 u4=>?_;have e4:=u2.trans u4;rcases c0 with⟨rfl,c0⟩|⟨rfl,c0⟩
 case inr=>
  have n1:((1:Int) !=0)=true:=by decide
  simp only[fZ,n1,q0,dF,reduceIte,dM,Nat.reduceAdd];exact notok e4 λc=>c0 (c.b k2).1
 rcases c2 with⟨rfl,c2⟩|⟨rfl,c2⟩
 case inr=>
  have n1:((1:Int) !=0)=true:=by decide
  simp only[fZ,n1,q0,dF,reduceIte,dM,Nat.reduceAdd];exact notok e4 λc=>c2 ⟨by have:=(tA c.plain k1).2.2.2;omega,(c.b k2).2⟩
 by_cases d1:16<r.ns.length
 ·have g:((16:Int)<(r.ns.length:Int))=True:=eq_true (by omega);simp only[fZ,bT.f4,lns e4,ln,g,q0,kB,Nat.reduceAdd,dF,reduceIte,dM,Nat.reduceAdd];exact notok e4 λc=>by have:=(tA c.plain k1).2.2.2;omega
 have g:((16:Int)<(r.ns.length:Int))=False:=eq_false (by omega);by_cases d2:r.ch<0
 ·have f2:=eq_true d2;simp only[fZ,bT.f4,bT.f2,lns e4,ln,g,lch e4,f2,q0,kB,Nat.reduceAdd,dF,reduceIte,dM,Nat.reduceAdd];exact notok e4 λc=>by have:=(tA c.plain k1).2.2.1;omega
 have f2:=eq_false d2;by_cases d3:1<r.ch
 ·have f3:=eq_true d3;simp only[fZ,bT.f4,bT.f2,lns e4,ln,g,lch e4,f2,f3,q0,kB,Nat.reduceAdd,dF,reduceIte,dM,Nat.reduceAdd];exact notok e4 λc=>by have:=(tA c.plain k1).2.2.1;omega
 have f3:=eq_false d3;by_cases d4:0<r.s.its.length
 ·have f4:((0:Int)<(r.s.its.length:Int))=True:=eq_true (by omega);simp only[fZ,bT.f4,bT.f2,bT.f1,cR.f1,lns e4,ln,g,lch e4,f2,f3,lit e4,li,f4,q0,kB,Nat.reduceAdd,dF,reduceIte,dM,Nat.reduceAdd];exact notok e4 λc=>by rw[(tA c.plain k1).2.1] at d4;simp[Dm.zero] at d4
 have f4:((0:Int)<(r.s.its.length:Int))=False:=eq_false (by omega);by_cases d5:r.s.p0=Pl.zero∧r.s.p1=Pl.zero
 case neg=>
  have f5:decide (r.s.p0=Pl.zero∧r.s.p1=Pl.zero)=false:=by simpa using d5
  simp only[fZ,bT.f4,bT.f2,bT.f1,cR.f1,cR.f0,lns e4,ln,g,lch e4,f2,f3,lit e4,li,f4,ltw e4,aIl,mP.neq,f5,q0,kB,Nat.reduceAdd,dF,reduceIte,dM,Nat.reduceAdd];exact notok e4 λc=>d5 (by rw[(tA c.plain k1).2.1];exact⟨rfl,rfl⟩)
 have f5:decide (r.s.p0=Pl.zero∧r.s.p1=Pl.zero)=true:=by simpa using d5
 have ok:zJ r:=by
  refine⟨?_,λh1=>absurd h1 k1,λ_=>⟨c0,c2⟩⟩;unfold Rc.plain;rw[if_neg k1,if_pos k2,f5];have e5:r.s.its.length=0:=by omega
  have e6:r.ch=0∨r.ch=1:=by omega
  simp only[e5,decide_true,zLo,tM,aHb,decide_eq_true_eq];exact⟨e6,by omega⟩
 obtain⟨c,hc⟩:∃c:Nat,r.ch=(c:Int):=zLm (by omega);have hc1:c≤1:=by omega
 have cw:IntKind.u64.wrap (c:Int)=(c:Int):=lJ (by omega) (by omega);rw[hc] at f2 f3 lch;simp only[fZ,bT.f4,bT.f2,bT.f1,cR.f1,cR.f0,lns e4,ln,g,lch e4,f2,f3,lit e4,li,f4,ltw e4,aIl,mP.neq,f5,aFI,cw,kB,Nat.reduceAdd,dF,reduceIte,dM,Nat.reduceAdd];refine nO (by omega) (by decide) λh5 u5=>?_;have a1:dE PG (binOp .add aT (.string (tx [2])) (.string (tx (be c 1))))=some (.string (tx ([2]++be c 1))):=kZ (by simp only[jY,lU,iZ];omega);have a2:dE PG (binOp .add aT (.string (tx ([2]++be c 1))) (.string (tx s0)))=some (.string (tx (([2]++be c 1)++s0))):=kZ (by simp only[kO,jY,lU,iZ];omega);have a3:dE PG (binOp .add aT (.string (tx (([2]++be c 1)++s0))) (.string (tx s2)))=some (.string (tx ((([2]++be c 1)++s0)++s2))):=kZ (by simp only[kO,jY,lU,iZ];omega);simp only[q2,a1,a2,a3,dF,reduceIte,dM,Nat.reduceAdd];exact hk _ _ 0 (.inl ⟨rfl,ok⟩) (u1.trans (e4.trans u5))
def aV2{h:PH}{a:Nat}{L:List It}{room:Int}{F:List Nat}(H:RAt h a L room F){v:Value}{l:List Nt}(S:wX h v l)(hv:l≠[]->∀x n c,v= .slice (some x) n c->x.block∉F)(hl:L.length+l.length≤1000)(w:∀n∈l,n.p.wf){k:dI}
  (hk:∀h' F' (n:Int),RAt h' a (mY room L l).1 room F'->eH F h h'->(∀b∈F',b∈F∨h b=none)->k (.tuple #[.int .i64 n,.int .i64 (mY room L l).2]) h'):bR PG aBq #[pT a 0,v] h k:=by
 apply aAp.call;unfold aAp;have lv:=Nt.len S;refine⟨λvs h'=>∃(i:Nat) (L':List It) (F':List Nat),i≤l.length∧vs=[pT a 0,v,.int .i64 (i:Int)]∧RAt h' a L' room F'∧eH F h h'∧(∀b∈F',b∈F∨h b=none)∧L'.length≤L.length+i∧mY room L l=mY room L' (l.drop i),gT l.length 2,⟨0,L,F,by omega,rfl,H,eH.refl,(λb hb=>.inl hb),by omega,by simp⟩,?_⟩;rintro ρ h' ⟨i,L',F',hi,hvs,H',u,hF,hLL,hap⟩;simp only[jF,kF,lT,and_true] at hvs;obtain⟨v0,v1,v2⟩:=hvs;unfold aFE;simp only[v0,v1,v2,jF,kF];by_cases hlt:i<l.length
 ·have g1:((i:Int)<(l.length:Int))=True:=eq_true (by omega);have gi:=oM (i:=i) (by omega);have e1:l[i]? =some l[i]:=lG hlt;have hmem:l[i]∈l:=aIQ hlt;obtain⟨pa,p1,q1⟩:=jE.ntb (jE.upd0 S u λhne=>hv (by simpa using hne)) e1;have hdrop:l.drop i=l[i]::l.drop (i+1):=aBE hlt;generalize l[i]=n at *;rw[hdrop] at hap;have wn:=w n hmem;simp only[lv,g1,p1,q1,dF,reduceIte,dM,Nat.reduceAdd];refine aSw H' (by omega) n wn.1 wn.2.2.1 λh3 F3 H3 u3 f3=>?_;have hF':∀b∈F',b∈F∨h b=none:=hF;have u':eH F h h3:=u.then u3 hF';have g3:∀b∈F3,b∈F∨h b=none:=λb hb=>by
   rcases f3 b hb with hb|hb
   ·exact hF b hb
   ·by_cases hbF:b∈F
    ·exact .inl hbF
    ·right;cases hx:h b with
     | none=>rfl
     | some o=>have:=u b o hx hbF;rw[hb] at this;cases this
  have hlen:(rP L' room n).length≤L'.length+1:=aQE H'.srt room n;by_cases h0:vE L' room n=0
  ·simp only[mY,h0,ne_eq,not_true_eq_false,if_false] at hap;simp only[fZ,h0,gi,dF,reduceIte,dM,Nat.reduceAdd];refine⟨⟨i+1,_,F3,by omega,rfl,H3,u',g3,by omega,hap⟩,?_⟩;simp only[gT,zLL,zLK];omega
  ·have q:(vE L' room n !=0)=true:=by simp[h0]
   simp only[mY,ne_eq,h0,not_false_eq_true,if_true] at hap;simp only[fZ,q,dF,reduceIte,dM,Nat.reduceAdd];have:=hk h3 F3 (i:Int) (by rw[hap];exact H3) u' g3;rw[hap] at this;exact this
 ·have g1:((i:Int)<(l.length:Int))=False:=eq_false (by omega);rw[zO (by omega)] at hap;simp only[lv,g1,dF,reduceIte,dM,Nat.reduceAdd];have:=hk h' F' (l.length:Int) (by rw[hap];exact H') u hF;rw[hap] at this;exact this
def aS4{d:Dm}{room:Int}:chk d room=if ¬(kX d.p0∧kX d.p1) then 1 else if oJ room d.its≠0 then oJ room d.its else if pF d.its≠d.its then 15 else 0:=by
 unfold chk;by_cases h:kX d.p0∧kX d.p1
 ·by_cases e1:oJ room d.its=1
  ·simp[h,e1]
  ·simp[h,e1]
 ·simp[h]
def aI0{h:PH}{d:Dm}{v:Value}{room:Int}(V:kV h v d.its)(hl:d.its.length≤900)(w:d.wf){k:dI}(hk:∀h',eM h h'->k (.int .i64 (chk d room)) h'):bR PG qF #[d.v v,.int .i64 room] h k:=by
 apply sM.call;unfold sM;intro r1 hr1
 try rw[dY]
 have u1:eM h (h.set r1 (.cells (Value.cells (d.v v)) cR)):=eH.new hr1;have B1:Bx (h.set r1 (.cells (Value.cells (d.v v)) cR)) r1 (d.cells v):=Bx.new;generalize h.set r1 (.cells (Value.cells (d.v v)) cR)=h1 at *;have lit:∀{h':PH},eM h1 h'->dH PG h' (loadAt dC (pT r1 4))=some v:=λu=>by rw[dC.load,(B1.ext u).cell];rfl
 simp only[cR.f1,kB,lit eH.refl,dF,reduceIte,dM,Nat.reduceAdd];have main:∀(h6:PH) (tv:Value) (e:Int),(oJ room d.its≠0∧tv= .pointer none∧e=oJ room d.its)∨(oJ room d.its=0∧e=0∧∃a F,tv=pT a 0∧RAt h6 a (pF d.its) room F)->eM h1 h6->
   iV [2,5,6,7] (λn9 ρ h=>aBH k n9 (ρ 2) (ρ 5) (ρ 6) (ρ 7) h) [(pT r1 0),tv,.int .i64 e,(Value.int IntKind.i64 0)] h6:=by
  intro h6 tv e X u6;have hk:=hk _ (u1.trans u6);rw[aS4] at hk;have li:∀(q:Pl) (o:Nat),(d.cells v)[o+1]? =some (.int .i64 q.i)->dH PG h6 (loadAt aR (pT r1 (o+1)))=some (.int .i64 q.i):=λq o hq=>by rw[aR.load,(B1.ext u6).cell,hq]
  refine⟨λvs h'=>∃i:Nat,i≤2∧vs=[(pT r1 0),tv,.int .i64 e,.int .i64 (i:Int)]∧h'=h6∧(1≤i->kX d.p0)∧(2≤i->kX d.p1),gT 2 3,⟨0,by omega,rfl,rfl,by omega,by omega⟩,?_⟩;rintro ρ h' ⟨i,hi,hvs,rfl,o0,o1⟩;simp only[jF,kF,lT,and_true] at hvs;obtain⟨v0,v1,v2,v3⟩:=hvs;unfold aBH;rw[v0,v1,v2,v3];by_cases hlt:i<2
  ·have g1:((i:Int)<2)=True:=eq_true (by omega);have gi:=oM (i:=i) (by omega);have ix:=ixP (r:=r1) hlt;obtain⟨q,hq,hc⟩:∃q:Pl,(d.cells v)[i*2+1]? =some (.int .i64 q.i)∧(q=d.p0∧i=0∨q=d.p1∧i=1):=by
    have:i=0∨i=1:=by omega
    rcases this with rfl|rfl
    ·exact⟨d.p0,rfl,.inl ⟨rfl,rfl⟩⟩
    ·exact⟨d.p1,rfl,.inr ⟨rfl,rfl⟩⟩
   have lq:=li q (i*2) hq;have bad:¬kX q->k (.int .i64 1) h':=λc=>by
    rw[if_pos (by
            rcases hc with⟨rfl,-⟩|⟨rfl,-⟩
            ·exact λx=>c x.1
            ·exact λx=>c x.2)] at hk
    exact hk
   by_cases d0:q.i<0
   ·have f0:=eq_true d0;simp only[g1,cR.f0,ix,dK.f1,lq,f0,dF,reduceIte,dM,Nat.reduceAdd];exact bad λc=>by have:=c.1;omega
   have f0:=eq_false d0;by_cases d1:65535<q.i
   ·have f1:=eq_true d1;simp only[g1,cR.f0,ix,dK.f1,lq,f0,f1,dF,reduceIte,dM,Nat.reduceAdd];exact bad λc=>by have:=c.2;omega
   have f1:=eq_false d1;have okq:kX q:=⟨by omega,by omega⟩;simp only[g1,cR.f0,ix,dK.f1,lq,f0,f1,gi,dF,reduceIte,dM,Nat.reduceAdd];refine⟨⟨i+1,by omega,rfl,(by first|rfl|trivial),λ_=>?_,λh2=>?_⟩,by simp[gT,v3];omega⟩
   ·rcases hc with⟨rfl,-⟩|⟨rfl,hi1⟩
    ·exact okq
    ·exact o0 (by omega)
   ·rcases hc with⟨rfl,h0⟩|⟨rfl,-⟩
    ·omega
    ·exact okq
  ·have g1:((i:Int)<2)=False:=eq_false (by omega);rw[if_neg (by exact λc=>c ⟨o0 (by omega),o1 (by omega)⟩)] at hk;rcases X with⟨hne,rfl,rfl⟩|⟨h0,rfl,a,F,rfl,H⟩
   ·have q:(oJ room d.its !=0)=true:=by simp[hne]
    rw[if_pos hne] at hk;simp only[g1,fZ,q,dF,reduceIte,dM,Nat.reduceAdd];exact hk
   ·rw[if_neg (by simpa using h0)] at hk;obtain⟨tvv,G,ha,hO,-,-⟩:=H.here;have lt:dH PG h' (loadAt dC (pT a 0))=some tvv:=by
     rw[dC.load];unfold eA;simp[ha]
    have hx:=aIH d.its;simp only[g1,fZ,aKU,eR.f0,lt,cR.f1,kB,lit u6,dF,reduceIte,dM,Nat.reduceAdd];refine aRT hO.slR (V.ext (u1.trans u6)) (by omega) ?_;by_cases hs:pF d.its=d.its
    ·rw[if_neg (by simpa using hs)] at hk;have hs':=decide_eq_true hs;simp only[hs',dF,reduceIte,dM,Nat.reduceAdd];exact hk
    ·rw[if_pos hs] at hk;have hs':=decide_eq_false hs;simp only[hs',dF,reduceIte,dM,Nat.reduceAdd];exact hk
 refine aTa (V.ext u1) hl (λm hm=>⟨(w.i m hm).1,(w.i m hm).2.2.1⟩) (λh6 u6 hne=>?_) (λa h6 F h0 H f u6=>?_)
 ·simp only[dF,reduceIte,dM,Nat.reduceAdd];exact main h6 _ _ (.inl ⟨hne,rfl,rfl⟩) u6
 ·simp only[dF,reduceIte,dM,Nat.reduceAdd];exact main h6 _ _ (.inr ⟨h0,rfl,a,F,rfl,H⟩) u6
def aKR{h:PH}{q:Pl}(w:q.wf){k:dI}(hk:∀h' s e,(e=0∧kX q∧s=q.bs∨e=1∧¬kX q)->s.length≤100000->eM h h'->k (.tuple #[.string (tx s),.int .i64 e]) h'):bR PG oF #[.agg q.cells.toArray] h k:=
 aOe w (λc h' u=>hk h' [] 1 (.inr ⟨rfl,c⟩) (by simp) u) (λc h' u=>hk h' _ 0 (.inl ⟨rfl,c,rfl⟩) (by simp[Pl.bs,iZ]) u)
def aSW{h:PH}{v:Value}{l:List It}(V:jE h 5 v (l.map It.cells))(hl:l.length≤100000)(w:∀i∈l,i.p.wf){k:dI}
  (hk:∀h' s e,(e=0∧(∀i∈l,aEq i)∧s=tP (l.map It.x)∨e=1∧¬(l.length≤255∧∀i∈l,aEq i))->s.length≤100000->eM h h'->k (.tuple #[.string (tx s),.int .i64 e]) h'):bR PG sJ #[v] h k:=
 aOk V hl w (λc h' u=>hk h' [] 1 (.inr ⟨rfl,λd=>c ⟨d.1,λi hi=>aBI.2 (d.2 i hi)⟩⟩) (by simp) u) (λc d h' u=>hk h' _ 0 (.inl ⟨rfl,λi hi=>aBI.1 (d i hi),rfl⟩) (by
  have:=aGW (l:=l.map It.x) (by
   simp only[aJe];intro y hy;rw[aN0 (aBI.1 (d y hy))];exact(aBI.1 (d y hy)).2.2)
  simp only[tP,kO,iZ,jJ] at *;omega) u)
def aSZ{h:PH}{v:Value}{l:List Nt}(V:jE h 5 v (l.map Nt.cells))(hl:l.length≤100000)(w:∀i∈l,i.p.wf){k:dI}
  (hk:∀h' s e,(e=0∧(∀i∈l,aGF i)∧s=tP (l.map Nt.x)∨e=1∧¬(l.length≤255∧∀i∈l,aGF i))->s.length≤100000->eM h h'->k (.tuple #[.string (tx s),.int .i64 e]) h'):bR PG sL #[v] h k:=
 aOh V hl w (λc h' u=>hk h' [] 1 (.inr ⟨rfl,λd=>c ⟨d.1,λi hi=>aBL.2 (d.2 i hi)⟩⟩) (by simp) u) (λc d h' u=>hk h' _ 0 (.inl ⟨rfl,λi hi=>aBL.1 (d i hi),rfl⟩) (by
  have:=aGW (l:=l.map Nt.x) (by
   simp only[aJe];intro y hy;rw[aNv (aBL.1 (d y hy))];exact(aBL.1 (d y hy)).2.2)
  simp only[tP,kO,iZ,jJ] at *;omega) u)
def aM8{h:PH}{r:Rc}{v vn:Value}(V:kV h v r.s.its)(VN:wX h vn r.ns)(wf:r.wf)(hi:r.s.its.length≤100000)(hn:r.ns.length≤100000){k:dI}
  (hk:∀h',eM h h'->k (.tuple #[.string (tx r.bytes.1),.int .i64 r.bytes.2]) h'):bR PG qI #[r.v v vn] h k:=by
 apply sV.call;unfold sV;have hkN:∀h',¬zJ r->eM h h'->k (.tuple #[.string (tx []),.int .i64 1]) h':=λh' c u=>by
  have:=hk h' u;rcases aAd r with⟨a,-⟩|⟨-,b⟩
  ·exact absurd a c
  ·rw[b] at this;exact this
 have hkY:∀h' s,zJ r->s=r.bs->eM h h'->k (.tuple #[.string (tx s),.int .i64 0]) h':=λh' s c e u=>by
  have:=hk h' u;rcases aAd r with⟨-,b⟩|⟨a,-⟩
  ·rw[b] at this;rw[e];exact this
  ·exact absurd c a
 intro r1 hr1
 try rw[dY]
 have u1:eM h (h.set r1 (.cells (Value.cells (r.v v vn)) bT)):=eH.new hr1;have B1:Bx (h.set r1 (.cells (Value.cells (r.v v vn)) bT)) r1 (r.cells v vn):=Bx.new;generalize h.set r1 (.cells (Value.cells (r.v v vn)) bT)=h1 at *;have q0:({data:=#[]}:ByteArray)=tx []:=rfl;have q1:({data:=#[1]}:ByteArray)=tx [1]:=rfl;have q2:({data:=#[2]}:ByteArray)=tx [2]:=rfl;have lk:∀{h':PH},eM h1 h'->dH PG h' (loadAt aR (pT r1 0))=some (.int .i64 r.k):=λu=>by rw[aR.load,(B1.ext u).cell];rfl
 have lp0:∀{h':PH},eM h1 h'->dH PG h' (loadAt dK (pT r1 1))=some (.agg r.s.p0.cells.toArray):=λu=>aCn (B1.ext u) rfl;have lp1:∀{h':PH},eM h1 h'->dH PG h' (loadAt dK (pT r1 3))=some (.agg r.s.p1.cells.toArray):=λu=>aCn (B1.ext u) rfl;have ltw:∀{h':PH},eM h1 h'->dH PG h' (loadAt eD (pT r1 1))=some (mP r.s.p0 r.s.p1):=λu=>aIb (B1.ext u) rfl;have lit:∀{h':PH},eM h1 h'->dH PG h' (loadAt dC (pT r1 5))=some v:=λu=>by rw[dC.load,(B1.ext u).cell];rfl
 have lch:∀{h':PH},eM h1 h'->dH PG h' (loadAt aR (pT r1 6))=some (.int .i64 r.ch):=λu=>by rw[aR.load,(B1.ext u).cell];rfl
 have lpl:∀{h':PH},eM h1 h'->dH PG h' (loadAt dK (pT r1 7))=some (.agg r.pl.cells.toArray):=λu=>aCn (B1.ext u) rfl;have lph:∀{h':PH},eM h1 h'->dH PG h' (loadAt dN (pT r1 7))=some (.int .u64 r.pl.h):=λu=>by rw[dN.load,(B1.ext u).cell];rfl
 have lpi:∀{h':PH},eM h1 h'->dH PG h' (loadAt aR (pT r1 8))=some (.int .i64 r.pl.i):=λu=>by rw[aR.load,(B1.ext u).cell];rfl
 have lns:∀{h':PH},eM h1 h'->dH PG h' (loadAt eK (pT r1 9))=some vn:=λu=>by rw[eK.load,(B1.ext u).cell];rfl
 have li:=It.len V;have ln:=Nt.len VN;by_cases k1:r.k=1
 ·have kk:(r.k==1)=true:=by simp[k1]
  have notok:∀{h':PH},eM h1 h'->¬zJ r->k (.tuple #[.string (tx []),.int .i64 1]) h':=λu c=>hkN _ c (u1.trans u);simp only[bT.f0,bT.f1,cR.f0,cR.f1,aX6,aXa,kB,Nat.reduceAdd,lk eH.refl,gX,kk,lp0 eH.refl,dF,reduceIte,dM,Nat.reduceAdd];refine aKR wf.s.a λh2 s0 e0 c0 g0 u2=>?_;simp only[lp1 u2,dF,reduceIte,dM,Nat.reduceAdd];refine aKR wf.s.b λh3 s1 e1 c1 g1 u3=>?_;have e3:=u2.trans u3;simp only[lit e3,dF,reduceIte,dM,Nat.reduceAdd];refine aSW (V.ext (u1.trans e3)) hi wf.s.i λh4 s2 e2 c2 g2 u4=>?_;have e4:=e3.trans u4;rcases c0 with⟨rfl,c0,y0⟩|⟨rfl,c0⟩
  case inr=>
   have n1:((1:Int) !=0)=true:=by decide
   simp only[fZ,n1,q0,dF,reduceIte,dM,Nat.reduceAdd];exact notok e4 λc=>c0 (c.a k1).1
  rcases c1 with⟨rfl,c1,y1⟩|⟨rfl,c1⟩
  case inr=>
   have n1:((1:Int) !=0)=true:=by decide
   simp only[fZ,n1,q0,dF,reduceIte,dM,Nat.reduceAdd];exact notok e4 λc=>c1 (c.a k1).2.1
  rcases c2 with⟨rfl,c2,y2⟩|⟨rfl,c2⟩
  case inr=>
   have n1:((1:Int) !=0)=true:=by decide
   simp only[fZ,n1,q0,dF,reduceIte,dM,Nat.reduceAdd];exact notok e4 λc=>c2 ⟨by have:=(yG c.plain k1).2.2.2;omega,(c.a k1).2.2⟩
  by_cases d1:40<r.s.its.length
  ·have g:((40:Int)<(r.s.its.length:Int))=True:=eq_true (by omega);simp only[fZ,bT.f1,cR.f1,lit e4,li,g,q0,kB,Nat.reduceAdd,dF,reduceIte,dM,Nat.reduceAdd];exact notok e4 λc=>by have:=(yG c.plain k1).2.2.2;omega
  have g:((40:Int)<(r.s.its.length:Int))=False:=eq_false (by omega);by_cases d2:r.ch=0
  case neg=>
   have g2:(r.ch !=0)=true:=by simp[d2]
   simp only[fZ,bT.f1,bT.f2,cR.f1,lit e4,li,g,lch e4,g2,q0,kB,Nat.reduceAdd,dF,reduceIte,dM,Nat.reduceAdd];exact notok e4 λc=>d2 (yG c.plain k1).1
  have g2:(r.ch !=0)=false:=by simp[d2]
  by_cases d3:r.pl.h=0
  case neg=>
   have g3:(r.pl.h !=0)=true:=by simp[d3]
   simp only[fZ,bT.f1,bT.f2,bT.f3,cR.f1,dK.f0,lit e4,li,g,lch e4,g2,lph e4,g3,q0,kB,Nat.reduceAdd,dF,reduceIte,dM,Nat.reduceAdd];exact notok e4 λc=>d3 (by rw[(yG c.plain k1).2.1];rfl)
  have g3:(r.pl.h !=0)=false:=by simp[d3]
  by_cases d4:r.pl.i=0
  case neg=>
   have g4:(r.pl.i !=0)=true:=by simp[d4]
   simp only[fZ,bT.f1,bT.f2,bT.f3,cR.f1,dK.f0,dK.f1,lit e4,li,g,lch e4,g2,lph e4,g3,lpi e4,g4,q0,kB,Nat.reduceAdd,dF,reduceIte,dM,Nat.reduceAdd];exact notok e4 λc=>d4 (by rw[(yG c.plain k1).2.1];rfl)
  have g4:(r.pl.i !=0)=false:=by simp[d4]
  by_cases d5:0<r.ns.length
  ·have g5:((0:Int)<(r.ns.length:Int))=True:=eq_true (by omega);simp only[fZ,bT.f1,bT.f2,bT.f3,bT.f4,cR.f1,dK.f0,dK.f1,lit e4,li,g,lch e4,g2,lph e4,g3,lpi e4,g4,lns e4,ln,g5,q0,kB,Nat.reduceAdd,dF,reduceIte,dM,Nat.reduceAdd];exact notok e4 λc=>by rw[(yG c.plain k1).2.2.1] at d5;simp at d5
  have g5:((0:Int)<(r.ns.length:Int))=False:=eq_false (by omega);have ok:zJ r:=by
   refine⟨?_,λ_=>⟨c0,c1,c2⟩,λh2=>by rw[k1] at h2;cases h2⟩;unfold Rc.plain;rw[if_pos k1];have e5:r.ns.length=0:=by omega
   have e6:r.pl=Pl.zero:=by
    have:∀q:Pl,q.h=0->q.i=0->q=Pl.zero:=λq a b=>by
     obtain⟨x,y⟩:=q;simp only at a b;subst a b;rfl
    exact this _ d3 d4
   simp only[d2,e5,e6,decide_true,Bool.and_true,zLo,decide_eq_true_eq];omega
  have a1:dE PG (binOp .add aT (.string (tx [1])) (.string (tx s0)))=some (.string (tx ([1]++s0))):=kZ (by simp only[jY,lU];omega);have a2:dE PG (binOp .add aT (.string (tx ([1]++s0))) (.string (tx s1)))=some (.string (tx (([1]++s0)++s1))):=kZ (by simp only[kO,jY,lU];omega);have a3:dE PG (binOp .add aT (.string (tx (([1]++s0)++s1))) (.string (tx s2)))=some (.string (tx ((([1]++s0)++s1)++s2))):=kZ (by simp only[kO,jY,lU];omega);simp only[fZ,bT.f1,bT.f2,bT.f3,bT.f4,cR.f1,dK.f0,dK.f1,lit e4,li,g,lch e4,g2,lph e4,g3,lpi e4,g4,lns e4,ln,g5,q1,a1,a2,a3,kB,Nat.reduceAdd,dF,reduceIte,dM,Nat.reduceAdd];refine hkY _ _ ok ?_ (u1.trans e4);rw[y0,y1,y2];unfold Rc.bs;rw[if_pos k1];simp only[xN];rfl
 have kk:(r.k==1)=false:=by simp[k1]
 by_cases k2:r.k=2
 case neg=>
  have kk2:(r.k==2)=false:=by simp[k2]
  simp only[bT.f0,lk eH.refl,gX,kk,kk2,q0,dF,reduceIte,dM,Nat.reduceAdd];exact hkN _ (λc=>by have:=(tA c.plain k1).1;exact k2 this) u1
 have kk2:(r.k==2)=true:=by simp[k2]
 have notok:∀{h':PH},eM h1 h'->¬zJ r->k (.tuple #[.string (tx []),.int .i64 1]) h':=λu c=>hkN _ c (u1.trans u);simp only[bT.f0,bT.f3,lk eH.refl,gX,kk,kk2,lpl eH.refl,kB,dF,reduceIte,dM,Nat.reduceAdd];refine aKR wf.pl λh2 s0 e0 c0 g0 u2=>?_;simp only[bT.f4,lns u2,kB,dF,reduceIte,dM,Nat.reduceAdd];refine aSZ (VN.ext (u1.trans u2)) hn wf.n λh4 s2 e2 c2 g2 u4=>?_;have e4:=u2.trans u4;rcases c0 with⟨rfl,c0,y0⟩|⟨rfl,c0⟩
 case inr=>
  have n1:((1:Int) !=0)=true:=by decide
  simp only[fZ,n1,q0,dF,reduceIte,dM,Nat.reduceAdd];exact notok e4 λc=>c0 (c.b k2).1
 rcases c2 with⟨rfl,c2,y2⟩|⟨rfl,c2⟩
 case inr=>
  have n1:((1:Int) !=0)=true:=by decide
  simp only[fZ,n1,q0,dF,reduceIte,dM,Nat.reduceAdd];exact notok e4 λc=>c2 ⟨by have:=(tA c.plain k1).2.2.2;omega,(c.b k2).2⟩
 by_cases d1:16<r.ns.length
 ·have g:((16:Int)<(r.ns.length:Int))=True:=eq_true (by omega);simp only[fZ,bT.f4,lns e4,ln,g,q0,kB,Nat.reduceAdd,dF,reduceIte,dM,Nat.reduceAdd];exact notok e4 λc=>by have:=(tA c.plain k1).2.2.2;omega
 have g:((16:Int)<(r.ns.length:Int))=False:=eq_false (by omega);by_cases d2:r.ch<0
 ·have f2:=eq_true d2;simp only[fZ,bT.f4,bT.f2,lns e4,ln,g,lch e4,f2,q0,kB,Nat.reduceAdd,dF,reduceIte,dM,Nat.reduceAdd];exact notok e4 λc=>by have:=(tA c.plain k1).2.2.1;omega
 have f2:=eq_false d2;by_cases d3:1<r.ch
 ·have f3:=eq_true d3;simp only[fZ,bT.f4,bT.f2,lns e4,ln,g,lch e4,f2,f3,q0,kB,Nat.reduceAdd,dF,reduceIte,dM,Nat.reduceAdd];exact notok e4 λc=>by have:=(tA c.plain k1).2.2.1;omega
 have f3:=eq_false d3;by_cases d4:0<r.s.its.length
 ·have f4:((0:Int)<(r.s.its.length:Int))=True:=eq_true (by omega);simp only[fZ,bT.f4,bT.f2,bT.f1,cR.f1,lns e4,ln,g,lch e4,f2,f3,lit e4,li,f4,q0,kB,Nat.reduceAdd,dF,reduceIte,dM,Nat.reduceAdd];exact notok e4 λc=>by rw[(tA c.plain k1).2.1] at d4;simp[Dm.zero] at d4
 have f4:((0:Int)<(r.s.its.length:Int))=False:=eq_false (by omega);by_cases d5:r.s.p0=Pl.zero∧r.s.p1=Pl.zero
 case neg=>
  have f5:decide (r.s.p0=Pl.zero∧r.s.p1=Pl.zero)=false:=by simpa using d5
  simp only[fZ,bT.f4,bT.f2,bT.f1,cR.f1,cR.f0,lns e4,ln,g,lch e4,f2,f3,lit e4,li,f4,ltw e4,aIl,mP.neq,f5,q0,kB,Nat.reduceAdd,dF,reduceIte,dM,Nat.reduceAdd];exact notok e4 λc=>d5 (by rw[(tA c.plain k1).2.1];exact⟨rfl,rfl⟩)
 have f5:decide (r.s.p0=Pl.zero∧r.s.p1=Pl.zero)=true:=by simpa using d5
 have ok:zJ r:=by
  refine⟨?_,λh1=>absurd h1 k1,λ_=>⟨c0,c2⟩⟩;unfold Rc.plain;rw[if_neg k1,if_pos k2,f5];have e5:r.s.its.length=0:=by omega
  have e6:r.ch=0∨r.ch=1:=by omega
  simp only[e5,decide_true,zLo,tM,aHb,decide_eq_true_eq];exact⟨e6,by omega⟩
 obtain⟨c,hc⟩:∃c:Nat,r.ch=(c:Int):=zLm (by omega);have hc1:c≤1:=by omega
 have cw:IntKind.u64.wrap (c:Int)=(c:Int):=lJ (by omega) (by omega);rw[hc] at f2 f3 lch;simp only[fZ,bT.f4,bT.f2,bT.f1,cR.f1,cR.f0,lns e4,ln,g,lch e4,f2,f3,lit e4,li,f4,ltw e4,aIl,mP.neq,f5,aFI,cw,kB,Nat.reduceAdd,dF,reduceIte,dM,Nat.reduceAdd];refine nO (by omega) (by decide) λh5 u5=>?_;have a1:dE PG (binOp .add aT (.string (tx [2])) (.string (tx (be c 1))))=some (.string (tx ([2]++be c 1))):=kZ (by simp only[jY,lU,iZ];omega);have a2:dE PG (binOp .add aT (.string (tx ([2]++be c 1))) (.string (tx s0)))=some (.string (tx (([2]++be c 1)++s0))):=kZ (by simp only[kO,jY,lU,iZ];omega);have a3:dE PG (binOp .add aT (.string (tx (([2]++be c 1)++s0))) (.string (tx s2)))=some (.string (tx ((([2]++be c 1)++s0)++s2))):=kZ (by simp only[kO,jY,lU,iZ];omega);simp only[q2,a1,a2,a3,dF,reduceIte,dM,Nat.reduceAdd];refine hkY _ _ ok ?_ (u1.trans (e4.trans u5));rw[y0,y2];unfold Rc.bs;rw[if_neg k1,hc,xZ];simp only[xN];rfl
def aPm{h:PH}{d:Dm}{v:Value}{room:Int}{r:Rc}{vi vn:Value}(V:kV h v d.its)(w:d.wf)(hl:d.its.length≤900)(VI:kV h vi r.s.its)(VN:wX h vn r.ns)(wf:r.wf)(hi:r.s.its.length≤900)(hn:r.ns.length≤100000){k:dI}
  (hk:∀h' v',kV h' v' (mS d room r).1.its->(jV h v'∨v'=vi)->eM h h'->k (.tuple #[(mS d room r).1.v v',.int .i64 (mS d room r).2]) h'):bR PG yP #[d.v v,.int .i64 room,r.v vi vn] h k:=by
 apply uG.call;unfold uG;intro r1 hr1
 try rw[dY]
 have u1:eM h (h.set r1 (.cells (Value.cells (d.v v)) cR)):=eH.new hr1;have B1:Bx (h.set r1 (.cells (Value.cells (d.v v)) cR)) r1 (d.cells v):=Bx.new;generalize h.set r1 (.cells (Value.cells (d.v v)) cR)=h1 at *;intro r3 hr3
 try rw[dY]
 have u3:eM h1 (h1.set r3 (.cells (Value.cells (r.v vi vn)) bT)):=eH.new hr3;have B3:Bx (h1.set r3 (.cells (Value.cells (r.v vi vn)) bT)) r3 (r.cells vi vn):=Bx.new;have B13:=B1.ext u3;generalize h1.set r3 (.cells (Value.cells (r.v vi vn)) bT)=h3 at *;intro r5 hr5
 try rw[dY]
 have u5:eM h3 (h3.set r5 (.cells (eX PG cR) cR)):=eH.new hr5;have Z:=cR.zbox (h:=h3) (r:=r5);have B15:=B13.ext u5;have B35:=B3.ext u5;generalize h3.set r5 (.cells (eX PG cR) cR)=h5 at *;have e5:=(u1.trans u3).trans u5;have f5:fX h [r5]:=fX.one ((u1.trans u3).none hr5);have K5:h5 r5≠none:=Z.known
 -- an answer
 have out:∀{h':PH} {x:Dm} {e:Int} {v':Value},eM h5 h'->mS d room r=(x,e)->kV h' v' x.its->aGB x.its v' [r5]->(jV h v'∨v'=vi)->dT PG (dX cR (pT r5 0) (x.v v')) h' λv12 h13=>dA (dH PG h13 (loadAt cR (pT r5 0))) λv14=>k (.tuple #[v14,.int .i64 e]) h13:=by
  intro h' x e v' u hs X o N;refine cR.put (Z.ext u) rfl (by show 0+5≤5;decide) (Dm.isC _ X.isc) λh2 B2 u2=>?_;simp only[Dm.load (o:=0) (d:=x) (v:=v') B2 rfl,dF,reduceIte];rw[hs] at hk;exact hk h2 v' (kV.updG X o u2 (λb hb=>hb)) N ((e5.trans u).fresh u2 f5)
 have bad:∀{h':PH} {e:Int},eM h5 h'->mS d room r=(Dm.zero,e)->dT PG (dX cR (pT r5 0) (Dm.v Dm.zero (.slice none 0 0))) h' λv12 h13=>dA (dH PG h13 (loadAt cR (pT r5 0))) λv14=>k (.tuple #[v14,.int .i64 e]) h13:=
  λu hs=>out u hs aEE (λhne=>absurd rfl hne) (.inl jV.nil)
 have hdef:mS d room r=if chk d room≠0 then(Dm.zero,chk d room) else if r.bytes.2≠0 then(Dm.zero,r.bytes.2) else if r.k=1 then(if chk r.s room≠0 then(Dm.zero,chk r.s room) else(r.s,0)) else if (mY room (pF d.its) r.ns).2≠0 then(Dm.zero,(mY room (pF d.its) r.ns).2) else(⟨if r.ch=0 then r.pl else d.p0,if r.ch=0 then d.p1 else r.pl,(mY room (pF d.its) r.ns).1⟩,0):=rfl
 have ld:∀{h':PH},eM h5 h'->dH PG h' (loadAt cR (pT r1 0))=some (d.v v):=λu=>Dm.load (o:=0) (B15.ext u) rfl;have lr:∀{h':PH},eM h5 h'->dH PG h' (loadAt bT (pT r3 0))=some (r.v vi vn):=λu=>bT.agg (B35.ext u) (by show 0+10≤10;decide);have lk:∀{h':PH},eM h5 h'->dH PG h' (loadAt aR (pT r3 0))=some (.int .i64 r.k):=λu=>by rw[aR.load,(B35.ext u).cell];rfl
 have ls:∀{h':PH},eM h5 h'->dH PG h' (loadAt cR (pT r3 1))=some (r.s.v vi):=λu=>Dm.load (o:=1) (B35.ext u) rfl;have lit:∀{h':PH},eM h5 h'->dH PG h' (loadAt dC (pT r1 4))=some v:=λu=>by rw[dC.load,(B15.ext u).cell];rfl
 have ln:∀{h':PH},eM h5 h'->dH PG h' (loadAt eK (pT r3 9))=some vn:=λu=>by rw[eK.load,(B35.ext u).cell];rfl
 have l2:∀{h':PH},eM h5 h'->dH PG h' (loadAt eD (pT r1 0))=some (mP d.p0 d.p1):=λu=>aIb (B15.ext u) rfl;have lch:∀{h':PH},eM h5 h'->dH PG h' (loadAt aR (pT r3 6))=some (.int .i64 r.ch):=λu=>by rw[aR.load,(B35.ext u).cell];rfl
 have lpl:∀{h':PH},eM h5 h'->dH PG h' (loadAt dK (pT r3 7))=some (.agg r.pl.cells.toArray):=λu=>aCn (B35.ext u) rfl;simp only[ld eH.refl,dF,reduceIte,dM,Nat.reduceAdd];refine aI0 (V.ext e5) hl w λh6 u6=>?_;by_cases c0:chk d room=0
 case neg=>
  have q:(chk d room !=0)=true:=by simp[c0]
  rw[if_pos c0] at hdef;simp only[fZ,q,rX,dF,reduceIte,dM,Nat.reduceAdd];exact bad u6 hdef
 rw[if_neg (by simp[c0])] at hdef;simp only[c0,fZ,lr u6,dF,reduceIte,dM,Nat.reduceAdd];refine aRj (VI.ext (e5.trans u6)) (VN.ext (e5.trans u6)) wf (by omega) hn λh7 s e he u7=>?_;have e7:=u6.trans u7;rcases he with⟨rfl,ok⟩|⟨rfl,no⟩
 case inr=>
  have n1:((1:Int) !=0)=true:=by decide
  rcases aAd r with⟨ok,-⟩|⟨-,eb⟩
  ·exact absurd ok no
  rw[eb] at hdef;simp only[fZ,n1,rX,dF,reduceIte,dM,Nat.reduceAdd];exact bad e7 (by rw[hdef];rfl)
 rw[aQj ok] at hdef;simp only[ne_eq,not_true_eq_false,if_false] at hdef;simp only[bT.f0,lk e7,fZ,gX,dF,reduceIte,dM,Nat.reduceAdd];by_cases k1:r.k=1
 ·have q:(r.k==1)=true:=by simp[k1]
  rw[if_pos k1] at hdef;simp only[q,bT.f1,kB,ls e7,dF,reduceIte,dM,Nat.reduceAdd];refine aI0 (VI.ext (e5.trans e7)) hi wf.s λh8 u8=>?_;have e8:=e7.trans u8;by_cases c2:chk r.s room=0
  ·rw[if_neg (by simp[c2])] at hdef;simp only[c2,fZ,bT.f1,kB,ls e8,dF,reduceIte,dM,Nat.reduceAdd];refine out e8 hdef (VI.ext (e5.trans e8)) (λhne x n c e hm=>?_) (.inr rfl);have:=VI.known (by simpa using hne) e;simp only[jI] at hm;rw[hm] at this;exact this (f5 r5 (by simp))
  ·rw[if_pos c2] at hdef;have q2:(chk r.s room !=0)=true:=by simp[c2]
   simp only[fZ,q2,rX,dF,reduceIte,dM,Nat.reduceAdd];exact bad e8 hdef
 ·have q:(r.k==1)=false:=by simp[k1]
  obtain⟨k2,-,hch,q16⟩:=tA ok.plain k1;rw[if_neg k1] at hdef;have hof:oJ room d.its=0:=by
   rw[aS4] at c0;by_cases h0:oJ room d.its=0
   ·exact h0
   ·by_cases h1:kX d.p0∧kX d.p1
    ·rw[if_neg (by simpa using h1),if_pos h0] at c0;exact c0
    ·rw[if_pos h1] at c0;cases c0
  simp only[q,cR.f1,kB,lit e7,dF,reduceIte,dM,Nat.reduceAdd];refine aTa (V.ext (e5.trans e7)) hl (λm hm=>⟨(w.i m hm).1,(w.i m hm).2.2.1⟩) (λh8 u8 hne=>absurd hof hne) (λa h8 F _ H8 f8 u8=>?_);have e8:=e7.trans u8;have hx:=aIH d.its;simp only[bT.f4,kB,ln e8,dF,reduceIte,dM,Nat.reduceAdd];refine aV2 H8 (VN.ext (e5.trans e8)) (λhne x n c e hm=>(VN.ext (e5.trans e7)).known (by simpa using hne) e (f8 _ hm)) (by omega) wf.n λh9 F9 n H9 u9 g9=>?_;have e9:=e8.fresh u9 (f8.of e7);by_cases c3:(mY room (pF d.its) r.ns).2=0
  case neg=>
   have q3:((mY room (pF d.its) r.ns).2 !=0)=true:=by simp[c3]
   rw[if_pos c3] at hdef;simp only[fZ,q3,rX,dF,reduceIte,dM,Nat.reduceAdd];exact bad e9 hdef
  rw[if_neg (by simpa using c3)] at hdef;obtain⟨tv,G,ha,hO,eF,-⟩:=H9.here;generalize (mY room (pF d.its) r.ns).1=L at *;have fF:fX h5 F9:=(f8.of e7).grow e8 g9;have fG:fX h5 G:=λb hb=>fF b (by rw[eF];simp[hb]);have nv:=hO.newV fG;have lt:dH PG h9 (loadAt dC (pT a 0))=some tv:=by
   rw[dC.load];unfold eA;simp[ha]
  have VL:kV h9 tv L:=hO.slR;obtain⟨ta,tc,etv,-⟩:=VL.here;have hb:dE PG (build cR #[(0,mP d.p0 d.p1),(1,tv)])=some (Dm.v ⟨d.p0,d.p1,L⟩ tv):=by rw[etv];exact aUf _ _ _ _ _
  simp only[c3,fZ,cR.f0,l2 e9,aKU,eR.f0,lt,hb,dF,reduceIte,dM,Nat.reduceAdd];intro r65 hr65
  try rw[dY]
  refine cR.fill hr65 rfl (Dm.isC _ VL.isc) λh10 B10 u10=>?_;have e10:=e9.trans u10;have f65:fX h5 [r65]:=fX.one (e9.none hr65);have VLa:=VL.ext u10;have oK:∀{b:Nat},h5 b≠none->aGB L tv [b]:=λhb=>aGB.new nv (λc hc=>by simp only[jI] at hc;rw[hc];exact hb);have o65:aGB L tv [r65]:=λhne x n c e hm=>by
   simp only[jI] at hm;exact VL.known (by simpa using hne) e (by rw[hm];exact hr65)
  rcases hch with hc|hc
  ·rw[hc] at lch hdef;simp only[if_true] at hdef;simp only[bT.f2,bT.f3,kB,lch e10,lpl e10,cR.f0,aYy,dF,reduceIte,dM,Nat.reduceAdd];refine dK.put B10 (o:=0) (vs:=r.pl.cells) rfl (by show 0+2≤5;decide) (by simp[Pl.cells,gN]) λh11 B11 u11=>?_;have VL11:=kV.updG VLa o65 u11 (λb hb=>hb);have e11:=e10.fresh u11 f65;simp only[Dm.load (o:=0) (d:=⟨r.pl,d.p1,L⟩) (v:=tv) B11 rfl,dF,reduceIte,dM,Nat.reduceAdd];exact out e11 hdef VL11 (oK K5) (.inl (nv.of e5))
  ·have n1:¬((1:Int)=0):=by decide
   rw[hc] at lch hdef;simp only[n1,if_false] at hdef;simp only[bT.f2,bT.f3,kB,lch e10,lpl e10,cR.f0,aY8,dF,reduceIte,dM,Nat.reduceAdd];refine dK.put B10 (o:=2) (vs:=r.pl.cells) rfl (by show 2+2≤5;decide) (by simp[Pl.cells,gN]) λh11 B11 u11=>?_;have VL11:=kV.updG VLa o65 u11 (λb hb=>hb);have e11:=e10.fresh u11 f65;simp only[Dm.load (o:=0) (d:=⟨d.p0,r.pl,L⟩) (v:=tv) B11 rfl,dF,reduceIte,dM,Nat.reduceAdd];exact out e11 hdef VL11 (oK K5) (.inl (nv.of e5))
structure JoA(a w j:Nat)(d:Dk)(x:Jn)(h:PH)(F:List Nat):Prop where
 here:∃Fw iv,F=j::(nZ iv x.s.its.length++Fw)∧Bx h j (x.cells w iv)∧WoA a w d x.w h Fw∧kV h iv x.s.its∧j∉Fw∧j∉nZ iv x.s.its.length∧∀b∈nZ iv x.s.its.length,b∉Fw
 ok:OkD x.s x.room
 wf:x.s.wf
def JoA.known{a w j:Nat}{d:Dk}{x:Jn}{h:PH}{F:List Nat}(H:JoA a w j d x h F):∀b∈F,h b≠none:=by
 obtain⟨Fw,iv,rfl,B,W,S,-⟩:=H.here;intro b hb;simp only[jW,wQ] at hb;rcases hb with rfl|hb|hb
 ·exact B.known
 ·exact aGy S b hb
 ·exact W.known b hb
def JoA.upd{a w j:Nat}{d:Dk}{x:Jn}{h h':PH}{F K:List Nat}(H:JoA a w j d x h F)(u:eH K h h')(hK:∀b∈F,b∉K):JoA a w j d x h' F:=by
 obtain⟨Fw,iv,rfl,B,W,S,n⟩:=H.here;exact⟨⟨Fw,iv,rfl,B.upd u (hK j (by simp)),W.upd u (λb hb=>hK b (by simp[hb])),aGU S u (λb hb=>hK b (by simp[hb])),n⟩,H.ok,H.wf⟩
def JoA.good(a w j:Nat)(d:Dk)(x:Jn):aIu (JoA a w j d x):=⟨λH=>H.known,λH u hK=>H.upd u hK⟩
def JoA.ext{a w j:Nat}{d:Dk}{x:Jn}{h h':PH}{F:List Nat}(H:JoA a w j d x h F)(u:eM h h'):JoA a w j d x h' F:=(JoA.good a w j d x).ext H u
def aOi{h:PH}{s:Dm}{iv:Value}(S:kV h iv s.its)(wf:s.wf)(hl:s.its.length≤1000){k:dI}(hk:∀h',eM h h'->k (.string (tx (mA s))) h'):bR PG wK #[s.v iv] h k:=by
 apply aA6.call;unfold aA6;intro r1 hr1
 try rw[dY]
 have u1:eM h (h.set r1 (.cells (Value.cells (s.v iv)) cR)):=eH.new hr1;have B1:Bx (h.set r1 (.cells (Value.cells (s.v iv)) cR)) r1 (s.cells iv):=Bx.new;generalize h.set r1 (.cells (Value.cells (s.v iv)) cR)=h1 at *;have l1:dH PG h1 (loadAt cR (pT r1 0))=some (s.v iv):=cR.agg B1 (by show 0+5≤5;decide);obtain⟨b,m,c,rfl⟩:=sZ S;simp only[l1,aQx,dF,reduceIte,dM,Nat.reduceAdd];refine aM8 (r:=nX s) (S.ext u1) (fY.nil (e:=dP)).slR (aMV wf) (by show s.its.length≤_;omega) (by show 0≤_;omega) λh2 u2=>?_;simp only[dF,reduceIte,dM,Nat.reduceAdd];exact hk h2 (u1.trans u2)
def aTD{h0 h:PH}{a w j r:Nat}{d':Dk}{x:Jn}{w':Wl}{iv v':Value}{nx:Dm}{F0 Fw:List Nat}{e:Int}(B:Bx h j (x.cells w iv))(S:kV h iv x.s.its)(W:WoA a w d' w' h Fw)(B2:Bx h r (nx.cells v'))(S2:kV h v' nx.its)
  (n1:j∉Fw) (n2:j∉nZ iv x.s.its.length) (n3:∀b∈nZ iv x.s.its.length,b∉Fw) (m2:j∉nZ v' nx.its.length) (m3:∀b∈nZ v' nx.its.length,b∉Fw) (m4:∀b∈nZ v' nx.its.length,b∈F0∨h0 b=none)
  (st:fT h0 F0 h (j::(nZ iv x.s.its.length++Fw))) (ok:OkD x.s x.room) (wf:x.s.wf) (ok2:e=0->OkD nx x.room) (wf2:e=0->nx.wf) {k:dI}
  (hk:∀h' F',JoA a w j d' ⟨w',x.room,if e=0 then nx else x.s⟩ h' F'->fT h0 F0 h' F'->k (.int .i64 e) h'):nY k (pT j 0) (pT r 0) (.int .i64 e) h:=by
 unfold nY;by_cases c:e=0
 ·have q:(e==0)=true:=by rw[c];rfl
  have l2:dH PG h (loadAt cR (pT r 0))=some (nx.v v'):=cR.agg B2 (by show 0+5≤5;decide);obtain⟨b,m,c',rfl⟩:=sZ S2;simp only[gX,q,l2,gC.f2,dF,reduceIte,dM,Nat.reduceAdd];refine cR.put B (vs:=nx.cells (.slice b m c')) (o:=2) rfl (by show 2+5≤7;decide) (by simp[Dm.cells,gN]) λh3 B3 u3=>?_;unfold qM;have B3:Bx h3 j (Jn.cells w ⟨w',x.room,nx⟩ (.slice b m c')):=B3;rw[if_pos c] at hk;refine hk h3 (j::(nZ (.slice b m c') nx.its.length++Fw)) ⟨⟨Fw,_,rfl,B3,W.upd u3 (lL n1),aGU S2 u3 (lL m2),n1,m2,m3⟩,ok2 c,wf2 c⟩ ⟨?_,λb hb=>?_⟩
  ·exact st.upd.then u3 (λb hb=>by
    simp only[jI] at hb;exact st.grow b (by rw[hb];simp))
  ·simp only[jW,wQ] at hb;rcases hb with rfl|hb|hb
   ·exact st.grow _ (by simp)
   ·exact m4 b hb
   ·exact st.grow b (by simp[hb])
 ·have q:(e==0)=false:=by rw[beq_eq_false_iff_ne];exact c
  rw[if_neg c] at hk;simp only[gX,q,dF,reduceIte,dM,Nat.reduceAdd];unfold qM;exact hk h _ ⟨⟨Fw,iv,rfl,B,W,S,n1,n2,n3⟩,ok,wf⟩ st
def aT1{h:PH}{a w j:Nat}{d:Dk}{x:Jn}{F:List Nat}{vn:Value}{ns:List Nt}(H:JoA a w j d x h F)(ch:Int)(q:Pl)(hq:q.wf)(N:wX h vn ns)(hn:∀y∈ns,y.p.wf)(hnl:ns.length≤1000)(hb:d.buf.length≤900000){k:dI}
  (hk:∀h' F',JoA a w j (pK d x ch q ns).1 (pK d x ch q ns).2.1 h' F'->fT h F h' F'->k (.int .i64 (pK d x ch q ns).2.2) h'):bR PG qS #[pT j 0,.int .i64 ch,.agg q.cells.toArray,vn] h k:=by
 apply nU.call;unfold nU;obtain⟨Fw,iv,eF,B,W,S,n1,n2,n3⟩:=id H.here;have hlen:=H.ok.len;have hr2:=H.ok.r2;have wfr:(iN ch q ns).wf:=⟨⟨Pl.wf_zero,Pl.wf_zero,by simp[iN,Dm.zero]⟩,hq,hn⟩;intro r1 hr1
 try rw[dY]
 have u1:eM h (h.set r1 (.cells (Value.cells (.agg q.cells.toArray)) dK)):=eH.new hr1;have B1:Bx (h.set r1 (.cells (Value.cells (.agg q.cells.toArray)) dK)) r1 q.cells:=Bx.new;generalize h.set r1 (.cells (Value.cells (.agg q.cells.toArray)) dK)=h1 at *;have H1:=H.ext u1;have L1:=JlB.of (B.ext u1);obtain⟨Fd0,eF0,Bw0,Dw0,nw0⟩:=id W.here;have Lw:=WoB.of (Bw0.ext u1);have lb:=Lw.broken;simp only[gC.f0,iA.load,L1.wal,dO.f6,iI.load,dF,reduceIte,dM,Nat.reduceAdd];unfold pK at hk;cases hx:x.w.broken with
 | true=>
  rw[if_pos hx] at hk;rw[hx] at lb;simp only[lb,dF,reduceIte,dM,Nat.reduceAdd];exact hk h1 F H1 (fT.ext u1)
 | false=>
  rw[if_neg (by rw[hx];decide)] at hk;rw[hx] at lb;have l1:dH PG h1 (loadAt dK (pT r1 0))=some (.agg q.cells.toArray):=dK.agg B1 (by show 0+2≤2;decide);obtain⟨bn,mn,cn,rfl⟩:=sZ N;simp only[lb,l1,aRH ch q ns,dF,reduceIte,dM,Nat.reduceAdd];intro r7 hr7
  try rw[dY]
  refine bT.fill (vs:=(iN ch q ns).cells (.slice none 0 0) (.slice bn mn cn)) hr7 rfl (by simp[Rc.cells,gN]) λh2 B7 u2=>?_;have e2:=u1.trans u2;have L:=JlB.of (B.ext e2);have l7:dH PG h2 (loadAt bT (pT r7 0))=some ((iN ch q ns).v (.slice none 0 0) (.slice bn mn cn)):=bT.agg B7 (by show 0+10≤10;decide);simp only[gC.f1,gC.f2,L.st,aR.load,L.room,l7,dF,reduceIte,dM,Nat.reduceAdd];have nz:kV h2 (.slice none 0 0) (iN ch q ns).s.its:=(fY.nil (e:=dJ)).slR;refine aPm (r:=iN ch q ns) (S.ext e2) H.wf (by omega) nz (N.ext e2) wfr (by show 0≤900;decide) (by show ns.length≤_;omega) λh3 v' S3 N3 u3=>?_;have N3:jV h2 v':=N3.elim id (λe=>e▸jV.nil);have e3:=e2.trans u3;obtain⟨P,hP⟩:∃P,mS x.s x.room (iN ch q ns)=P:=⟨_,rfl⟩;have hgood:=aEp (d:=x.s) (room:=x.room) (r:=iN ch q ns);have hpwf:=aJp (d:=x.s) (room:=x.room) (r:=iN ch q ns);rw[hP] at hk S3 hgood hpwf ⊢;simp only[dF,reduceIte,dM,Nat.reduceAdd];intro r22 hr22
  try rw[dY]
  obtain⟨b',m',c',rfl⟩:=sZ S3;refine cR.fill (vs:=P.1.cells (.slice b' m' c')) hr22 rfl (by simp[Dm.cells,gN]) λh4 B22 u4=>?_;have e4:=e3.trans u4;by_cases c:P.2=0
  ·have qc:(P.2 !=0)=false:=by rw[c];rfl
   rw[if_neg (λe=>e c)] at hk;obtain⟨-,hrc,hok2,-⟩:=hgood c;have hwf2:=hpwf c H.wf wfr;have l7':dH PG h4 (loadAt bT (pT r7 0))=some ((iN ch q ns).v (.slice none 0 0) (.slice bn mn cn)):=bT.agg ((B7.ext u3).ext u4) (by show 0+10≤10;decide);simp only[fZ,qc,l7',dF,reduceIte,dM,Nat.reduceAdd];refine aM8 (r:=iN ch q ns) (fY.nil (e:=dJ)).slR (N.ext e4) wfr (by show 0≤_;omega) (by show ns.length≤_;omega) λh5 u5=>?_;have e5:=e4.trans u5;have L5:=JlB.of (B.ext e5);simp only[gC.f0,iA.load,L5.wal,jS,dF,reduceIte,dM,Nat.reduceAdd];have hsb:=aCp hrc;refine aUx (W.ext e5) _ (by omega) ?_;obtain⟨h6,eh6⟩:∃h6,h5=h6:=⟨_,rfl⟩;have u6:eM h5 h6:=by rw[eh6];exact eH.refl
   rw[eh6];have e6:=e5.trans u6;have L6:=JlB.of (B.ext e6);have W6:=W.ext e6;have S6:kV h6 (.slice b' m' c') P.1.its:=((S3.ext u4).ext u5).ext u6;have nb:∀b∈nZ (.slice b' m' c') P.1.its.length,h2 b=none:=λb hb=>nZ.new N3 hb;have d1:j∉nZ (.slice b' m' c') P.1.its.length:=λhm=>(B.ext e2).known (nb j hm);have d2:∀b∈nZ (.slice b' m' c') P.1.its.length,b∉Fw:=λb hb hf=>(W.ext e2).known b hf (nb b hb);have d3:∀b∈nZ (.slice b' m' c') P.1.its.length,h b=none:=λb hb=>e2.none (nb b hb);have fin:∀h7 Fw' d' w' e,WoA a w d' w' h7 Fw'->fT h6 Fw h7 Fw'->xY d x (iN ch q ns) P.1=(d',w',e)->nY k (pT j 0) (pT r22 0) (.int .i64 e) h7:=by
    intro h7 Fw' d' w' e W7 s7 eq;rw[eq] at hk;have r22F:r22∉Fw:=λhm=>(W.ext e3).known r22 hm hr22;obtain⟨B7',k1⟩:=(B.ext e6).step s7 n1;obtain⟨B22',-⟩:=((B22.ext u5).ext u6).step s7 r22F;obtain⟨S7,k2⟩:=aDW S6 s7 d2;obtain⟨S7',k3⟩:=aDW (S.ext e6) s7 n3;refine aTD (x:=x) B7' S7' W7 B22' S7 k1 n2 k3 d1 k2 (λb hb=>.inr (d3 b hb)) ?_ H.ok H.wf (λ_=>hok2) (λ_=>hwf2) hk;refine⟨?_,λb hb=>?_⟩
    ·exact e6.upd.then s7.upd (λb hb=>.inl (by rw[eF];simp[hb]))
    ·rw[eF];simp only[jW,wQ] at hb ⊢;rcases hb with rfl|hb|hb
     ·exact .inl (.inl rfl)
     ·exact .inl (.inr (.inl hb))
     ·rcases s7.grow b hb with e|e
      ·exact .inl (.inr (.inr e))
      ·exact .inr (e6.none e)
   unfold xY at fin;cases cf:fits d x.w (iN ch q ns).bytes.1.length with
   | true=>
    rw[if_pos cf] at fin;simp only[gC.f0,iA.load,L6.wal,dF,reduceIte,dM,Nat.reduceAdd];refine aRw W6 _ (by omega) (by omega) λh7 F7 W7 s7=>?_;exact fin h7 F7 _ _ _ W7 s7 rfl
   | false=>
    rw[if_neg (by rw[cf];decide)] at fin;have l22:dH PG h6 (loadAt cR (pT r22 0))=some (P.1.v (.slice b' m' c')):=cR.agg ((B22.ext u5).ext u6) (by show 0+5≤5;decide);simp only[gC.f0,iA.load,L6.wal,l22,dF,reduceIte,dM,Nat.reduceAdd];refine aOi S6 hwf2 (by have:=hok2.len;have:=hok2.r2;omega) λh7 u7=>?_;have L7:=JlB.of ((B.ext e6).ext u7);refine⟨L7.wal,?_⟩;have hsw:=aCp (aEm hok2);refine aJt (W6.ext u7) _ (by unfold mA;omega) (by omega) λh8 F8 W8 s8=>?_;exact fin h8 F8 _ _ _ W8 ((fT.ext u7).trans s8) rfl
  ·have qc:(P.2 !=0)=true:=bne_iff_ne.2 c;rw[if_pos c] at hk;simp only[fZ,qc,dF,reduceIte,dM,Nat.reduceAdd];exact hk h4 F (H.ext e4) (fT.ext e4)
def aWu(w:Nat)(room:Int)(x:Wl)(s:Dm)(b:Option Addr)(n c:Nat):dE PG (build gC #[(0,pT w 0),(1,.int .i64 room),(2,s.v (.slice b n c))])=some (.agg (Jn.cells w ⟨x,room,s⟩ (.slice b n c)).toArray):=by kernel_rfl
def aWH(p q:Pl)(room:Int):chk ⟨p,q,[]⟩ room=0∨chk ⟨p,q,[]⟩ room=1:=by
 unfold chk;show(if oJ room []=1∨¬(kX p∧kX q) then(1:Int) else if oJ room []≠0 then oJ room [] else if pF []≠[] then 15 else 0)=0∨_=1;split
 ·exact .inr rfl
 ·rename_i c;have h0:oJ room []=0:=by
   unfold oJ at c ⊢;split
   ·rename_i a;rw[if_pos a] at c;exact absurd (.inl rfl) c
   ·rename_i a;rw[if_neg a] at c;simp only[List.all_nil,Bool.true_eq_false,if_false,kF,List.nodup_nil,not_true_eq_false,lU];split
    ·rename_i b;omega
    ·rfl
  rw[h0,if_neg (by simp),if_neg (by show ¬(pF []≠[]);simp[pF])];exact .inl rfl
def aOl{h0 h:PH}{a w r:Nat}{d:Dk}{x:Wl}{F0 Fw:List Nat}{room:Int}{s:Dm}{iv:Value}(W:WoA a w d x h Fw)(B:Bx h r (s.cells iv))(S:kV h iv s.its)(n1:∀b∈nZ iv s.its.length,b∉Fw)(rF:r∉Fw)(m4:∀b∈nZ iv s.its.length,b∈F0∨h0 b=none)
  (st:fT h0 F0 h Fw) (ok:OkD s room) (wf:s.wf) (hb:d.buf.length≤900000) {k:dI}
  (bad:∀h' F',pI a (iE d x (mA s)).1 h' F'->fT h0 F0 h' F'->(iE d x (mA s)).2.2≠0->k (.tuple #[.pointer none,.int .i64 (iE d x (mA s)).2.2]) h')
  (hk:∀h' F' j,JoA a w j (iE d x (mA s)).1 ⟨(iE d x (mA s)).2.1,room,s⟩ h' F'->fT h0 F0 h' F'->(iE d x (mA s)).2.2=0->k (.tuple #[pT j 0,.int .i64 0]) h'):wW k (.int .i64 room) (pT r 0) (pT w 0) h:=by
 unfold wW;have l1:dH PG h (loadAt cR (pT r 0))=some (s.v iv):=cR.agg B (by show 0+5≤5;decide);simp only[l1,dF,reduceIte,dM,Nat.reduceAdd];refine aOi S wf (by have:=ok.len;have:=ok.r2;omega) λh1 u1=>?_;have hsw:=aCp (aEm ok);refine aJt (W.ext u1) _ (by unfold mA;omega) (by omega) λh2 F2 W2 s2=>?_;have st2:=st.trans ((fT.ext (F:=Fw) u1).trans s2);obtain⟨P,hP⟩:∃P,iE d x (mA s)=P:=⟨_,rfl⟩;rw[hP] at bad hk W2 ⊢;by_cases c:P.2.2=0
 ·have q:(P.2.2 !=0)=false:=by rw[c];rfl
  obtain⟨B2,-⟩:=(B.ext u1).step s2 rF;obtain⟨S2,k2⟩:=aDW (S.ext u1) s2 n1;have l2:dH PG h2 (loadAt cR (pT r 0))=some (s.v iv):=cR.agg B2 (by show 0+5≤5;decide);obtain⟨b,m,c',rfl⟩:=sZ S2;simp only[fZ,q,l2,aWu w room P.2.1 s,dF,reduceIte,dM,Nat.reduceAdd];intro r37 hr37
  try rw[dY]
  have u3:eM h2 (h2.set r37 (.cells (Value.cells (.agg (Jn.cells w ⟨P.2.1,room,s⟩ (.slice b m c')).toArray)) gC)):=eH.new hr37;have B3:Bx (h2.set r37 (.cells (Value.cells (.agg (Jn.cells w ⟨P.2.1,room,s⟩ (.slice b m c')).toArray)) gC)) r37 (Jn.cells w ⟨P.2.1,room,s⟩ (.slice b m c')):=Bx.new;generalize h2.set r37 (.cells (Value.cells (.agg (Jn.cells w ⟨P.2.1,room,s⟩ (.slice b m c')).toArray)) gC)=h3 at *;refine hk h3 (r37::(nZ (.slice b m c') s.its.length++F2)) r37 ⟨⟨F2,_,rfl,B3,W2.ext u3,S2.ext u3,λhm=>W2.known r37 hm hr37,λhm=>aGy S2 r37 hm hr37,k2⟩,ok,wf⟩ ⟨st2.upd.trans u3.upd,λb hb=>?_⟩ c;simp only[jW,wQ] at hb;rcases hb with rfl|hb|hb
  ·exact st2.none hr37
  ·exact m4 b hb
  ·exact st2.grow b hb
 ·have q:(P.2.2 !=0)=true:=bne_iff_ne.2 c;simp only[fZ,q,dF,reduceIte,dM,Nat.reduceAdd];obtain⟨Fd,eF,-,D2,-⟩:=W2.here;exact bad h2 Fd D2 ⟨st2.upd,λb hb=>st2.grow b (by rw[eF];simp[hb])⟩ c
def aTH{h:PH}{a:Nat}{d:Dk}{F:List Nat}(D:pI a d h F)(room:Int)(p q:Pl)(wp:p.wf)(wq:q.wf)(hs:d.sectors≤1000)(hb:d.buf.length≤800000){k:dI}
  (hrep:∀(h:PH) (v:Value),jE h 1 v ((gQ d).2.1.2.map jX)->(gQ d).2.1.2≠[]->∀{k:dI},(∀h' v',kV h' v' (zS room (gQ d).2.1.2).1.its->jV h v'->eM h h'->k (.tuple #[(zS room (gQ d).2.1.2).1.v v',.int .i64 (zS room (gQ d).2.1.2).2]) h')->bR PG pL #[.int .i64 room,v] h k)
  (bad:∀h' F',pI a (jP d room p q).1 h' F'->fT h F h' F'->(jP d room p q).2.2≠0->k (.tuple #[.pointer none,.int .i64 (jP d room p q).2.2]) h')
  (hk:∀h' F' w j,JoA a w j (jP d room p q).1 (jP d room p q).2.1 h' F'->fT h F h' F'->(jP d room p q).2.2=0->k (.tuple #[pT j 0,.int .i64 0]) h'):bR PG yH #[pT a 0,.int .i64 room,mP p q] h k:=by
 apply aBf.call;unfold aBf;intro r1 hr1
 try rw[dY]
 have u1:eM h (h.set r1 (.cells (Value.cells (mP p q)) eD)):=eH.new hr1;have B1:Bx (h.set r1 (.cells (Value.cells (mP p q)) eD)) r1 (p.cells++q.cells):=Bx.new;generalize h.set r1 (.cells (Value.cells (mP p q)) eD)=h1 at *;have l1:dH PG h1 (loadAt eD (pT r1 0))=some (mP p q):=eD.agg B1 (by show 0+4≤4;decide);simp only[l1,aQy,dF,reduceIte,dM,Nat.reduceAdd];intro r5 hr5
 try rw[dY]
 refine cR.fill (vs:=Dm.cells ⟨p,q,[]⟩ (.slice none 0 0)) hr5 rfl (by simp[Dm.cells,gN]) λh2 B2 u2=>?_;have e2:=u1.trans u2;have l2:dH PG h2 (loadAt cR (pT r5 0))=some (Dm.v ⟨p,q,[]⟩ (.slice none 0 0)):=cR.agg B2 (by show 0+5≤5;decide);have r5F:r5∉F:=λhm=>(D.ext u1).known r5 hm hr5;simp only[l2,dF,reduceIte,dM,Nat.reduceAdd];have nz:∀{h:PH},kV h (.slice none 0 0) (⟨p,q,[]⟩:Dm).its:=(fY.nil (e:=dJ)).slR;refine aI0 (d:=⟨p,q,[]⟩) nz (by simp) ⟨wp,wq,by simp⟩ λh3 u3=>?_;have e3:=e2.trans u3;unfold jP at bad hk;have wf0:(⟨p,q,[]⟩:Dm).wf:=⟨wp,wq,by simp⟩;by_cases c:chk ⟨p,q,[]⟩ room=0
 ·have qc:(chk ⟨p,q,[]⟩ room !=0)=false:=by rw[c];rfl
  rw[if_neg (λe=>e c)] at bad hk;simp only[fZ,qc,dF,reduceIte,dM,Nat.reduceAdd];refine aT0 (D.ext e3) (by omega) (λh4 F4 D4 s4 ne=>?_) (λh4 F4 w v G W4 O4 dj s4 e0=>?_)
  ·have q4:((gQ d).2.2 !=0)=true:=bne_iff_ne.2 ne;rw[if_pos ne] at bad;simp only[fZ,q4,dF,reduceIte,dM,Nat.reduceAdd];exact bad h4 F4 D4 ((fT.ext e3).trans s4) ne
  ·have q4:((0:Int) !=0)=false:=rfl;rw[if_neg (λe=>e e0)] at bad hk;have hfw:=aJT D.ok;have hbw:=aJd d;have hsg:d.segs≤1000:=by unfold Dk.segs;omega
   have st4:=(fT.ext (F:=F) e3).trans s4;obtain⟨B4,r54⟩:=(B2.ext u3).step s4 r5F;have r5w:r5∉F4:=λhm=>r54 (by simp[hm]);have st4':fT h F h4 F4:=⟨st4.upd,λb hb=>st4.grow b (by simp[hb])⟩;have hmay:=aOc (room:=room) (s0:=⟨p,q,[]⟩) (l:=(gQ d).2.1.2) c wf0;obtain⟨l,hl⟩:∃l,(gQ d).2.1.2=l:=⟨_,rfl⟩;rw[hl] at bad hk O4 hfw hmay hrep;have lv:=uM O4.slR;by_cases c0:l=[]
   ·have es:mH room ⟨p,q,[]⟩ l=(⟨p,q,[]⟩,0):=by unfold mH;rw[if_pos c0]
    rw[es] at bad hk hmay;rw[if_neg (λe=>e rfl)] at bad hk;have g:((0:Int)<(l.length:Int))=False:=eq_false (by rw[c0];simp);simp only[fZ,q4,lv,g,dF,reduceIte,dM,Nat.reduceAdd];refine aOl (h0:=h) (F0:=F) W4 B4 nz (λb hb=>by cases hb) r5w (λb hb=>by cases hb) st4' (hmay rfl).1 wf0 (by omega) (λh' F' D' st ne=>?_) (λh' F' j J st e=>?_)
    ·rw[if_pos ne] at bad;exact bad h' F' D' st ne
    ·rw[if_neg (λx=>x e)] at hk;exact hk h' F' w j J st rfl
   ·have es:mH room ⟨p,q,[]⟩ l=zS room l:=by unfold mH;rw[if_neg c0]
    rw[es] at bad hk hmay;have hpos:0<l.length:=aKL.2 c0;have g:((0:Int)<(l.length:Int))=True:=eq_true (by omega);simp only[fZ,q4,lv,g,dF,reduceIte,dM,Nat.reduceAdd];refine hrep _ _ O4.slR c0 λh5 v5 S5 N5 u5=>?_;obtain⟨R,hR⟩:∃R,zS room l=R:=⟨_,rfl⟩;rw[hR] at bad hk hmay S5 ⊢;simp only[dF,reduceIte,dM,Nat.reduceAdd];have B5:=B4.ext u5;obtain⟨b',m',c',rfl⟩:=sZ S5;refine cR.put B5 (vs:=R.1.cells (.slice b' m' c')) (o:=0) rfl (by show 0+5≤5;decide) (by simp[Dm.cells,gN]) λh6 B6 u6=>?_;have W6:=(W4.ext u5).upd u6 (lL r5w);have m5:∀b∈nZ (.slice b' m' c') R.1.its.length,h4 b=none:=λb hb=>nZ.new N5 hb;have r5s:r5∉nZ (.slice b' m' c') R.1.its.length:=λhm=>B4.known (m5 r5 hm);have S6:=aGU S5 u6 (lL r5s);have f5:h r5=none:=u1.none hr5;have st6:fT h F h6 F4:=⟨(st4'.upd.trans u5.upd).then u6 (λb hb=>by
     simp only[jI] at hb;rw[hb];exact .inr f5),st4'.grow⟩
    by_cases c2:R.2=0
    ·have q2:(R.2 !=0)=false:=by rw[c2];rfl
     rw[if_neg (λe=>e c2)] at bad hk;simp only[fZ,q2,dF,reduceIte,dM,Nat.reduceAdd];refine aOl (h0:=h) (F0:=F) (s:=R.1) (iv:=.slice b' m' c') W6 B6 S6 (λb hb hf=>W4.known b hf (m5 b hb)) r5w (λb hb=>st4'.none (m5 b hb)) st6 (hmay c2).1 (hmay c2).2 (by omega) (λh' F' D' st ne=>?_) (λh' F' j J st e=>?_)
     ·rw[if_pos ne] at bad;exact bad h' F' D' st ne
     ·rw[if_neg (λx=>x e)] at hk;exact hk h' F' w j J st rfl
    ·have q2:(R.2 !=0)=true:=bne_iff_ne.2 c2;rw[if_pos c2] at bad;simp only[fZ,q2,dF,reduceIte,dM,Nat.reduceAdd];obtain⟨Fd,eF,-,D6,-⟩:=W6.here;exact bad h6 Fd D6 ⟨st6.upd,λb hb=>st6.grow b (by rw[eF];simp[hb])⟩ c2
 ·have qc:(chk ⟨p,q,[]⟩ room !=0)=true:=bne_iff_ne.2 c;rw[if_pos c] at bad;have c1:chk ⟨p,q,[]⟩ room=1:=(aWH p q room).resolve_left c;rw[c1] at bad;simp only[fZ,qc,dF,reduceIte,dM,Nat.reduceAdd];exact bad h3 F (D.ext e3) (fT.ext e3) (by show(1:Int)≠0;decide)
end Go.Proofs.YtiohehjhlghikaaGreatDoor
