/- The texts of this claim, put together. -/
import Derived.Test.YtiohehjhlghikaaGreatDoorJgPVC7
set_option linter.all false
set_option maxRecDepth 100000
open Go.Instr (loadAt fieldAt indexAt extract buildSlice build)
namespace Go.Proofs.YtiohehjhlghikaaGreatDoor
open Go
def aTj{st:List Tx}{n size:Nat}{s:Tx}(hx:∀s∈st,s.length=size)(hn:n<st.length)(hs:s.length=size):st.set n (s++(st.getD n []).drop s.length)=st.set n s:=by
 have hl:=hx _ (aIu hn);rw[aDm,kV hn,Option.getD_some,aAr (by omega),zLQ]
def aLy{h:PH}{r:Nat}{d:Dk}{F:List Nat}(D:rQ r d h F)(hb:d.buf.length≤1000000){k:cF}(hk:∀h' F',rQ r d.fl.1 h' F'->eX h F h' F'->k (.int .i64 d.fl.2) h'):bW PG qE #[pT r 0] h k:=by
 apply nE.call;unfold nE;have hok:=D.ok.fl;have hz:=D.ok.size;unfold fS at hz;unfold Dk.fl at hk hok;refine aNf D λh1 D1 u1=>?_;have st1:eX h F h1 F:=⟨u1,λb hb=>.inl hb⟩;by_cases c:d.arm=1
 ·rw[if_pos c] at hk;simp only[c,decide_true,cD,reduceIte,cJ,Nat.reduceAdd];exact hk h1 F D1 st1
 ·rw[if_neg c] at hk hok;obtain⟨bv,Fb,eF,B,W,n1⟩:=D1.here;have B:Bx h1 r [.int .i64 (d.size:Int),.int .i64 (d.sectors:Int),.string (tx d.st.flatten),bv,.int .i64 ((d.arm-1:Nat):Int)]:=B;have W:eD h1 dV 2 bv (d.buf.map uG) Fb:=W;simp only[c,decide_false,cD,reduceIte,cJ,Nat.reduceAdd];refine⟨λvs h'=>∃i:Nat,i≤d.buf.length∧vs=[pT r 0,.int .i64 (i:Int)]∧Bx h' r [.int .i64 (d.size:Int),.int .i64 (d.sectors:Int),.string (tx (lM d.st (d.buf.take i)).flatten),bv,.int .i64 ((d.arm-1:Nat):Int)]∧cV [r] h1 h',fN d.buf.length 1,⟨0,by omega,rfl,B,cV.refl⟩,?_⟩;rintro ρ h' ⟨i,hi,hvs,B2,w⟩;simp only[hM,jA,kP,and_true] at hvs;obtain⟨x0,x3⟩:=hvs;unfold aBn;rw[x0,x3];have W2:=W.upd w (lH n1);have cb:cU h' ⟨r,0+3,none⟩=some bv:=B2.cell 3;by_cases hlt:i<d.buf.length
  ·have g:((i:Int)<(d.buf.length:Int))=True:=eq_true (by omega);have gi:=nR (i:=i) (by omega);obtain⟨x,hx⟩:∃x,d.buf[i]? =some x:=⟨_,kV hlt⟩;have hxb:=D.ok.buf x (aAB hx);obtain⟨b,o,i1,f0,f1⟩:=aT5 W2.slR hx;have ea:∀s∈lM d.st (d.buf.take i),s.length=d.size:=aFi _ _ D.ok.each (λw hw=>(D.ok.buf w (List.mem_of_mem_take hw)).2);have el:(lM d.st (d.buf.take i)).length=d.sectors:=by rw[zP,D.ok.len]
   have hm:=D.ok.many;simp only[cY.f3,dH.load,cb,aOJ W2.slR,g,i1,dV.f0,dV.f1,aR.load,bR.load,f0,f1,cD,reduceIte,cJ,Nat.reduceAdd];refine aUL B2 ea (by omega) (by omega) hz.2 (by omega) λh3 B3 u3=>?_;rw[aTj ea (by omega) hxb.2,←aIH hx] at B3;simp only[gi,cD,reduceIte,cJ,Nat.reduceAdd];exact⟨⟨i+1,by omega,rfl,B3,w.trans u3⟩,by simp[fN,x3];omega⟩
  ·have g:((i:Int)<(d.buf.length:Int))=False:=eq_false (by omega);have ei:d.buf.take i=d.buf:=rN (by omega);rw[ei] at B2;simp only[cY.f3,dH.load,cb,aOJ W2.slR,g,cD,reduceIte,cJ,Nat.reduceAdd];refine dH.put B2 (o:=3) (by show 3<5;decide) rfl λh3 B3 u3=>?_;have ha:=D.arm;refine hk h3 (r::[]) ⟨⟨.slice none 0 0,[],rfl,B3,eD.nil,by simp⟩,hok,by show d.arm-1<_;omega⟩ (st1.trans ⟨?_,?_⟩)
   ·rw[eF];exact(w.trans u3).mono λb hb=>.inl (by simp only[iI] at hb;simp[hb])
   ·intro b hb;rw[eF];simp only[iI] at hb;exact .inl (by simp[hb])
def aVQ(vs:List Value)(_:PH):Nat:=match vs[2]? with|some (Value.int _ y)=>(y+1).toNat|_=>0
def aJS{h:PH}{r:Nat}{d:Dk}{F:List Nat}(D:rQ r d h F)(n:Int)(hb:d.buf.length≤1000000){k:cF}(hk:k (.tuple #[.string (tx (d.rd n).1),.int .i64 (d.rd n).2]) h):bW PG oF #[pT r 0,.int .i64 n] h k:=by
 apply nV.call;unfold nV;obtain⟨bv,Fb,eF,B,W,n1⟩:=id D.here;have L:=DoB.of B;have hz:=D.ok.size;unfold fS at hz;unfold Dk.rd at hk;by_cases c0:n<0
 ·have g:(n<0)=True:=eq_true c0;rw[if_pos (.inl c0)] at hk;simp only[g,cD,reduceIte,cJ,Nat.reduceAdd];exact hk
 ·have g:(n<0)=False:=eq_false c0;by_cases c1:(d.sectors:Int)≤n
  ·have g1:((d.sectors:Int)≤n)=True:=eq_true c1;rw[if_pos (.inr c1)] at hk;simp only[g,cY.f1,aR.load,L.sectors,g1,cD,reduceIte,cJ,Nat.reduceAdd];exact hk
  ·have g1:((d.sectors:Int)≤n)=False:=eq_false c1;rw[if_neg (by omega)] at hk;have en:n=((n.toNat:Nat):Int):=by omega
   have hn:n.toNat<d.sectors:=by omega
   obtain⟨m,hm⟩:∃m,n.toNat=m:=⟨_,rfl⟩;rw[hm] at en hn hk;subst en;have w1:IntKind.i64.wrap ((d.buf.length:Int)-1)=(d.buf.length:Int)-1:=eI (by omega) (by omega);simp only[g,cY.f1,cY.f3,aR.load,dH.load,L.sectors,L.buf,g1,aOJ W.slR,w1,cD,reduceIte,cJ,Nat.reduceAdd];refine⟨λvs h'=>∃i:Nat,i≤d.buf.length∧vs=[pT r 0,.int .i64 (m:Int),.int .i64 ((i:Int)-1)]∧h'=h∧∀x∈d.buf.drop i,x.1≠m,aVQ,⟨d.buf.length,mS _,rfl,rfl,by simp⟩,?_⟩;rintro ρ h' ⟨i,hi,hvs,rfl,hno⟩;simp only[hM,jA,kP,and_true] at hvs;obtain⟨x0,x1,x6⟩:=hvs;unfold aBj;rw[x0,x1,x6];have hl:m<d.st.length:=by rw[D.ok.len];exact hn
   by_cases ci:i=0
   ·subst ci;have g2:((0:Int)≤((0:Nat):Int)-1)=False:=eq_false (by decide);have hm4:=D.ok.many;have m1:(m+1)*d.size≤d.sectors*d.size:=zLO _ hn;have m0:m*d.size≤(m+1)*d.size:=zLO _ (Nat.le_succ _);have m2:d.sectors*d.size≤4096*512:=Nat.mul_le_mul hm4 hz.2;have w2:IntKind.i64.wrap ((m:Int)*(d.size:Int))=((m*d.size:Nat):Int):=by rw[←Int.natCast_mul,eI (by omega) (by omega)]
    have w3:=nR (i:=m) (by omega);have w4:IntKind.i64.wrap (((m+1:Nat):Int)*(d.size:Int))=(((m+1)*d.size:Nat):Int):=by rw[←Int.natCast_mul,eI (by omega) (by omega)]
    have fl:=aBd D.ok.each;rw[D.ok.len] at fl;have c:cC PG (Instr.sliceAt bR (.string (tx d.st.flatten)) (some (.int .i64 ((m*d.size:Nat):Int))) (some (.int .i64 (((m+1)*d.size:Nat):Int))) none)=some (.string (tx (d.at m))):=by
     have:=kI (P:=PG) (t:=bR) (l:=d.st.flatten) (i:=m*d.size) (j:=(m+1)*d.size) (lo:=some (.int .i64 ((m*d.size:Nat):Int))) (hi:=some (.int .i64 (((m+1)*d.size:Nat):Int))) bR.und (.inr ⟨_,rfl⟩) (.inr ⟨_,rfl⟩) m0 (by omega);rw[this,zLy,Nat.succ_mul,aB0,aQG D.ok.each hl];unfold Dk.at;rw[aJ1 _ _ _ (by rw[zLb] at hno;exact hno)]
    simp only[g2,cY.f2,cY.f0,bR.load,aR.load,L.st,L.size,mX,w2,w3,w4,c,cD,reduceIte,cJ,Nat.reduceAdd];exact hk
   ·have g2:((0:Int)≤(i:Int)-1)=True:=eq_true (by omega);have ei:(i:Int)-1=((i-1:Nat):Int):=by omega
    obtain⟨x,hx⟩:∃x,d.buf[i-1]? =some x:=⟨_,kV (by omega)⟩;obtain⟨b,o,i1,f0,f1⟩:=aT5 W.slR hx;rw[←ei] at i1;by_cases cx:x.1=m
    ·have q:((x.1:Int)==(m:Int))=true:=by simp[cx]
     have ea:d.at m=x.2:=aPJ hx cx hl (by rw[Nat.sub_add_cancel (by omega)];exact hno);simp only[g2,cY.f3,dH.load,L.buf,i1,dV.f0,dV.f1,aR.load,bR.load,f0,f1,fO,q,cD,reduceIte,cJ,Nat.reduceAdd];rw[ea] at hk;exact hk
    ·have q:((x.1:Int)==(m:Int))=false:=by rw[beq_eq_false_iff_ne];omega
     have w2:IntKind.i64.wrap ((i:Int)-1-1)=((i-1:Nat):Int)-1:=by rw[eI (by omega) (by omega)];omega
     simp only[g2,cY.f3,dH.load,L.buf,i1,dV.f0,aR.load,f0,fO,q,w2,cD,reduceIte,cJ,Nat.reduceAdd];refine⟨⟨i-1,by omega,rfl,by first|rfl|trivial,λy hy=>?_⟩,by simp[aVQ,x6];omega⟩;rw[aA3 (by omega)] at hy;rcases iM.1 hy with e|hy
     ·have:d.buf[i-1]=x:=by rw[kV (by omega)] at hx;simpa using hx
      rw[e,this];exact cx
     ·rw[Nat.sub_add_cancel (by omega)] at hy;exact hno y hy
def aR0(size n:Nat):kQ (size*n)=(List.replicate n (kQ size)).flatten:=by
 induction n with
 | zero=>rfl
 | succ n ih=>
  rw[List.replicate_succ,aDr,←ih];unfold kQ;rw[Nat.mul_succ,Nat.add_comm,List.replicate_append_replicate]
def aWD(a b:Int)(s:ByteArray):cC PG (build cY #[(0,.int .i64 a),(1,.int .i64 b),(2,.string s)])=some (.agg #[.int .i64 a,.int .i64 b,.string s,.slice none 0 0,.int .i64 0]):=by kernel_rfl
def aS0{h:PH}(size sectors:Nat)(ok:fS size)(h1:1≤sectors)(h2:sectors≤4096){k:cF}(hk:∀h' r F,rQ r (Dk.new size sectors) h' F->dX h F->cX h h'->k (pT r 0) h'):bW PG aBx #[.int .i64 (size:Int),.int .i64 (sectors:Int)] h k:=by
 apply aBD.call;unfold aBD;have h64:=ok.1;have h512:=ok.2;have m2:size*sectors≤512*4096:=Nat.mul_le_mul h512 h2;have w1:IntKind.i64.wrap ((size:Int)*(sectors:Int))=((size*sectors:Nat):Int):=by rw[←Int.natCast_mul,eI (by omega) (by omega)]
 obtain⟨zs,hm,hzz⟩:=aEc (P:=PG) (n:=size*sectors) cS.und dJ.info dJ.size dJ.bytes dJ.zero rfl (by decide) (by omega) (by omega);simp only[mX,w1,hm,cD,reduceIte,cJ,Nat.reduceAdd];intro r2 hr2;refine gV ?_
 try rw[cO]
 have u1:cX h (h.set r2 (.cells zs dJ (0,0))):=cV.new hr2;have O1:eD (h.set r2 (.cells zs dJ (0,0))) dJ 1 (.slice (some ⟨r2,0,none⟩) (size*sectors) (size*sectors)) ((kQ (size*sectors)).map jM) [r2]:=eD.lit (e:=dJ) (size:=1) (n:=size*sectors) (λr hr=>by obtain⟨m,_,rfl⟩:=pQ.1 hr;rfl) eB (by rw[iF,vT]) (by show size*sectors≤vS;exact zLE m2 (by decide)) (by
  rw[hzz];unfold kQ;rw[List.map_replicate];rfl)
 generalize h.set r2 (.cells zs dJ (0,0))=h3 at *;have hcv:=aEo cS.und dJ.und bR.und O1.slR;simp only[hcv,aWD,cD,reduceIte,cJ,Nat.reduceAdd];intro r8 hr8
 try rw[cO]
 have ef:kQ (size*sectors)=(Dk.new size sectors).st.flatten:=by
  exact aR0 size sectors
 rw[ef];have u4:cX h3 (h3.set r8 (.cells (Value.cells (.agg #[.int .i64 (size:Int),.int .i64 (sectors:Int),.string (tx (Dk.new size sectors).st.flatten),.slice none 0 0,.int .i64 0])) cY)):=cV.new hr8;have B4:Bx (h3.set r8 (.cells (Value.cells (.agg #[.int .i64 (size:Int),.int .i64 (sectors:Int),.string (tx (Dk.new size sectors).st.flatten),.slice none 0 0,.int .i64 0])) cY)) r8 [.int .i64 (size:Int),.int .i64 (sectors:Int),.string (tx (Dk.new size sectors).st.flatten),.slice none 0 0,.int .i64 0]:=Bx.new;refine hk _ r8 (r8::[]) ⟨⟨.slice none 0 0,[],rfl,B4,eD.nil,by simp⟩,Dk.new_ok ok h1 h2,by show 0<_;omega⟩ (dX.one (u1.none hr8)) (u1.trans u4)
def aDJ{h:PH}(size:Nat){k:cF}(hk:k (.bool (decide (fS size))) h):bW PG mR #[.int .i64 (size:Int)] h k:=by
 apply zX.call;unfold zX;by_cases h1:64≤size
 ·have g1:((64:Int)≤(size:Int))=True:=eq_true (by omega);have e:decide ((size:Int)≤512)=decide (fS size):=by
   rw[xE,decide_eq_true_iff,decide_eq_true_iff];unfold fS;omega
  simp only[g1,cD,reduceIte,cJ,Nat.reduceAdd];rw[e];exact hk
 ·have g1:((64:Int)≤(size:Int))=False:=eq_false (by omega);have e:decide (fS size)=false:=decide_eq_false (λx=>h1 x.1);rw[e] at hk;simp only[g1,cD,reduceIte,cJ,Nat.reduceAdd];exact hk
def cvN(n:Nat)(hn:n<9223372036854775808):cC PG (convert aR cI (.int .i64 (n:Int)))=some (.int .u64 (n:Int)):=by
 rw[show cC PG (convert aR cI (.int .i64 (n:Int)))=some (.int .u64 (IntKind.u64.wrap (n:Int))) from by kernel_rfl,jU (by omega) (by omega)]
def aOp{h:PH}(n:Nat)(hn:n≤1000000){k:cF}(hk:∀h',cX h h'->k (.string (tx (kQ n))) h'):
  bZ (jT PG (Instr.makeSlice cS (.int .i64 (n:Int)) (.int .i64 (n:Int)))) λx=>∀r,h r=none->bZ (cC PG (x.2 r)) λv=>dT (PH.set h r x.1) λh2=>bZ (cB PG h2 (convert cS bR v)) λw=>k w h2:=by
 obtain⟨zs,hm,hzz⟩:=aEc (P:=PG) (n:=n) cS.und dJ.info dJ.size dJ.bytes dJ.zero rfl (by decide) (by omega) (by omega);rw[hm,iE];intro r2 hr2;refine gV ?_
 try rw[cO]
 have u1:cX h (h.set r2 (.cells zs dJ (0,0))):=cV.new hr2;have O1:eD (h.set r2 (.cells zs dJ (0,0))) dJ 1 (.slice (some ⟨r2,0,none⟩) n n) ((kQ n).map jM) [r2]:=eD.lit (e:=dJ) (size:=1) (n:=n) (λr hr=>by obtain⟨m,_,rfl⟩:=pQ.1 hr;rfl) eB (by rw[iF,vT]) (zLE hn (by decide)) (by
  rw[hzz];unfold kQ;rw[List.map_replicate];rfl)
 have hcv:=aEo cS.und dJ.und bR.und O1.slR;rw[hcv,iE];exact hk _ u1
set_option maxHeartbeats 1000000 in
def aL5{h:PH}(size gen ser part parts:Nat)(s:Tx)(ok:fS size)(g1:gen<18446744073709551616)(g2:ser<18446744073709551616)(g3:part<1000000)(g4:parts<1000000)(hs:s.length+25≤size){k:cF}(hk:∀h',cX h h'->k (.string (tx (nQ size gen ser part parts s))) h'):bW PG tQ #[.int .i64 (size:Int),.int .u64 (gen:Int),.int .u64 (ser:Int),.int .i64 (part:Int),.int .i64 (parts:Int),.string (tx s)] h k:=by
 apply xV.call;unfold xV;have h512:=ok.2;have e82:(⟨#[82]⟩:ByteArray)=tx [82]:=rfl;rw[e82];refine lY (n:=gen) (c:=8) g1 (by decide) λh1 u1=>?_;have a1:cC PG (binOp .add bR (.string (tx [82])) (.string (tx (be gen 8))))=some (.string (tx ([82]++be gen 8))):=jQ (by simp[gS]);simp only[a1,iE,zPP];refine lY (n:=ser) (c:=8) g2 (by decide) λh2 u2=>?_;have a2:cC PG (binOp .add bR (.string (tx ([82]++be gen 8))) (.string (tx (be ser 8))))=some (.string (tx ([82]++be gen 8++be ser 8))):=jQ (by simp[gS]);simp only[a2,cvN part (by omega),iE,zPP];refine lY (n:=part) (c:=1) (by omega) (by decide) λh3 u3=>?_;have a3:cC PG (binOp .add bR (.string (tx ([82]++be gen 8++be ser 8))) (.string (tx (be part 1))))=some (.string (tx ([82]++be gen 8++be ser 8++be part 1))):=jQ (by simp[gS]);simp only[a3,cvN parts (by omega),iE,zPP];refine lY (n:=parts) (c:=1) (by omega) (by decide) λh4 u4=>?_;have a4:cC PG (binOp .add bR (.string (tx ([82]++be gen 8++be ser 8++be part 1))) (.string (tx (be parts 1))))=some (.string (tx ([82]++be gen 8++be ser 8++be part 1++be parts 1))):=jQ (by simp[gS]);simp only[a4,iL,cvN s.length (by omega),iE,zPP];refine lY (n:=s.length) (c:=2) (by omega) (by decide) λh5 u5=>?_;have a5:cC PG (binOp .add bR (.string (tx ([82]++be gen 8++be ser 8++be part 1++be parts 1))) (.string (tx (be s.length 2))))=some (.string (tx ([82]++be gen 8++be ser 8++be part 1++be parts 1++be s.length 2))):=jQ (by simp[gS]);have a6:cC PG (binOp .add bR (.string (tx ([82]++be gen 8++be ser 8++be part 1++be parts 1++be s.length 2))) (.string (tx s)))=some (.string (tx ([82]++be gen 8++be ser 8++be part 1++be parts 1++be s.length 2++s))):=jQ (by simp[gS];omega);have hl:([82]++be gen 8++be ser 8++be part 1++be parts 1++be s.length 2++s).length=21+s.length:=by simp[gS];omega
 have w1:IntKind.i64.wrap ((size:Int)-4)=(size:Int)-4:=eI (by omega) (by omega);have w2:IntKind.i64.wrap ((size:Int)-4-((21+s.length:Nat):Int))=((size-25-s.length:Nat):Int):=by rw[eI (by omega) (by omega)];omega
 simp only[a5,a6,aJ3,w1,iL,hl,w2,iE,zPP];refine aOp (size-25-s.length) (by omega) λh6 u6=>?_;have eb: [82]++be gen 8++be ser 8++be part 1++be parts 1++be s.length 2++s++kQ (size-25-s.length)=mU size gen ser part parts s:=by
  unfold mU;simp only[uV]
 have a7:cC PG (binOp .add bR (.string (tx ([82]++be gen 8++be ser 8++be part 1++be parts 1++be s.length 2++s))) (.string (tx (kQ (size-25-s.length)))))=some (.string (tx (mU size gen ser part parts s))):=by
  rw[←eb];exact jQ (by rw[hl,vT];omega)
 simp only[a7,iE,zPP];refine aLK _ (by rw[aF5 hs];omega) λh7 u7=>?_;exact hk h7 ((((((u1.trans u2).trans u3).trans u4).trans u5).trans u6).trans u7)
def aQj{size n:Nat}(ok:fS size)(h:n≤4096):dQ size n=if size-25<n then 1+dQ size (n-(size-25)) else 1:=by
 have h64:=ok.1;obtain⟨room,hr⟩:∃room,size-25=room:=⟨_,rfl⟩;have e:∀m,m≤4096->dQ size m=max 1 ((m+room-1)/room):=λm hm=>by unfold dQ;rw[if_pos ⟨ok,hm⟩,hr]
 rw[e n h,hr];have hroom:0<room:=by omega
 by_cases c:room<n
 ·rw[if_pos c,e _ (by omega)];have h1:(n+room-1)/room=(n-room+room-1)/room+1:=by
   rw[show n+room-1=(n-room+room-1)+room by omega,Nat.add_div_right _ hroom]
  have h2:1≤(n-room+room-1)/room:=by
   rw[Nat.le_div_iff_mul_le hroom];omega
  rw[h1];omega
 ·rw[if_neg c];have:(n+room-1)/room≤1:=by
   have:(n+room-1)/room<2:=by rw[Nat.div_lt_iff_lt_mul hroom];omega
   omega
  omega
def aVS(vs:List Value)(_:PH):Nat:=match vs[1]? with|some (Value.int _ y)=>y.toNat|_=>0
def aNd{h:PH}(size n:Nat)(hn:n<1000000000){k:cF}(hk:k (.int .i64 (dQ size n:Int)) h):bW PG vB #[.int .i64 (size:Int),.int .i64 (n:Int)] h k:=by
 apply zA.call;unfold zA;refine aDJ size ?_;by_cases ok:fS size
 ·have h64:=ok.1;have h512:=ok.2;have g1:((n:Int)<0)=False:=eq_false (by omega);by_cases c:4096<n
  ·have g2:((4096:Int)<(n:Int))=True:=eq_true (by omega);have e:dQ size n=0:=(aBT ok).2 c;rw[e] at hk;simp only[ok,decide_true,g1,g2,cD,reduceIte,cJ,Nat.reduceAdd];exact hk
  ·have g2:((4096:Int)<(n:Int))=False:=eq_false (by omega);simp only[ok,decide_true,g1,g2,cD,reduceIte,cJ,Nat.reduceAdd];refine⟨λvs h'=>∃m i:Nat,m≤n∧i+n≤5000+n∧vs=[.int .i64 (size:Int),.int .i64 (m:Int),.int .i64 (i:Int)]∧h'=h∧dQ size n+1=dQ size m+i∧1≤i∧i+m≤n+1,aVS,⟨n,1,mS _,by omega,rfl,rfl,by omega,by omega,by omega⟩,?_⟩;rintro ρ h' ⟨m,i,hm,hi0,hvs,rfl,hp,hi,him⟩;simp only[hM,jA,kP,and_true] at hvs;obtain⟨x0,x1,x5⟩:=hvs;unfold aDD;rw[x0,x1,x5];have w1:IntKind.i64.wrap ((size:Int)-25)=((size-25:Nat):Int):=by rw[eI (by omega) (by omega)];omega
   have hst:=aQj (n:=m) ok (by omega);by_cases cm:size-25<m
   ·have g3:(((size-25:Nat):Int)<(m:Int))=True:=eq_true (by omega);have w2:=nR (i:=i) (by omega);have w3:IntKind.i64.wrap ((m:Int)-((size-25:Nat):Int))=((m-(size-25):Nat):Int):=by rw[eI (by omega) (by omega)];omega
    rw[if_pos cm] at hst;simp only[w1,g3,w2,w3,cD,reduceIte,cJ,Nat.reduceAdd];exact⟨⟨m-(size-25),i+1,by omega,by omega,rfl,by first|rfl|trivial,by omega,by omega,by omega⟩,by simp[aVS,x1];omega⟩
   ·have g3:(((size-25:Nat):Int)<(m:Int))=False:=eq_false (by omega);rw[if_neg cm] at hst;have:i=dQ size n:=by omega
    simp only[w1,g3,cD,reduceIte,cJ,Nat.reduceAdd];rw[this];exact hk
 ·have e:dQ size n=0:=by unfold dQ;rw[if_neg (λx=>ok x.1)]
  rw[e] at hk;simp only[ok,decide_false,cD,reduceIte,cJ,Nat.reduceAdd];exact hk
def aSD{h:PH}(size gen ser:Nat)(s:Tx)(ok:fS size)(g1:gen<18446744073709551616)(g2:ser<18446744073709551616)(hl:s.length≤1000000){k:cF}
  (hk:∀h' v F,eD h' bR 1 v ((fZ size gen ser s).map kA) F->dX h F->cX h h'->k (.tuple #[v,.int .i64 (if dQ size s.length=0 then 1 else 0)]) h'):bW PG aAo #[.int .i64 (size:Int),.int .u64 (gen:Int),.int .u64 (ser:Int),.string (tx s)] h k:=by
 apply yM.call;unfold yM;have h64:=ok.1;have h512:=ok.2;simp only[iL,cD,reduceIte,cJ,Nat.reduceAdd];refine aNd size s.length (by omega) ?_;by_cases c0:dQ size s.length=0
 ·have q0:(((dQ size s.length:Nat):Int)==0)=true:=by rw[c0];rfl
  simp only[fO,q0,cD,reduceIte,cJ,Nat.reduceAdd];have:=hk h (.slice none 0 0) [] (by
   have:fZ size gen ser s=[]:=by unfold fZ;rw[c0];rfl
   rw[this];exact eD.nil) (λb hb=>by cases hb) cV.refl
  rw[if_pos c0] at this;exact this
 ·have q0:(((dQ size s.length:Nat):Int)==0)=false:=by rw[beq_eq_false_iff_ne];omega
  have hs:s.length≤4096:=by
   have:=(aBT (n:=s.length) ok).2;omega
  rw[if_neg c0] at hk;simp only[fO,q0,cD,reduceIte,cJ,Nat.reduceAdd];refine⟨λvs h'=>∃(i:Nat) (v:Value) (G:List Nat),i≤dQ size s.length∧vs=[.int .i64 (size:Int),.int .u64 (gen:Int),.int .u64 (ser:Int),.string (tx s),.int .i64 (dQ size s.length:Int),v,.int .i64 (i:Int)]∧eD h' bR 1 v (((fZ size gen ser s).take i).map kA) G∧dX h G∧cX h h',fN (dQ size s.length) 6,⟨0,.slice none 0 0,[],by omega,rfl,eD.nil,(λb hb=>by cases hb),cV.refl⟩,?_⟩;rintro ρ h' ⟨i,v,G,hi,hvs,O,fG,w⟩;simp only[hM,jA,kP,and_true] at hvs;obtain⟨x0,x1,x2,x3,x10,x11,x12⟩:=hvs;unfold aDx;rw[x0,x1,x2,x3,x10,x11,x12];have hpm:dQ size s.length≤5000:=by
   unfold dQ;split
   ·have:(s.length+(size-25)-1)/(size-25)≤s.length+(size-25)-1:=Nat.div_le_self _ _;omega
   ·omega
  by_cases hlt:i<dQ size s.length
  ·have g:((i:Int)<(dQ size s.length:Int))=True:=eq_true (by omega);have him:i*(size-25)≤5000*512:=Nat.mul_le_mul (by omega) (by omega);have him1:(i+1)*(size-25)≤5001*512:=Nat.mul_le_mul (by omega) (by omega);have hsm:(i+1)*(size-25)=i*(size-25)+(size-25):=Nat.succ_mul _ _;have w1:IntKind.i64.wrap ((size:Int)-25)=((size-25:Nat):Int):=by rw[eI (by omega) (by omega)];omega
   have w2:IntKind.i64.wrap ((i:Int)*((size-25:Nat):Int))=((i*(size-25):Nat):Int):=by rw[←Int.natCast_mul,eI (by omega) (by omega)]
   have w3:=nR (i:=i) (by omega);have w4:IntKind.i64.wrap (((i+1:Nat):Int)*((size-25:Nat):Int))=(((i+1)*(size-25):Nat):Int):=by rw[←Int.natCast_mul,eI (by omega) (by omega)]
   have hfront:i*(size-25)≤s.length:=by
    by_cases c:i=0
    ·subst c;omega
    ·have:=aCt (k:=i-1) ok hs (by omega);rw[Nat.sub_add_cancel (by omega)] at this;omega
   have hfr:(fZ size gen ser s)[i]? =some (nQ size gen ser i (dQ size s.length) (iX (size-25) s i)):=by
    unfold fZ;rw[wV,List.getElem?_range hlt];rfl
   have hpl:=(aFn ok hs hlt).1;have tail:∀m:Nat,i*(size-25)≤m->m≤s.length->(s.take m).drop (i*(size-25))=iX (size-25) s i->tO k (λvs h'=>(∃(i:Nat) (v:Value) (G:List Nat),i≤dQ size s.length∧vs=[.int .i64 (size:Int),.int .u64 (gen:Int),.int .u64 (ser:Int),.string (tx s),.int .i64 (dQ size s.length:Int),v,.int .i64 (i:Int)]∧eD h' bR 1 v (((fZ size gen ser s).take i).map kA) G∧dX h G∧cX h h')∧fN (dQ size s.length) 6 vs h'<fN (dQ size s.length) 6 ([0,1,2,3,10,11,12].map ρ) h') (.int .i64 (size:Int)) (.int .u64 (gen:Int)) (.int .u64 (ser:Int)) (.string (tx s)) (.int .i64 (dQ size s.length:Int)) v (.int .i64 (i:Int)) (.int .i64 ((i*(size-25):Nat):Int)) (.int .i64 (m:Int)) h':=by
    intro m hm1 hm2 hm3;unfold tO;have c1:cC PG (Instr.sliceAt bR (.string (tx s)) (some (.int .i64 ((i*(size-25):Nat):Int))) (some (.int .i64 (m:Int))) none)=some (.string (tx (iX (size-25) s i))):=by
     have:=kI (P:=PG) (t:=bR) (l:=s) (i:=i*(size-25)) (j:=m) (lo:=some (.int .i64 ((i*(size-25):Nat):Int))) (hi:=some (.int .i64 (m:Int))) bR.und (.inr ⟨_,rfl⟩) (.inr ⟨_,rfl⟩) hm1 hm2;rw[this,hm3]
    simp only[c1,cD,reduceIte,cJ,Nat.reduceAdd];refine aL5 size gen ser i (dQ size s.length) _ ok g1 g2 (by omega) (by omega) hpl λh2 u2=>?_;simp only[aFj,cD,reduceIte,cJ,Nat.reduceAdd];intro r20 hr20;refine gV ?_
    try rw[cO]
    have O3:=aF3 (h:=h2) (r:=r20) (nQ size gen ser i (dQ size s.length) (iX (size-25) s i));have u3:cX h2 (h2.set r20 (.cells #[.string (tx (nQ size gen ser i (dQ size s.length) (iX (size-25) s i)))] bR)):=cV.new hr20;generalize h2.set r20 (.cells #[.string (tx (nQ size gen ser i (dQ size s.length) (iX (size-25) s i)))] bR)=h3 at *;have fl:=kK size gen ser s;refine lG dE.und dE.und bR.info bR.size bR.bytes bR.zero rfl (by decide) ((O.ext u2).ext u3) O3.slR (by simp[kA,fH]) (by rw[iF,mH];simp only[iN,kW,iF];omega) ?_;intro v4 h4 G4 O4 u4 g4 _;simp only[w3,cD,reduceIte,cJ,Nat.reduceAdd];have e3:=(w.trans u2).trans u3;refine⟨⟨i+1,v4,G4,by omega,rfl,?_,λb hb=>?_,e3.fresh u4 fG⟩,by simp[fN,x12];omega⟩
    ·rw[zLR,hfr,wA];exact O4
    ·rcases g4 b hb with e|e
     ·exact fG b e
     ·exact e3.none e
   by_cases cc:s.length<(i+1)*(size-25)
   ·have g2:((s.length:Int)<(((i+1)*(size-25):Nat):Int))=True:=eq_true (by omega);simp only[g,w1,mX,w2,w3,w4,iL,g2,cD,reduceIte,cJ,Nat.reduceAdd];refine tail s.length hfront (mS _) ?_;unfold iX;rw[zLJ,rN (by rw[jE];omega)]
   ·have g2:((s.length:Int)<(((i+1)*(size-25):Nat):Int))=False:=eq_false (by omega);simp only[g,w1,mX,w2,w3,w4,iL,g2,cD,reduceIte,cJ,Nat.reduceAdd];refine tail _ (by omega) (by omega) ?_;unfold iX;rw[zLy,hsm,aB0]
  ·have g:((i:Int)<(dQ size s.length:Int))=False:=eq_false (by omega);have et:(fZ size gen ser s).take i=fZ size gen ser s:=rN (by rw[kK];omega);rw[et] at O;simp only[g,cD,reduceIte,cJ,Nat.reduceAdd];exact hk h' v G O fG w
def aCm:cC PG (build cH #[])=some jV.zero.v:=by kernel_rfl
def aWC(a b c d:Int):cC PG (build cH #[(0,.int .u64 a),(1,.int .u64 b),(2,.int .i64 c),(3,.int .i64 d)])=some (.agg #[.int .u64 a,.int .u64 b,.int .i64 c,.int .i64 d,.string (tx [])]):=by kernel_rfl
def aMD{h:PH}{r:Nat}{x:jV}(B:Bx h r x.cells):cB PG h (loadAt cH (pT r 0))=some x.v:=cH.agg B (by show 0+5≤5;decide)
def aIl{s:Tx}{n:Nat}{b:UInt8}(h:s[n]? =some b):kY ((s.drop n).take 1)=b.toNat:=by
 have:(s.drop n).take 1=[b]:=by
  obtain⟨hl,e⟩:=zLA.1 h;rw[aA3 hl,e];rfl
 rw[this];simp[kY]
def aR3{s:Tx}{n:Nat}{a b:UInt8}(h:s[n]? =some a)(h2:s[n+1]? =some b):kY ((s.drop n).take 2)=a.toNat*256+b.toNat:=by
 have:(s.drop n).take 2=[a,b]:=by
  obtain⟨hl,e⟩:=zLA.1 h;obtain⟨hl2,e2⟩:=zLA.1 h2;rw[aA3 hl,e,aA3 hl2,e2];rfl
 rw[this];simp[kY]
def aGV(b:UInt8):cC PG (convert dJ aR (.int .u8 (b.toNat:Int)))=some (.int .i64 (b.toNat:Int)):=by
 rw[show cC PG (convert dJ aR (.int .u8 (b.toNat:Int)))=some (.int .i64 (IntKind.i64.wrap (b.toNat:Int))) from by kernel_rfl];have:=b.toNat_lt;rw[eI (by omega) (by omega)]
def jV.noB(f:jV):jV:=⟨f.gen,f.ser,f.part,f.parts,[]⟩
def aPr(s:Tx)(i:Nat):kY ((s.drop i).take 8)<18446744073709551616:=by
 have:=aIU ((s.drop i).take 8);have h2:((s.drop i).take 8).length≤8:=by rw[mH];omega
 have h3:256^((s.drop i).take 8).length≤256^8:=aMF (by decide) h2;omega
def aNe{h0 h:PH}{r1 r34:Nat}{size least:Nat}{s:Tx}(ok:fS size)(hl:s.length=size)(hs:nP s=true)(h1:¬(size-25<jS s∨gT s≤iZ s))(h2:¬aFV size (pF s))(hle:least=aER size (pF s))(Z1:Bx h r1 jV.zero.cells)(B:Bx h r34 (pF s).cells)(hp:gT s<256)(htl:(lX s).length=jS s)(w:cX h0 h)(f1:h0 r1=none){k:cF}
  (hk:∀h',cX h0 h'->k (.tuple #[(wB size s).1.v,.int .i64 (wB size s).2]) h'):nT k (.int .i64 (size:Int)) (.string (tx s)) (pT r1 0) (pT r34 0) (.int .i64 (least:Int)) h:=by
 unfold nT;have h512:=ok.2;have er:wB size s=if 4096<aER size (pF s)∨nQ size (aA6 s) (aAx s) (iZ s) (gT s) (lX s)≠s then(jV.zero,5) else(pF s,0):=by
  unfold wB;rw[if_neg (by simpa using ok),if_neg (by simpa using hl),if_neg (by rw[hs];decide),if_neg h1,if_neg h2]
 rw[er,←hle] at hk;have fin:∀{h':PH} (f:jV) (e:Int),(∀h',cX h0 h'->k (.tuple #[f.v,.int .i64 e]) h')->Bx h' r1 jV.zero.cells->cX h0 h'->cM PG (cP cH (pT r1 0) f.v) h' λ_ h8=>bZ (cB PG h8 (loadAt cH (pT r1 0))) λv9=>k (.tuple #[v9,.int .i64 e]) h8:=by
  intro h' f e hk B w;refine cH.put B (vs:=f.cells) (o:=0) rfl (by show 0+5≤5;decide) f.isC λh2 B2 u2=>?_;have B2:Bx h2 r1 f.cells:=B2;simp only[aMD B2,iE,zPP];exact hk h2 (w.fresh u2 (dX.one f1))
 by_cases c1:4096<least
 ·have g1:((4096:Int)<(least:Int))=True:=eq_true (by omega);rw[if_pos (.inl c1)] at hk;simp only[g1,aCm,cD,reduceIte,cJ,Nat.reduceAdd];exact fin jV.zero 5 hk Z1 w
 ·have g1:((4096:Int)<(least:Int))=False:=eq_false (by omega);have b0:cU h ⟨r34,0,none⟩=some (.int .u64 (aA6 s:Int)):=B.cell 0;have b1:cU h ⟨r34,0+1,none⟩=some (.int .u64 (aAx s:Int)):=B.cell 1;have b2:cU h ⟨r34,0+2,none⟩=some (.int .i64 (iZ s:Int)):=B.cell 2;have b3:cU h ⟨r34,0+3,none⟩=some (.int .i64 (gT s:Int)):=B.cell 3;have b4:cU h ⟨r34,0+4,none⟩=some (.string (tx (lX s))):=B.cell 4;simp only[g1,cH.f0,cH.f1,cH.f2,cH.f3,cH.f4,cI.load,aR.load,bR.load,b0,b1,b2,b3,b4,cD,reduceIte,cJ,Nat.reduceAdd];have h64:=ok.1;refine aL5 size (aA6 s) (aAx s) (iZ s) (gT s) (lX s) ok (aPr s 1) (aPr s 9) (by omega) (by omega) (by omega) λh2 u2=>?_;by_cases c2:nQ size (aA6 s) (aAx s) (iZ s) (gT s) (lX s)=s
  ·have q:decide (nQ size (aA6 s) (aAx s) (iZ s) (gT s) (lX s)=s)=true:=decide_eq_true c2;rw[if_neg (by rintro(a|a);exact c1 a;exact a c2)] at hk;simp only[aKO,q,aMD (B.ext u2),cD,reduceIte,cJ,Nat.reduceAdd];exact fin (pF s) 0 hk (Z1.ext u2) (w.trans u2)
  ·have q:decide (nQ size (aA6 s) (aAx s) (iZ s) (gT s) (lX s)=s)=false:=decide_eq_false c2;rw[if_pos (.inr c2)] at hk;simp only[aKO,q,aCm,cD,reduceIte,cJ,Nat.reduceAdd];exact fin jV.zero 5 hk (Z1.ext u2) (w.trans u2)
def aSB{h:PH}(size:Nat)(s:Tx)(hs:s.length≤1000000){k:cF}(hk:∀h',cX h h'->k (.tuple #[(wB size s).1.v,.int .i64 (wB size s).2]) h'):bW PG aBQ #[.int .i64 (size:Int),.string (tx s)] h k:=by
 apply sF.call;unfold sF;intro r1 hr1
 try rw[cO]
 have Z1:Bx (h.set r1 (.cells (dD PG cH) cH)) r1 jV.zero.cells:=cH.zbox;have u1:cX h (h.set r1 (.cells (dD PG cH) cH)):=cV.new hr1;generalize h.set r1 (.cells (dD PG cH) cH)=h1 at *;have fin:∀{h':PH} (e:Int),wB size s=(jV.zero,e)->Bx h' r1 jV.zero.cells->cX h h'->cM PG (cP cH (pT r1 0) jV.zero.v) h' λ_ h8=>bZ (cB PG h8 (loadAt cH (pT r1 0))) λv9=>k (.tuple #[v9,.int .i64 e]) h8:=by
  intro h' e he B w;refine cH.put B (vs:=jV.zero.cells) (o:=0) rfl (by show 0+5≤5;decide) jV.zero.isC λh2 B2 u2=>?_;have B2:Bx h2 r1 jV.zero.cells:=B2;simp only[aMD B2,iE,zPP];have:=hk h2 (w.fresh u2 (dX.one hr1));rw[he] at this;exact this
 refine aDJ size ?_;by_cases ok:fS size
 ·have h64:=ok.1;have h512:=ok.2;by_cases hl:s.length=size
  ·have q:((s.length:Int) !=(size:Int))=false:=by simp[hl]
   simp only[ok,decide_true,iL,dY,q,cD,reduceIte,cJ,Nat.reduceAdd];refine aM7 s hs λh4 u4=>?_;have e4:=u1.trans u4;cases hsl:nP s with
   | false=>
    have er:wB size s=(jV.zero,8):=by unfold wB;rw[if_neg (by simpa using ok),if_neg (by simpa using hl),if_pos hsl]
    simp only[aCm,cD,reduceIte,cJ,Nat.reduceAdd];exact fin 8 er (Z1.ext u4) e4
   | true=>
    have c1:cC PG (Instr.sliceAt bR (.string (tx s)) (some (.int .i64 1)) (some (.int .i64 9)) none)=some (.string (tx ((s.drop 1).take 8))):=by
     have:=kI (P:=PG) (t:=bR) (l:=s) (i:=1) (j:=9) (lo:=some (.int .i64 1)) (hi:=some (.int .i64 9)) bR.und (.inr ⟨_,rfl⟩) (.inr ⟨_,rfl⟩) (by omega) (by omega);rw[this,zLy]
    have c2:cC PG (Instr.sliceAt bR (.string (tx s)) (some (.int .i64 9)) (some (.int .i64 17)) none)=some (.string (tx ((s.drop 9).take 8))):=by
     have:=kI (P:=PG) (t:=bR) (l:=s) (i:=9) (j:=17) (lo:=some (.int .i64 9)) (hi:=some (.int .i64 17)) bR.und (.inr ⟨_,rfl⟩) (.inr ⟨_,rfl⟩) (by omega) (by omega);rw[this,zLy]
    obtain⟨b17,hb17⟩:∃b,s[17]? =some b:=⟨_,kV (by omega)⟩;obtain⟨b18,hb18⟩:∃b,s[18]? =some b:=⟨_,kV (by omega)⟩;obtain⟨b19,hb19⟩:∃b,s[19]? =some b:=⟨_,kV (by omega)⟩;obtain⟨b20,hb20⟩:∃b,s[20]? =some b:=⟨_,kV (by omega)⟩;have i17:cC PG (Instr.index bR (.string (tx s)) (.int .i64 17))=some (.int .u8 b17.toNat):=nL (j:=17) bR.und hb17;have i18:cC PG (Instr.index bR (.string (tx s)) (.int .i64 18))=some (.int .u8 b18.toNat):=nL (j:=18) bR.und hb18;have i19:cC PG (Instr.index bR (.string (tx s)) (.int .i64 19))=some (.int .u8 b19.toNat):=nL (j:=19) bR.und hb19;have i20:cC PG (Instr.index bR (.string (tx s)) (.int .i64 20))=some (.int .u8 b20.toNat):=nL (j:=20) bR.und hb20;have d17:iZ s=b17.toNat:=aIl hb17;have d18:gT s=b18.toNat:=aIl hb18;have d19:jS s=b19.toNat*256+b20.toNat:=aR3 hb19 hb20;have l17:=b17.toNat_lt;have l18:=b18.toNat_lt;have l19:=b19.toNat_lt;have l20:=b20.toNat_lt;have w1:IntKind.i64.wrap ((b19.toNat:Int)*256)=((b19.toNat*256:Nat):Int):=by rw[eI (by omega) (by omega)];omega
    have w2:IntKind.i64.wrap (((b19.toNat*256:Nat):Int)+(b20.toNat:Int))=(jS s:Int):=by rw[eI (by omega) (by omega)];omega
    have w3:IntKind.i64.wrap ((size:Int)-25)=((size-25:Nat):Int):=by rw[eI (by omega) (by omega)];omega
    simp only[c1,c2,i17,i18,aGV,cD,reduceIte,cJ,Nat.reduceAdd];refine aBG (by rw[mH];omega) ?_;refine aBG (by rw[mH];omega) ?_;rw[←d17,←d18];show bZ (cC PG (build cH #[(0,.int .u64 (aA6 s:Int)),(1,.int .u64 (aAx s:Int)),(2,.int .i64 (iZ s:Int)),(3,.int .i64 (gT s:Int))])) _;simp only[aWC,iE,zPP];intro r34 hr34
    try rw[cO]
    refine cH.fill (vs:=(pF s).noB.cells) hr34 rfl (pF s).noB.isC λh5 B5 u5=>?_;have e5:=e4.trans u5;have Z5:=(Z1.ext u4).ext u5;have n1:r34≠r1:=λe=>(Z1.ext u4).known (e▸hr34);have b2:cU h5 ⟨r34,0+2,none⟩=some (.int .i64 (iZ s:Int)):=B5.cell 2;have b3:cU h5 ⟨r34,0+3,none⟩=some (.int .i64 (gT s:Int)):=B5.cell 3;have er1:wB size s=if size-25<jS s∨gT s≤iZ s then(jV.zero,5)
      else if aFV size (pF s) then(jV.zero,5)
      else if 4096<aER size (pF s)∨nQ size (aA6 s) (aAx s) (iZ s) (gT s) (lX s)≠s then(jV.zero,5)
      else(pF s,0):=by
     unfold wB;rw[if_neg (by simpa using ok),if_neg (by simpa using hl),if_neg (by rw[hsl];decide)]
    by_cases k1:size-25<jS s
    ·have g1:(((size-25:Nat):Int)<(jS s:Int))=True:=eq_true (by omega);rw[if_pos (.inl k1)] at er1;simp only[i19,i20,aGV,mX,w1,w2,w3,g1,aCm,cD,reduceIte,cJ,Nat.reduceAdd];exact fin 5 er1 Z5 e5
    ·have g1:(((size-25:Nat):Int)<(jS s:Int))=False:=eq_false (by omega);by_cases k2:gT s≤iZ s
     ·have g2:((gT s:Int)≤(iZ s:Int))=True:=eq_true (by omega);rw[if_pos (.inr k2)] at er1;simp only[i19,i20,aGV,mX,w1,w2,w3,g1,cH.f2,cH.f3,aR.load,b2,b3,g2,aCm,cD,reduceIte,cJ,Nat.reduceAdd];exact fin 5 er1 Z5 e5
     ·have g2:((gT s:Int)≤(iZ s:Int))=False:=eq_false (by omega);rw[if_neg (by omega)] at er1;have w4:IntKind.i64.wrap ((21:Int)+(jS s:Int))=((21+jS s:Nat):Int):=by rw[eI (by omega) (by omega)];omega
      have c3:cC PG (Instr.sliceAt bR (.string (tx s)) (some (.int .i64 21)) (some (.int .i64 ((21+jS s:Nat):Int))) none)=some (.string (tx (lX s))):=by
       have:=kI (P:=PG) (t:=bR) (l:=s) (i:=21) (j:=21+jS s) (lo:=some (.int .i64 21)) (hi:=some (.int .i64 ((21+jS s:Nat):Int))) bR.und (.inr ⟨_,rfl⟩) (.inr ⟨_,rfl⟩) (by omega) (by omega);rw[this,zLy,aB0];rfl
      have htl:(lX s).length=jS s:=by unfold lX;rw[mH,jE];omega
      simp only[i19,i20,aGV,mX,w1,w2,w3,g1,cH.f2,cH.f3,cH.f4,aR.load,b2,b3,g2,w4,c3,cD,reduceIte,cJ,Nat.reduceAdd];refine bR.put B5 (o:=4) (by show 4<5;decide) rfl λh6 B6 u6=>?_;have B6:Bx h6 r34 (pF s).cells:=B6;have Z6:=Z5.upd u6 (by simpa using λe=>n1 e.symm);have e6:cX h h6:=e5.fresh u6 (dX.one (e4.none hr34));have c2':cU h6 ⟨r34,0+2,none⟩=some (.int .i64 (iZ s:Int)):=B6.cell 2;have c3':cU h6 ⟨r34,0+3,none⟩=some (.int .i64 (gT s:Int)):=B6.cell 3;have w5:IntKind.i64.wrap ((gT s:Int)-1)=((gT s-1:Nat):Int):=by rw[eI (by omega) (by omega)];omega
      have wm:∀z:Nat,z≤1000->IntKind.i64.wrap (((gT s-1:Nat):Int)*((size-25:Nat):Int))=(((gT s-1)*(size-25):Nat):Int)∧IntKind.i64.wrap ((((gT s-1)*(size-25):Nat):Int)+(z:Int))=(((gT s-1)*(size-25)+z:Nat):Int):=λz hz=>by
       have:(gT s-1)*(size-25)≤256*512:=Nat.mul_le_mul (by omega) (by omega);refine⟨by rw[←Int.natCast_mul,eI (by omega) (by omega)],by rw[eI (by omega) (by omega)];omega⟩
      -- the bad lengths
      have nb:¬(size-25<jS s∨gT s≤iZ s):=by omega
      have last:¬aFV size (pF s)->(bZ (cB PG h6 (fJ BinOp.eql aR (.tmp 90) (.tmp 93) (.int .i64 (iZ s:Int)) (.int .i64 ((gT s-1:Nat):Int)))) λv139=>cN v139 (nT k (.int .i64 (size:Int)) (.string (tx s)) (pT r1 0) (pT r34 0) (.int .i64 (((gT s-1)*(size-25)+jS s:Nat):Int)) h6) (nT k (.int .i64 (size:Int)) (.string (tx s)) (pT r1 0) (pT r34 0) (.int .i64 (((gT s-1)*(size-25)+1:Nat):Int)) h6)):=by
       intro hbad;by_cases cl:iZ s+1=gT s
       ·have ql:((iZ s:Int)==((gT s-1:Nat):Int))=true:=by rw[beq_iff_eq];omega
        simp only[fO,ql,cD,reduceIte,cJ,Nat.reduceAdd];refine aNe ok hl hsl nb hbad ?_ Z6 B6 (by omega) htl e6 hr1 hk;unfold aER;rw[if_pos (show(pF s).part+1=(pF s).parts from cl)];show _=(gT s-1)*(size-25)+(lX s).length;rw[htl]
       ·have ql:((iZ s:Int)==((gT s-1:Nat):Int))=false:=by rw[beq_eq_false_iff_ne];omega
        simp only[fO,ql,cD,reduceIte,cJ,Nat.reduceAdd];refine aNe ok hl hsl nb hbad ?_ Z6 B6 (by omega) htl e6 hr1 hk;unfold aER;rw[if_neg (show ¬(pF s).part+1=(pF s).parts from cl)];rfl
      have dB:aFV size (pF s)↔(iZ s+1<gT s∧jS s≠size-25)∨(0<iZ s∧jS s=0):=by
       rw[←htl];exact Iff.rfl
      have er2:aFV size (pF s)->wB size s=(jV.zero,5):=λhb=>by rw[er1,if_pos hb]
      have wz:=wm (jS s) (by omega);have wo:=wm 1 (by omega);have wo2:IntKind.i64.wrap ((((gT s-1)*(size-25):Nat):Int)+1)=(((gT s-1)*(size-25)+1:Nat):Int):=wo.2;by_cases k3:iZ s<gT s-1
      ·have g3:((iZ s:Int)<((gT s-1:Nat):Int))=True:=eq_true (by omega);by_cases k4:jS s=size-25
       ·have q4:((jS s:Int) !=((size-25:Nat):Int))=false:=by simp[k4]
        by_cases k5:0<iZ s
        ·have g5:((0:Int)<(iZ s:Int))=True:=eq_true (by omega);have q6:((jS s:Int)==0)=false:=by rw[beq_eq_false_iff_ne];omega
         simp only[cH.f2,cH.f3,aR.load,c2',c3',w5,g3,w3,dY,q4,g5,fO,q6,mX,wz.1,wo2,wz.2,cD,reduceIte,cJ,Nat.reduceAdd];have:=last (by rw[dB];omega);simp only[fO,cD,reduceIte,cJ,Nat.reduceAdd] at this;exact this
        ·have g5:((0:Int)<(iZ s:Int))=False:=eq_false (by omega);simp only[cH.f2,cH.f3,aR.load,c2',c3',w5,g3,w3,dY,q4,g5,fO,mX,wz.1,wo2,wz.2,cD,reduceIte,cJ,Nat.reduceAdd];have:=last (by rw[dB];omega);simp only[fO,cD,reduceIte,cJ,Nat.reduceAdd] at this;exact this
       ·have q4:((jS s:Int) !=((size-25:Nat):Int))=true:=by rw[bne_iff_ne];omega
        simp only[cH.f2,cH.f3,aR.load,c2',c3',w5,g3,w3,dY,q4,aCm,cD,reduceIte,cJ,Nat.reduceAdd];exact fin 5 (er2 (by rw[dB];omega)) Z6 e6
      ·have g3:((iZ s:Int)<((gT s-1:Nat):Int))=False:=eq_false (by omega);by_cases k5:0<iZ s
       ·have g5:((0:Int)<(iZ s:Int))=True:=eq_true (by omega);by_cases k6:jS s=0
        ·have q6:((jS s:Int)==0)=true:=by simp[k6]
         simp only[cH.f2,cH.f3,aR.load,c2',c3',w5,g3,g5,fO,q6,aCm,cD,reduceIte,cJ,Nat.reduceAdd];exact fin 5 (er2 (by rw[dB];omega)) Z6 e6
        ·have q6:((jS s:Int)==0)=false:=by rw[beq_eq_false_iff_ne];omega
         simp only[cH.f2,cH.f3,aR.load,c2',c3',w5,w3,g3,g5,fO,q6,mX,wz.1,wo2,wz.2,cD,reduceIte,cJ,Nat.reduceAdd];have:=last (by rw[dB];omega);simp only[fO,cD,reduceIte,cJ,Nat.reduceAdd] at this;exact this
       ·have g5:((0:Int)<(iZ s:Int))=False:=eq_false (by omega);simp only[cH.f2,cH.f3,aR.load,c2',c3',w5,w3,g3,g5,fO,mX,wz.1,wo2,wz.2,cD,reduceIte,cJ,Nat.reduceAdd];have:=last (by rw[dB];omega);simp only[fO,cD,reduceIte,cJ,Nat.reduceAdd] at this;exact this
  ·have q:((s.length:Int) !=(size:Int))=true:=by rw[bne_iff_ne];omega
   have er:wB size s=(jV.zero,6):=by unfold wB;rw[if_neg (by simpa using ok),if_pos hl]
   simp only[ok,decide_true,iL,dY,q,aCm,cD,reduceIte,cJ,Nat.reduceAdd];exact fin 6 er Z1 u1
 ·have er:wB size s=(jV.zero,1):=by unfold wB;rw[if_pos ok]
  simp only[ok,decide_false,aCm,cD,reduceIte,cJ,Nat.reduceAdd];exact fin 1 er Z1 u1
def aVL{size:Nat}{x:Tx}(h:(fP size x).2=0):(fP size x).1.part<(fP size x).1.parts:=by
 unfold fP at h ⊢;split at h
 ·cases h
 ·rename_i a;split at h
  ·cases h
  ·rename_i b;split at h
   ·cases h
   ·rename_i c;split at h
    ·rename_i d;rw[if_neg a,if_neg b,if_neg c,if_pos d];exact d.1.2.2.2
    ·cases h
def aRY(size gen ser:Nat)(xs:List Tx)(p q:Nat)(t:Tx):iW size gen ser xs 0 p t=iW size gen ser xs 0 q t:=by
 cases xs with
 | nil=>rfl
 | cons x xs=>
  rw[aEj,aEj];simp only[if_true]
def aQn{h:PH}{size gen ser:Nat}{xs:List Tx}(hsz:size≤1000)(h1:1≤size)(hx:∀s∈xs,s.length=size)(hl:xs.length≤5000){k:cF}
  (hk:∀h',cX h h'->k (.tuple #[.string (tx (iW size gen ser xs 0 0 []).1),.int .i64 ((iW size gen ser xs 0 0 []).2:Int)]) h'):bW PG aAJ #[.int .i64 (size:Int),.int .u64 (gen:Int),.int .u64 (ser:Int),.string (tx xs.flatten)] h k:=by
 apply xW.call;unfold xW;obtain⟨T,hT⟩:∃T,iW size gen ser xs 0 0 []=T:=⟨_,rfl⟩;rw[hT] at hk;have fl:=aBd hx;have flb:xs.length*size≤5000*1000:=Nat.mul_le_mul hl hsz;refine⟨λvs h'=>∃(n parts:Nat) (t:Tx),n≤xs.length∧vs=[.int .i64 (size:Int),.int .u64 (gen:Int),.int .u64 (ser:Int),.string (tx xs.flatten),.string (tx t),.int .i64 (parts:Int),.int .i64 (n:Int)]∧cX h h'∧t.length≤n*1000∧parts<256∧n≤parts∧(if n=parts then T=(t,parts) else T=iW size gen ser (xs.drop n) n parts t),fN xs.length 6,⟨0,1,[],by omega,rfl,cV.refl,by simp,by omega,by omega,by rw[if_neg (by decide),zLb,aRY size gen ser xs 1 0];exact hT.symm⟩,?_⟩;rintro ρ h' ⟨n,parts,t,hn,hvs,w,ht,hp,hnp,hr⟩;simp only[hM,jA,kP,and_true] at hvs;obtain⟨x0,x1,x2,x3,x10,x11,x12⟩:=hvs;unfold aDO;rw[x0,x1,x2,x3,x10,x11,x12];by_cases he:n=parts
 ·have g0:((n:Int)<(parts:Int))=False:=eq_false (by omega);rw[if_pos he] at hr;simp only[g0,cD,reduceIte,cJ,Nat.reduceAdd];have:=hk h' w;rw[hr] at this;exact this
 ·have g0:((n:Int)<(parts:Int))=True:=eq_true (by omega);rw[if_neg he] at hr;have g1:=nR (i:=n) (by omega);have hm1:(n+1)*size≤5001*1000:=Nat.mul_le_mul (by omega) hsz;have hm0:n*size≤5001*1000:=Nat.mul_le_mul (by omega) hsz;have g2:IntKind.i64.wrap (((n+1:Nat):Int)*(size:Int))=(((n+1)*size:Nat):Int):=by rw[←Int.natCast_mul,eI (by omega) (by omega)]
  have g3:IntKind.i64.wrap ((n:Int)*(size:Int))=((n*size:Nat):Int):=by rw[←Int.natCast_mul,eI (by omega) (by omega)]
  by_cases hlt:n<xs.length
  ·have hle:(n+1)*size≤xs.length*size:=zLO _ hlt;have gl:((xs.flatten.length:Int)<(((n+1)*size:Nat):Int))=False:=eq_false (by omega);obtain⟨x,hxx⟩:∃x,xs[n]? =some x:=⟨_,kV hlt⟩;have hxl:=hx x (aAB hxx);have hms:n*size≤(n+1)*size:=zLO _ (Nat.le_succ _);have c:cC PG (Instr.sliceAt bR (.string (tx xs.flatten)) (some (.int .i64 ((n*size:Nat):Int))) (some (.int .i64 (((n+1)*size:Nat):Int))) none)=some (.string (tx x)):=by
    have:=kI (P:=PG) (t:=bR) (l:=xs.flatten) (i:=n*size) (j:=(n+1)*size) (lo:=some (.int .i64 ((n*size:Nat):Int))) (hi:=some (.int .i64 (((n+1)*size:Nat):Int))) bR.und (.inr ⟨_,rfl⟩) (.inr ⟨_,rfl⟩) hms (by omega);rw[this,aOs hx hxx]
   have ed:xs.drop n=x::xs.drop (n+1):=by
    rw[aA3 hlt];have:xs[n]=x:=by rw[kV hlt] at hxx;simpa using hxx
    rw[this]
   rw[ed,aEj] at hr;obtain⟨rf1,rf2⟩:=aLE size x;simp only[g0,g1,mX,g2,iL,gl,g3,c,cD,reduceIte,cJ,Nat.reduceAdd];refine aSB size x (by omega) λh2 u2=>?_;rw[aOc];simp only[cD,reduceIte,cJ,Nat.reduceAdd];intro r16 hr16
   try rw[cO]
   refine cH.fill (vs:=(fP size x).1.cells) hr16 rfl (fP size x).1.isC λh3 B3 u3=>?_;have e3:=(w.trans u2).trans u3;have b0:cU h3 ⟨r16,0,none⟩=some (.int .u64 ((fP size x).1.gen:Int)):=B3.cell 0;have b1:cU h3 ⟨r16,0+1,none⟩=some (.int .u64 ((fP size x).1.ser:Int)):=B3.cell 1;have b2:cU h3 ⟨r16,0+2,none⟩=some (.int .i64 ((fP size x).1.part:Int)):=B3.cell 2;have b3:cU h3 ⟨r16,0+3,none⟩=some (.int .i64 ((fP size x).1.parts:Int)):=B3.cell 3;have b4:cU h3 ⟨r16,0+4,none⟩=some (.string (tx (fP size x).1.b)):=B3.cell 4;have nq:∀{a b:Nat},a=b->((a:Int) !=(b:Int))=false:=λe=>by simp[e]
   have nn:∀{a b:Nat},a≠b->((a:Int) !=(b:Int))=true:=λe=>by rw[bne_iff_ne];omega
   have fail:aGB gen ser n (if n=0 then(fP size x).1.parts else parts) (fP size x)->k (.tuple #[.string {data:=#[]},.int .i64 0]) h3:=λhb=>by
    rw[if_pos hb] at hr;have:=hk h3 e3;rw[hr] at this;exact this
   by_cases c1:(fP size x).2=0
   ·have q1:((fP size x).2 !=0)=false:=by rw[c1];rfl
    have hlt2:=aVL c1;by_cases c2:(fP size x).1.gen=gen
    ·by_cases c3:(fP size x).1.ser=ser
     ·by_cases c4:(fP size x).1.part=n
      ·have ea:cC PG (binOp .add bR (.string (tx t)) (.string (tx (fP size x).1.b)))=some (.string (tx (t++(fP size x).1.b))):=jQ (by omega);have goal:¬aGB gen ser n (if n=0 then(fP size x).1.parts else parts) (fP size x)->(∃(n' parts':Nat) (t':Tx),n'≤xs.length∧[.int .i64 (size:Int),.int .u64 (gen:Int),.int .u64 (ser:Int),.string (tx xs.flatten),.string (tx (t++(fP size x).1.b)),.int .i64 ((fP size x).1.parts:Int),.int .i64 ((n+1:Nat):Int)]=[Value.int .i64 (size:Int),.int .u64 (gen:Int),.int .u64 (ser:Int),.string (tx xs.flatten),.string (tx t'),.int .i64 (parts':Int),.int .i64 (n':Int)]∧cX h h3∧t'.length≤n'*1000∧parts'<256∧n'≤parts'∧(if n'=parts' then T=(t',parts') else T=iW size gen ser (xs.drop n') n' parts' t')):=by
        intro hb;rw[if_neg hb] at hr;refine⟨n+1,(fP size x).1.parts,_,by omega,rfl,e3,by rw[jK];omega,rf1,by omega,?_⟩;by_cases c6:n+1=(fP size x).1.parts
        ·rw[if_pos c6] at hr ⊢;exact hr
        ·rw[if_neg c6] at hr ⊢;have:(if n=0 then(fP size x).1.parts else parts)=(fP size x).1.parts:=by
          split
          ·rfl
          ·rename_i h0;have h5:(fP size x).1.parts=parts:=Classical.byContradiction λe=>hb (.inr (.inr (.inr (.inr (by rw[if_neg h0];exact e)))));exact h5.symm
         rw[this] at hr;exact hr
       by_cases hn0:n=0
       ·have gz:((0:Int)<(n:Int))=False:=eq_false (by omega);simp only[dY,q1,cH.f0,cH.f1,cH.f2,cH.f3,cH.f4,cI.load,aR.load,bR.load,b0,b1,b2,b3,b4,nq c2,nq c3,nq c4,gz,ea,g1,cD,reduceIte,cJ,Nat.reduceAdd];exact⟨goal (by
         rintro(a|a|a|a|a)
         ·exact a c1
         ·exact a c2
         ·exact a c3
         ·exact a c4
         ·rw[if_pos hn0] at a;exact a rfl),by simp[fN,x12];omega⟩
       ·have gz:((0:Int)<(n:Int))=True:=eq_true (by omega);by_cases c5:(fP size x).1.parts=parts
        ·simp only[dY,q1,cH.f0,cH.f1,cH.f2,cH.f3,cH.f4,cI.load,aR.load,bR.load,b0,b1,b2,b3,b4,nq c2,nq c3,nq c4,gz,nq c5,ea,g1,cD,reduceIte,cJ,Nat.reduceAdd];exact⟨goal (by
          rintro(a|a|a|a|a)
          ·exact a c1
          ·exact a c2
          ·exact a c3
          ·exact a c4
          ·rw[if_neg hn0] at a;exact a c5),by simp[fN,x12];omega⟩
        ·simp only[dY,q1,cH.f0,cH.f1,cH.f2,cH.f3,cI.load,aR.load,b0,b1,b2,b3,nq c2,nq c3,nq c4,gz,nn c5,cD,reduceIte,cJ,Nat.reduceAdd];exact fail (.inr (.inr (.inr (.inr (by rw[if_neg hn0];exact c5)))))
      ·simp only[dY,q1,cH.f0,cH.f1,cH.f2,cI.load,aR.load,b0,b1,b2,nq c2,nq c3,nn c4,cD,reduceIte,cJ,Nat.reduceAdd];exact fail (.inr (.inr (.inr (.inl c4))))
     ·simp only[dY,q1,cH.f0,cH.f1,cI.load,aR.load,b0,b1,nq c2,nn c3,cD,reduceIte,cJ,Nat.reduceAdd];exact fail (.inr (.inr (.inl c3)))
    ·simp only[dY,q1,cH.f0,cI.load,aR.load,b0,nn c2,cD,reduceIte,cJ,Nat.reduceAdd];exact fail (.inr (.inl c2))
   ·have q1:((fP size x).2 !=0)=true:=bne_iff_ne.2 c1;simp only[dY,q1,cD,reduceIte,cJ,Nat.reduceAdd];exact fail (.inl c1)
  ·have gl:((xs.flatten.length:Int)<(((n+1)*size:Nat):Int))=True:=by
    have:n=xs.length:=by omega
    have hms:(n+1)*size=n*size+size:=Nat.succ_mul _ _;rw[this] at hms;exact eq_true (by rw[this];omega)
   rw[aAr (by omega)] at hr;simp only[g0,g1,mX,g2,iL,gl,cD,reduceIte,cJ,Nat.reduceAdd];have:=hk h' w;rw[hr] at this;exact this
def aTP{h:PH}{size gen:Nat}{xs:List Tx}(ok:fS size)(hx:∀s∈xs,s.length=size)(hl:xs.length≤5000){k:cF}
  (hk:∀h' v F,eD h' bR 1 v ((jR size gen (xs.length+1) xs 0).1.map kA) F->dX h F->cX h h'->k (.tuple #[v,.int .i64 ((jR size gen (xs.length+1) xs 0).2:Int)]) h'):bW PG aBe #[.int .i64 (size:Int),.int .u64 (gen:Int),.string (tx xs.flatten)] h k:=by
 apply aAX.call;unfold aAX;obtain⟨T,hT⟩:∃T,jR size gen (xs.length+1) xs 0=T:=⟨_,rfl⟩;rw[hT] at hk;have h64:=ok.1;have h512:=ok.2;have fl:=aBd hx;have flb:xs.length*size≤5000*512:=Nat.mul_le_mul hl h512;refine aDJ size ?_;simp only[ok,decide_true,cD,reduceIte,cJ,Nat.reduceAdd];refine⟨λvs h'=>∃(used ser f:Nat) (v:Value) (out:List Tx) (F:List Nat),used≤xs.length∧ser≤used∧out.length=ser∧xs.length<f+used∧vs=[.int .i64 (size:Int),.int .u64 (gen:Int),.string (tx xs.flatten),v,.int .i64 (used:Int)]∧eD h' bR 1 v (out.map kA) F∧dX h F∧cX h h'∧T=(out++(jR size gen f (xs.drop used) ser).1,used+(jR size gen f (xs.drop used) ser).2),fN xs.length 4,⟨0,0,xs.length+1,.slice none 0 0,[],[],by omega,by omega,rfl,by omega,rfl,eD.nil,(λb hb=>by cases hb),cV.refl,by rw[zLb,hT,zLU,iP]⟩,?_⟩;rintro ρ h' ⟨used,ser,f,v,out,F,hu,hs,ho,hf,hvs,O,fF,w,hr⟩;simp only[hM,jA,kP,and_true] at hvs;obtain⟨x0,x1,x2,x8,x9⟩:=hvs;unfold aEF;rw[x0,x1,x2,x8,x9];have hm0:used*size≤xs.length*size:=zLO _ hu;have g3:IntKind.i64.wrap ((used:Int)*(size:Int))=((used*size:Nat):Int):=by rw[←Int.natCast_mul,eI (by omega) (by omega)]
 have c:cC PG (Instr.sliceAt bR (.string (tx xs.flatten)) (some (.int .i64 ((used*size:Nat):Int))) none none)=some (.string (tx (xs.drop used).flatten)):=by
  have:=kI (P:=PG) (t:=bR) (l:=xs.flatten) (i:=used*size) (j:=xs.flatten.length) (lo:=some (.int .i64 ((used*size:Nat):Int))) (hi:=none) bR.und (.inr ⟨_,rfl⟩) (.inl ⟨rfl,rfl⟩) (by omega) (mS _);rw[this,zLJ,aFl hx]
 obtain⟨f,rfl⟩:∃g,f=g+1:=⟨f-1,by omega⟩;have hle:=aL4 (size:=size) (gen:=gen) (ser:=ser) (xs.drop used) 0 0 [];rw[jE] at hle;simp only[aAR O.slR,ho,cvN ser (by omega),mX,g3,c,cD,reduceIte,cJ,Nat.reduceAdd];refine aQn (by omega) (by omega) (λs hs=>hx s (List.mem_of_mem_drop hs)) (by rw[jE];omega) λh2 u2=>?_;unfold jR at hr;by_cases c0:(iW size gen ser (xs.drop used) 0 0 []).2=0
 ·rw[if_pos c0,zLQ,zLP] at hr;have q0:(((iW size gen ser (xs.drop used) 0 0 []).2:Int)==0)=true:=by simp[c0]
  simp only[fO,q0,cD,reduceIte,cJ,Nat.reduceAdd];have:=hk h2 v F;have hr':T=(out,used):=hr;rw[hr'] at this;exact this (O.ext u2) fF (w.trans u2)
 ·rw[if_neg c0] at hr;have q0:(((iW size gen ser (xs.drop used) 0 0 []).2:Int)==0)=false:=by rw[beq_eq_false_iff_ne];omega
  simp only[fO,q0,aFj,cD,reduceIte,cJ,Nat.reduceAdd];intro r13 hr13;refine gV ?_
  try rw[cO]
  have S1:=(aFW (h:=h2) (r:=r13) (iW size gen ser (xs.drop used) 0 0 []).1).slR;have u3:cX h2 (h2.set r13 (.cells #[.string (tx (iW size gen ser (xs.drop used) 0 0 []).1)] bR)):=cV.new hr13;refine lG dE.und dE.und bR.info bR.size bR.bytes bR.zero rfl (by decide) ((O.ext u2).ext u3) S1 (by simp[fH]) (by simp only[iF,iN,kW];omega) ?_;intro v4 h4 F4 O4 u4 g4 _;have O4:eD h4 bR 1 v4 ((out++[(iW size gen ser (xs.drop used) 0 0 []).1]).map kA) F4:=by rw[wA];exact O4
  have gu:IntKind.i64.wrap ((used:Int)+((iW size gen ser (xs.drop used) 0 0 []).2:Int))=((used+(iW size gen ser (xs.drop used) 0 0 []).2:Nat):Int):=by rw[eI (by omega) (by omega)];omega
  have e3:=(w.trans u2).trans u3;simp only[gu,cD,reduceIte,cJ,Nat.reduceAdd];rw[pN] at hr;refine⟨⟨used+(iW size gen ser (xs.drop used) 0 0 []).2,ser+1,f,v4,_,F4,by omega,by omega,by rw[jK,ho];rfl,by omega,rfl,O4,fF.grow e3 g4,e3.fresh u4 fF,?_⟩,by simp[fN,x9];omega⟩;rw[hr,uV,Nat.add_assoc];rfl
def aG4:cC PG (build cA #[])=some Hd.zero.v:=by kernel_rfl
def aNz(a b:Int):cC PG (build cA #[(0,.int .u64 a),(1,.int .i64 b)])=some (.agg #[.int .u64 a,.int .i64 b]):=by kernel_rfl
def aU5(a:Int):cC PG (build cA #[(0,.int .u64 a)])=some (.agg #[.int .u64 a,.int .i64 0]):=by kernel_rfl
def aAn{h:PH}{r:Nat}{x:Hd}(B:Bx h r x.cells):cB PG h (loadAt cA (pT r 0))=some x.v:=cA.agg B (by show 0+2≤2;decide)
def aPc{h:PH}(size:Nat)(x:Hd)(hg:x.gen<18446744073709551616)(hs:x.seg<1000000){k:cF}(hk:∀h',cX h h'->k (.tuple #[.string (tx (fQ size x).1),.int .i64 (fQ size x).2]) h'):bW PG xZ #[.int .i64 (size:Int),x.v] h k:=by
 apply tE.call;unfold tE;intro r1 hr1
 try rw[cO]
 have u1:cX h (h.set r1 (.cells (Value.cells x.v) cA)):=cV.new hr1;have B1:Bx (h.set r1 (.cells (Value.cells x.v) cA)) r1 x.cells:=Bx.new;generalize h.set r1 (.cells (Value.cells x.v) cA)=h1 at *;have bad:(¬fS size∨x.gen=0∨1<x.seg)->k (.tuple #[.string {data:=#[]},.int .i64 1]) h1:=λc=>by
  have e:fQ size x=([],1):=by unfold fQ;rw[if_pos c]
  have:=hk h1 u1;rw[e] at this;exact this
 refine aDJ size ?_;have b0:cU h1 ⟨r1,0,none⟩=some (.int .u64 (x.gen:Int)):=B1.cell 0;have b1:cU h1 ⟨r1,0+1,none⟩=some (.int .i64 (x.seg:Int)):=B1.cell 1;by_cases c1:fS size
 ·have h64:=c1.1;have h512:=c1.2;by_cases c2:x.gen=0
  ·have g2:((x.gen:Int)<1)=True:=eq_true (by omega);simp only[c1,decide_true,cA.f0,cI.load,b0,g2,cD,reduceIte,cJ,Nat.reduceAdd];exact bad (.inr (.inl c2))
  ·have g2:((x.gen:Int)<1)=False:=eq_false (by omega);have go:x.seg≤1->bZ (cC PG (convert aR cI (.int .i64 (x.seg:Int)))) λv55=>
     bW PG fR #[.int .u64 (x.gen:Int),.int .i64 8] h1 λv56 h57=>
     cB PG h57 (loadAt aR (pT r1 (0+1)))=some (.int .i64 (x.seg:Int))∧(bZ (cC PG (binOp BinOp.add bR (Value.string {data:=#[72]}) v56)) λv58=>
     bW PG fR #[v55,(Value.int IntKind.i64 1)] h57 λv59 h60=>
     (bZ (cC PG (binOp BinOp.add bR v58 v59)) λv61=>
     bZ (cC PG (binOp BinOp.sub aR (.int .i64 (size:Int)) (Value.int IntKind.i64 4))) λv62=>
     bZ (cC PG (Builtin.len_ #[bR] aR #[v61])) λv63=>
     bZ (cC PG (binOp BinOp.sub aR v62 v63)) λv64=>
     bZ (jT PG (Instr.makeSlice cS v64 v64)) λx66=>∀r65,h60 r65=none->bZ (cC PG (x66.2 r65)) λv67=>dT (PH.set h60 r65 x66.1) λh68=>
     bZ (cB PG h68 (convert cS bR v67)) λv69=>
     bZ (cC PG (binOp BinOp.add bR v61 v69)) λv70=>
     bW PG pH #[v70] h68 λv71 h72=>
     k (Value.tuple #[v71,(Value.int IntKind.i64 0)]) h72)):=by
    intro c3;have e:fQ size x=(mV (nI size x),0):=by unfold fQ;rw[if_neg (by rintro(a|a|a);exact a c1;exact c2 a;omega)]
    rw[e] at hk;have e72:(⟨#[72]⟩:ByteArray)=tx [72]:=rfl;rw[e72];simp only[cvN x.seg (by omega),iE,zPP];refine lY (n:=x.gen) (c:=8) hg (by decide) λh2 u2=>?_;have a1:cC PG (binOp .add bR (.string (tx [72])) (.string (tx (be x.gen 8))))=some (.string (tx ([72]++be x.gen 8))):=jQ (by simp[gS]);have b1':cU h2 ⟨r1,0+1,none⟩=some (.int .i64 (x.seg:Int)):=(B1.ext u2).cell 1;refine⟨by rw[aR.load];exact b1',?_⟩;simp only[a1,iE,zPP];refine lY (n:=x.seg) (c:=1) (by omega) (by decide) λh3 u3=>?_;have a2:cC PG (binOp .add bR (.string (tx ([72]++be x.gen 8))) (.string (tx (be x.seg 1))))=some (.string (tx ([72]++be x.gen 8++be x.seg 1))):=jQ (by simp[gS]);have hl:([72]++be x.gen 8++be x.seg 1).length=10:=by simp[gS]
    have w1:IntKind.i64.wrap ((size:Int)-4)=(size:Int)-4:=eI (by omega) (by omega);have w2:IntKind.i64.wrap ((size:Int)-4-((10:Nat):Int))=((size-14:Nat):Int):=by rw[eI (by omega) (by omega)];omega
    simp only[a2,aJ3,w1,iL,hl,w2,iE,zPP];refine aOp (size-14) (by omega) λh4 u4=>?_;have eb: [72]++be x.gen 8++be x.seg 1++kQ (size-14)=nI size x:=by unfold nI;simp only[uV]
    have a3:cC PG (binOp .add bR (.string (tx ([72]++be x.gen 8++be x.seg 1))) (.string (tx (kQ (size-14)))))=some (.string (tx (nI size x))):=by
     rw[←eb];exact jQ (by rw[hl,vT];omega)
    simp only[a3,iE,zPP];refine aLK _ (by rw[←eb,jK,hl,vT];omega) λh5 u5=>?_;exact hk h5 ((((u1.trans u2).trans u3).trans u4).trans u5)
   by_cases c3:x.seg=0
   ·have q3:((x.seg:Int) !=0)=false:=by simp[c3]
    simp only[c1,decide_true,cA.f0,cA.f1,cI.load,aR.load,b0,b1,g2,dY,q3,cD,reduceIte,cJ,Nat.reduceAdd];have:=go (by omega);simp only[aR.load,iP] at this;exact this
   ·have q3:((x.seg:Int) !=0)=true:=by rw[bne_iff_ne];omega
    by_cases c4:x.seg=1
    ·have q4:((x.seg:Int) !=1)=false:=by simp[c4]
     simp only[c1,decide_true,cA.f0,cA.f1,cI.load,aR.load,b0,b1,g2,dY,q3,q4,cD,reduceIte,cJ,Nat.reduceAdd];have:=go (by omega);simp only[aR.load,iP] at this;exact this
    ·have q4:((x.seg:Int) !=1)=true:=by rw[bne_iff_ne];omega
     simp only[c1,decide_true,cA.f0,cA.f1,cI.load,aR.load,b0,b1,g2,dY,q3,q4,cD,reduceIte,cJ,Nat.reduceAdd];exact bad (.inr (.inr (by omega)))
 ·simp only[c1,decide_false,cD,reduceIte,cJ,Nat.reduceAdd];exact bad (.inl c1)
def hdz(s:Tx)(i:Nat):Bool:=((s.take i).drop 10).all (· == 0)
def aUx{h:PH}(size:Nat)(s:Tx)(hs:s.length≤1000000){k:cF}(hk:∀h',cX h h'->k (.tuple #[(fW size s).1.v,.int .i64 (fW size s).2]) h'):bW PG aBz #[.int .i64 (size:Int),.string (tx s)] h k:=by
 rw[←aVG] at hk;apply tJ.call;unfold tJ;intro r1 hr1
 try rw[cO]
 have Z1:Bx (h.set r1 (.cells (dD PG cA) cA)) r1 Hd.zero.cells:=cA.zbox;have u1:cX h (h.set r1 (.cells (dD PG cA) cA)):=cV.new hr1;generalize h.set r1 (.cells (dD PG cA) cA)=h1 at *;have fin:∀{h':PH} (f:Hd) (e:Int),aHE size s=(f,e)->Bx h' r1 Hd.zero.cells->cX h h'->cM PG (cP cA (pT r1 0) f.v) h' λ_ h8=>bZ (cB PG h8 (loadAt cA (pT r1 0))) λv9=>k (.tuple #[v9,.int .i64 e]) h8:=by
  intro h' f e he B w;refine cA.put B (vs:=f.cells) (o:=0) rfl (by show 0+2≤2;decide) f.isC λh2 B2 u2=>?_;have B2:Bx h2 r1 f.cells:=B2;simp only[aAn B2,iE,zPP];have:=hk h2 (w.fresh u2 (dX.one hr1));rw[he] at this;exact this
 refine aDJ size ?_;by_cases ok:fS size
 ·have h64:=ok.1;have h512:=ok.2;by_cases hl:s.length=size
  ·have q:((s.length:Int) !=(size:Int))=false:=by simp[hl]
   simp only[ok,decide_true,iL,dY,q,cD,reduceIte,cJ,Nat.reduceAdd];refine aM7 s hs λh4 u4=>?_;have e4:=u1.trans u4;cases hsl:nP s with
   | false=>
    have er:aHE size s=(Hd.zero,8):=by unfold aHE;rw[if_neg (by simpa using ok),if_neg (by simpa using hl),if_pos hsl]
    simp only[aG4,cD,reduceIte,cJ,Nat.reduceAdd];exact fin Hd.zero 8 er (Z1.ext u4) e4
   | true=>
    have er:aHE size s=if aFg size s then(qB s,0) else(Hd.zero,5):=by unfold aHE;rw[if_neg (by simpa using ok),if_neg (by simpa using hl),if_neg (by rw[hsl];decide)]
    have c1:cC PG (Instr.sliceAt bR (.string (tx s)) (some (.int .i64 1)) (some (.int .i64 9)) none)=some (.string (tx ((s.drop 1).take 8))):=by
     have:=kI (P:=PG) (t:=bR) (l:=s) (i:=1) (j:=9) (lo:=some (.int .i64 1)) (hi:=some (.int .i64 9)) bR.und (.inr ⟨_,rfl⟩) (.inr ⟨_,rfl⟩) (by omega) (by omega);rw[this,zLy]
    obtain⟨b9,hb9⟩:∃b,s[9]? =some b:=⟨_,kV (by omega)⟩;obtain⟨b0,hb0⟩:∃b,s[0]? =some b:=⟨_,kV (by omega)⟩;have i9:cC PG (Instr.index bR (.string (tx s)) (.int .i64 9))=some (.int .u8 b9.toNat):=nL (j:=9) bR.und hb9;have i0:cC PG (Instr.index bR (.string (tx s)) (.int .i64 0))=some (.int .u8 b0.toNat):=nL (j:=0) bR.und hb0;have d9:(qB s).seg=b9.toNat:=aIl hb9;have l9:=b9.toNat_lt;have t1:s.take 1=[72]↔b0=72:=by
     have:s.take 1=[b0]:=by
      obtain⟨hl0,e⟩:=zLA.1 hb0;cases s with
      | nil=>cases hl0
      | cons y s=>simp at e;simp[e]
     rw[this];simp
    simp only[c1,i9,aGV,cD,reduceIte,cJ,Nat.reduceAdd];refine aBG (by rw[mH];omega) ?_;rw[←d9];show bZ (cC PG (build cA #[(0,.int .u64 ((qB s).gen:Int)),(1,.int .i64 ((qB s).seg:Int))])) _;simp only[aNz,iE,zPP];intro r29 hr29
    try rw[cO]
    refine cA.fill (vs:=(qB s).cells) hr29 rfl (qB s).isC λh5 B5 u5=>?_;have e5:=e4.trans u5;have Z5:=(Z1.ext u4).ext u5;have bg:cU h5 ⟨r29,0,none⟩=some (.int .u64 ((qB s).gen:Int)):=B5.cell 0;have bs:cU h5 ⟨r29,0+1,none⟩=some (.int .i64 ((qB s).seg:Int)):=B5.cell 1;have q0:((b0.toNat:Int)==72)=decide (b0=72):=by
     rw[xE,beq_iff_eq,decide_eq_true_iff];constructor
     ·intro e;apply UInt8.toNat_inj.1;have:b0.toNat=72:=by omega
      rw[this];rfl
     ·intro e;rw[e];rfl
    have loop:∀b:Bool,b=decide (b0=72∧(qB s).gen≠0∧(qB s).seg<2)->gU [0,1,4,6,7,8] (λn61 ρ h=>aBI k n61 (ρ 0) (ρ 1) (ρ 4) (ρ 6) (ρ 7) (ρ 8) h) [.int .i64 (size:Int),.string (tx s),pT r1 0,pT r29 0,.bool b,.int .i64 10] h5:=by
     intro b hb;refine⟨λvs h'=>∃i:Nat,10≤i∧i≤size-4∧vs=[.int .i64 (size:Int),.string (tx s),pT r1 0,pT r29 0,.bool (decide (b0=72∧(qB s).gen≠0∧(qB s).seg<2)&&hdz s i),.int .i64 (i:Int)]∧h'=h5,fN size 5,⟨10,by omega,by omega,?_,rfl⟩,?_⟩
     ·have:(s.take 10).drop 10=[]:=aAr (by rw[mH];omega);unfold hdz;rw[this,hb];simp
     rintro ρ h' ⟨i,hi,hi2,hvs,rfl⟩;simp only[hM,jA,kP,and_true] at hvs;obtain⟨x0,x1,x4,x6,x7,x8⟩:=hvs;unfold aBI;rw[x0,x1,x4,x6,x7,x8];have w4:IntKind.i64.wrap ((size:Int)-4)=((size-4:Nat):Int):=by rw[eI (by omega) (by omega)];omega
     by_cases hlt:i<size-4
     ·have g:((i:Int)<((size-4:Nat):Int))=True:=eq_true (by omega);have gi:=nR (i:=i) (by omega);obtain⟨y,hy⟩:∃y,s[i]? =some y:=⟨_,kV (by omega)⟩;have iy:cC PG (Instr.index bR (.string (tx s)) (.int .i64 (i:Int)))=some (.int .u8 y.toNat):=nL (j:=i) bR.und hy;have et:(s.take (i+1)).drop 10=(s.take i).drop 10++[y]:=by
       rw[zLR,hy,List.drop_append_of_le_length (by rw[mH];omega)];rfl
      have qy:((y.toNat:Int)==0)=decide (y=0):=by
       rw[xE,beq_iff_eq,decide_eq_true_iff];constructor
       ·intro e;apply UInt8.toNat_inj.1;have:y.toNat=0:=by omega
        rw[this];rfl
       ·intro e;rw[e];rfl
      have en:(decide (b0=72∧(qB s).gen≠0∧(qB s).seg<2)&&hdz s (i+1))=((decide (b0=72∧(qB s).gen≠0∧(qB s).seg<2)&&hdz s i)&&decide (y=0)):=by
       have:hdz s (i+1)=(hdz s i&&decide (y=0)):=by
        have e0:(y==0)=decide (y=0):=by rw[xE,beq_iff_eq,decide_eq_true_iff]
        unfold hdz;rw[et,List.all_append,List.all_cons,List.all_nil,Bool.and_true,e0]
       rw[this,Bool.and_assoc]
      cases cb:(decide (b0=72∧(qB s).gen≠0∧(qB s).seg<2)&&hdz s i) with
      | true=>
       rw[cb,zLo] at en;simp only[w4,g,iy,fO,qy,gi,cD,reduceIte,cJ,Nat.reduceAdd];exact⟨⟨i+1,by omega,by omega,by rw[en],by first|rfl|trivial⟩,by simp[fN,x8];omega⟩
      | false=>
       rw[cb,zLn] at en;simp only[w4,g,gi,cD,reduceIte,cJ,Nat.reduceAdd];exact⟨⟨i+1,by omega,by omega,by rw[en],by first|rfl|trivial⟩,by simp[fN,x8];omega⟩
     ·have g:((i:Int)<((size-4:Nat):Int))=False:=eq_false (by omega);obtain rfl:i=size-4:=by omega
      have ed:(decide (b0=72∧(qB s).gen≠0∧(qB s).seg<2)&&hdz s (size-4))=decide (aFg size s):=by
       rw[xE,rZ,decide_eq_true_iff,decide_eq_true_iff];unfold aFg hdz;rw[t1,aI1];simp only[beq_iff_eq];exact⟨λ⟨⟨a,b,c⟩,d⟩=>⟨a,b,c,d⟩,λ⟨a,b,c,d⟩=>⟨⟨a,b,c⟩,d⟩⟩
      rw[ed];by_cases cd:aFg size s
      ·rw[if_pos cd] at er;simp only[w4,g,cd,decide_true,aAn B5,cD,reduceIte,cJ,Nat.reduceAdd];exact fin (qB s) 0 er Z5 e5
      ·rw[if_neg cd] at er;simp only[w4,g,cd,decide_false,aG4,cD,reduceIte,cJ,Nat.reduceAdd];exact fin Hd.zero 5 er Z5 e5
    by_cases k0:b0=72
    ·have g0:decide (b0=72)=true:=decide_eq_true k0;by_cases k1:(qB s).gen=0
     ·have g1:((0:Int)<((qB s).gen:Int))=False:=eq_false (by omega);simp only[i0,fO,q0,g0,cA.f0,cI.load,bg,g1,cD,reduceIte,cJ,Nat.reduceAdd];exact loop false (by rw[eq_comm];exact decide_eq_false (λx=>x.2.1 k1))
     ·have g1:((0:Int)<((qB s).gen:Int))=True:=eq_true (by omega);have e2:decide (((qB s).seg:Int)<2)=decide (b0=72∧(qB s).gen≠0∧(qB s).seg<2):=by
       rw[xE,decide_eq_true_iff,decide_eq_true_iff];exact⟨λh=>⟨k0,k1,by omega⟩,λh=>by omega⟩
      simp only[i0,fO,q0,g0,cA.f0,cA.f1,cI.load,aR.load,bg,g1,bs,cD,reduceIte,cJ,Nat.reduceAdd];exact loop _ e2
    ·have g0:decide (b0=72)=false:=decide_eq_false k0;simp only[i0,fO,q0,g0,cD,reduceIte,cJ,Nat.reduceAdd];exact loop false (by rw[eq_comm];exact decide_eq_false (λx=>k0 x.1))
  ·have q:((s.length:Int) !=(size:Int))=true:=by rw[bne_iff_ne];omega
   have er:aHE size s=(Hd.zero,6):=by unfold aHE;rw[if_neg (by simpa using ok),if_pos hl]
   simp only[ok,decide_true,iL,dY,q,aG4,cD,reduceIte,cJ,Nat.reduceAdd];exact fin Hd.zero 6 er Z1 u1
 ·have er:aHE size s=(Hd.zero,1):=by unfold aHE;rw[if_pos ok]
  simp only[ok,decide_false,aG4,cD,reduceIte,cJ,Nat.reduceAdd];exact fin Hd.zero 1 er Z1 u1
def wD(size:Nat)(x y:Tx):Nat->Hd×Int
 | 0=>(Hd.zero,-1)
 | 1=>yP (Hd.zero,-1) 0 (fW size x)
 | _=>yP (yP (Hd.zero,-1) 0 (fW size x)) 1 (fW size y)
def aQK{h:PH}{v:Value}(size:Nat)(x y:Tx)(S:hC h 1 v ([x,y].map kA))(hx:x.length≤1000000)(hy:y.length≤1000000){k:cF}(hk:∀h',cX h h'->k (.tuple #[(mY size x y).1.v,.int .i64 (mY size x y).2]) h'):bW PG aAI #[.int .i64 (size:Int),v] h k:=by
 rw[←aQt] at hk;apply xS.call;unfold xS;intro r1 hr1
 try rw[cO]
 have Z1:Bx (h.set r1 (.cells (dD PG cA) cA)) r1 Hd.zero.cells:=cA.zbox;have u1:cX h (h.set r1 (.cells (dD PG cA) cA)):=cV.new hr1;generalize h.set r1 (.cells (dD PG cA) cA)=h1 at *;simp only[aG4,cD,reduceIte,cJ,Nat.reduceAdd];intro r4 hr4
 try rw[cO]
 refine cA.fill (vs:=Hd.zero.cells) hr4 rfl Hd.zero.isC λh2 B2 u2=>?_;have Z2:=Z1.ext u2;have n14:r1≠r4:=Z1.apart hr4;have e2:=u1.trans u2;have f1:dX h [r1]:=dX.one hr1;have f4:dX h [r4]:=dX.one (u1.none hr4);have lv:cC PG (Builtin.len_ #[dE] aR #[v])=some (.int .i64 2):=aAR S;refine⟨λvs h'=>∃i:Nat,i≤2∧vs=[.int .i64 (size:Int),v,pT r1 0,pT r4 0,.int .i64 (wD size x y i).2,.int .i64 (i:Int)]∧Bx h' r4 (wD size x y i).1.cells∧Bx h' r1 Hd.zero.cells∧cX h h',fN 2 5,⟨0,by omega,rfl,B2,Z2,e2⟩,?_⟩;rintro ρ h' ⟨i,hi,hvs,B,Zb,w⟩;simp only[hM,jA,kP,and_true] at hvs;obtain⟨x0,x1,x4,x6,x7,x8⟩:=hvs;unfold aDK;rw[x0,x1,x4,x6,x7,x8];by_cases hlt:i<2
 ·have g:((i:Int)<2)=True:=eq_true (by omega);have gi:=nR (i:=i) (by omega);obtain⟨s,hs⟩:∃s,[x,y][i]? =some s:=⟨_,kV (show i<[x,y].length from hlt)⟩;have hsl:s.length≤1000000:=by
   have:=aAB hs;simp only[iM,zLg,or_false] at this;rcases this with rfl|rfl<;>assumption
  obtain⟨a,i1,i2⟩:=aI9 (S.ext w) hs;have step:wD size x y (i+1)=yP (wD size x y i) (i:Int) (fW size s):=by
   have:i=0∨i=1:=by omega
   rcases this with rfl|rfl
   ·simp at hs;subst hs;rfl
   ·simp at hs;subst hs;rfl
  simp only[lv,g,i1,i2,cD,reduceIte,cJ,Nat.reduceAdd];refine aUx size s hsl λh3 u3=>?_;simp only[cD,reduceIte,cJ,Nat.reduceAdd];intro r18 hr18
  try rw[cO]
  refine cA.fill (vs:=(fW size s).1.cells) hr18 rfl (fW size s).1.isC λh5 B5 u5=>?_;have e5:=(w.trans u3).trans u5;have D4:=(B.ext u3).ext u5;have D1:=(Zb.ext u3).ext u5;have b0:cU h5 ⟨r18,0,none⟩=some (.int .u64 ((fW size s).1.gen:Int)):=B5.cell 0;have c0:cU h5 ⟨r4,0,none⟩=some (.int .u64 ((wD size x y i).1.gen:Int)):=D4.cell 0;have stay:wD size x y (i+1)=wD size x y i->nD k (λvs h'=>(∃i:Nat,i≤2∧vs=[.int .i64 (size:Int),v,pT r1 0,pT r4 0,.int .i64 (wD size x y i).2,.int .i64 (i:Int)]∧Bx h' r4 (wD size x y i).1.cells∧Bx h' r1 Hd.zero.cells∧cX h h')∧fN 2 5 vs h'<fN 2 5 ([0,1,4,6,7,8].map ρ) h') (.int .i64 (size:Int)) v (pT r1 0) (pT r4 0) (.int .i64 (wD size x y i).2) (.int .i64 (i:Int)) h5:=by
   intro en;unfold nD yI;simp only[gi,cD,reduceIte,cJ,Nat.reduceAdd];rw[←en];rw[←en] at D4;exact⟨⟨i+1,by omega,rfl,D4,D1,e5⟩,by simp[fN,x8];omega⟩
  have move:wD size x y (i+1)=((fW size s).1,(i:Int))->cM PG (cP cA (pT r4 0) (fW size s).1.v) h5 λ_ h60=>nD k (λvs h'=>(∃i:Nat,i≤2∧vs=[.int .i64 (size:Int),v,pT r1 0,pT r4 0,.int .i64 (wD size x y i).2,.int .i64 (i:Int)]∧Bx h' r4 (wD size x y i).1.cells∧Bx h' r1 Hd.zero.cells∧cX h h')∧fN 2 5 vs h'<fN 2 5 ([0,1,4,6,7,8].map ρ) h') (.int .i64 (size:Int)) v (pT r1 0) (pT r4 0) (.int .i64 (i:Int)) (.int .i64 (i:Int)) h60:=by
   intro en;refine cA.put D4 (vs:=(fW size s).1.cells) (o:=0) rfl (by show 0+2≤2;decide) (fW size s).1.isC λh6 B6 u6=>?_;have B6:Bx h6 r4 (fW size s).1.cells:=B6;unfold nD yI;simp only[gi,cD,reduceIte,cJ,Nat.reduceAdd];exact⟨⟨i+1,by omega,by rw[en],by rw[en];exact B6,D1.upd u6 (by simpa using n14),e5.fresh u6 f4⟩,by simp[fN,x8];omega⟩
  by_cases c1:(fW size s).2=0
  ·have q1:((fW size s).2==0)=true:=by rw[c1];rfl
   by_cases c2:(wD size x y i).2<0
   ·have g2:((wD size x y i).2<0)=True:=eq_true c2;simp only[fO,q1,g2,aAn B5,cD,reduceIte,cJ,Nat.reduceAdd];exact move (by rw[step];exact if_pos ⟨c1,.inl c2⟩)
   ·have g2:((wD size x y i).2<0)=False:=eq_false c2;by_cases c3:(wD size x y i).1.gen<(fW size s).1.gen
    ·have g3:(((wD size x y i).1.gen:Int)<((fW size s).1.gen:Int))=True:=eq_true (by omega);simp only[fO,q1,g2,cA.f0,cI.load,b0,c0,g3,aAn B5,cD,reduceIte,cJ,Nat.reduceAdd];exact move (by rw[step];exact if_pos ⟨c1,.inr c3⟩)
    ·have g3:(((wD size x y i).1.gen:Int)<((fW size s).1.gen:Int))=False:=eq_false (by omega);simp only[fO,q1,g2,cA.f0,cI.load,b0,c0,g3,cD,reduceIte,cJ,Nat.reduceAdd];exact stay (by rw[step];exact if_neg (λz=>z.2.elim c2 c3))
  ·have q1:((fW size s).2==0)=false:=by rw[beq_eq_false_iff_ne];exact c1
   simp only[fO,q1,cD,reduceIte,cJ,Nat.reduceAdd];exact stay (by rw[step];exact if_neg (λz=>c1 z.1))
 ·have g:((i:Int)<2)=False:=eq_false (by omega);obtain rfl:i=2:=by omega
  have g2:(((2:Nat):Int)<2)=False:=eq_false (by decide);have B:Bx h' r4 (yP (yP (Hd.zero,-1) 0 (fW size x)) 1 (fW size y)).1.cells:=B;simp only[lv,g2,aAn B,cD,reduceIte,cJ,Nat.reduceAdd];refine cA.put Zb (vs:=(yP (yP (Hd.zero,-1) 0 (fW size x)) 1 (fW size y)).1.cells) (o:=0) rfl (by show 0+2≤2;decide) (Hd.isC _) λh6 B6 u6=>?_;have B6:Bx h6 r1 (yP (yP (Hd.zero,-1) 0 (fW size x)) 1 (fW size y)).1.cells:=B6;simp only[aAn B6,cD,reduceIte,cJ,Nat.reduceAdd];exact hk h6 (w.fresh u6 f1)
def aTZ{h:PH}(x:Hd)(hg:x.gen<18446744073709551616){k:cF}(hk:∀h',cX h h'->k (.tuple #[(iB x).1.v,.int .i64 (iB x).2]) h'):bW PG aBZ #[x.v] h k:=by
 apply aAd.call;unfold aAd;intro r1 hr1
 try rw[cO]
 have u1:cX h (h.set r1 (.cells (Value.cells x.v) cA)):=cV.new hr1;have B1:Bx (h.set r1 (.cells (Value.cells x.v) cA)) r1 x.cells:=Bx.new;generalize h.set r1 (.cells (Value.cells x.v) cA)=h1 at *;intro r3 hr3
 try rw[cO]
 have Z3:Bx (h1.set r3 (.cells (dD PG cA) cA)) r3 Hd.zero.cells:=cA.zbox;have u3:cX h1 (h1.set r3 (.cells (dD PG cA) cA)):=cV.new hr3;have C1:=B1.ext u3;generalize h1.set r3 (.cells (dD PG cA) cA)=h3 at *;have e3:=u1.trans u3;have b0:cU h3 ⟨r1,0,none⟩=some (.int .u64 (x.gen:Int)):=C1.cell 0;have b1:cU h3 ⟨r1,0+1,none⟩=some (.int .i64 (x.seg:Int)):=C1.cell 1;have fin:∀(f:Hd) (e:Int),iB x=(f,e)->cM PG (cP cA (pT r3 0) f.v) h3 λ_ h8=>bZ (cB PG h8 (loadAt cA (pT r3 0))) λv9=>k (.tuple #[v9,.int .i64 e]) h8:=by
  intro f e hr;refine cA.put Z3 (vs:=f.cells) (o:=0) rfl (by show 0+2≤2;decide) f.isC λh2 B2 u2=>?_;have B2:Bx h2 r3 f.cells:=B2;simp only[aAn B2,iE,zPP];have:=hk h2 (e3.fresh u2 (dX.one (u1.none hr3)));rw[hr] at this;exact this
 by_cases c:x.gen=18446744073709551615
 ·have wg:IntKind.u64.wrap ((x.gen:Int)+1)=0:=by rw[c];decide
  have q:((0:Int)==0)=true:=rfl;simp only[cA.f0,cI.load,b0,wg,fO,q,aG4,cD,reduceIte,cJ,Nat.reduceAdd];exact fin Hd.zero 12 (by unfold iB;rw[if_pos c])
 ·have wg:IntKind.u64.wrap ((x.gen:Int)+1)=((x.gen+1:Nat):Int):=by rw[jU (by omega) (by omega)];omega
  have q:(((x.gen+1:Nat):Int)==0)=false:=by rw[beq_eq_false_iff_ne];omega
  by_cases c2:x.seg=0
  ·have q2:((x.seg:Int)==0)=true:=by simp[c2]
   simp only[cA.f0,cA.f1,cI.load,aR.load,b0,b1,wg,fO,q,q2,aNz,cD,reduceIte,cJ,Nat.reduceAdd];exact fin ⟨x.gen+1,1⟩ 0 (by unfold iB;rw[if_neg c,if_pos c2])
  ·have q2:((x.seg:Int)==0)=false:=by rw[beq_eq_false_iff_ne];omega
   simp only[cA.f0,cA.f1,cI.load,aR.load,b0,b1,wg,fO,q,q2,aNz,cD,reduceIte,cJ,Nat.reduceAdd];exact fin ⟨x.gen+1,0⟩ 0 (by unfold iB;rw[if_neg c,if_neg c2])
def aIJ{h:PH}{r:Nat}{d:Dk}{F:List Nat}(D:rQ r d h F)(h2:2≤d.sectors){k:cF}(hk:k (.int .i64 (d.segs:Int)) h):bW PG pL #[pT r 0] h k:=by
 apply wF.call;unfold wF;obtain⟨bv,L⟩:=D.b;have hm:=D.ok.many;have w1:IntKind.i64.wrap ((d.sectors:Int)-2)=((d.sectors-2:Nat):Int):=by rw[eI (by omega) (by omega)];omega
 have w2:cC PG (binOp .quo aR (.int .i64 ((d.sectors-2:Nat):Int)) (.int .i64 2))=some (.int .i64 (d.segs:Int)):=by
  have e:Int.tdiv ((d.sectors-2:Nat):Int) 2=(d.segs:Int):=rfl;have e2:IntKind.i64.wrap (d.segs:Int)=(d.segs:Int):=eI (by omega) (by unfold Dk.segs;omega);rw[aJb (by decide),e,e2]
 simp only[cY.f1,aR.load,L.sectors,w1,w2,cD,reduceIte,cJ,Nat.reduceAdd];exact hk
def aO4{h:PH}{r:Nat}{d:Dk}{F:List Nat}(D:rQ r d h F)(h2:2≤d.sectors)(x:Hd)(hs:x.seg≤1){k:cF}(hk:∀h',cX h h'->k (.int .i64 (d.base x.seg:Int)) h'):bW PG wE #[pT r 0,x.v] h k:=by
 apply aAa.call;unfold aAa;have hm:=D.ok.many;intro r1 hr1
 try rw[cO]
 have u1:cX h (h.set r1 (.cells (Value.cells x.v) cA)):=cV.new hr1;have B1:Bx (h.set r1 (.cells (Value.cells x.v) cA)) r1 x.cells:=Bx.new;generalize h.set r1 (.cells (Value.cells x.v) cA)=h1 at *;have b1:cU h1 ⟨r1,0+1,none⟩=some (.int .i64 (x.seg:Int)):=B1.cell 1;have hsg:d.segs≤4096:=by unfold Dk.segs;omega
 by_cases c:x.seg=1
 ·have q:((x.seg:Int)==1)=true:=by simp[c]
  have w2:IntKind.i64.wrap ((2:Int)+(d.segs:Int))=(d.base x.seg:Int):=by
   rw[eI (by omega) (by omega),c];unfold Dk.base;omega
  simp only[cA.f1,aR.load,b1,fO,q,cD,reduceIte,cJ,Nat.reduceAdd];refine aIJ (D.ext u1) h2 ?_;simp only[w2,cD,reduceIte,cJ,Nat.reduceAdd];exact hk h1 u1
 ·have q:((x.seg:Int)==1)=false:=by rw[beq_eq_false_iff_ne];omega
  have e:d.base x.seg=2:=by
   have:x.seg=0:=by omega
   rw[this];unfold Dk.base;omega
  simp only[cA.f1,aR.load,b1,fO,q,cD,reduceIte,cJ,Nat.reduceAdd];have:=hk h1 u1;rw[e] at this;exact this
def aK1{h:PH}{a:Nat}{d:Dk}{F G:List Nat}{v:Value}{l:List Tx}(D:rQ a d h F)(n:Nat)(hn:n≤1000000)(O:eD h bR 1 v (l.map kA) G)(hd:∀b∈G,b∉F)(hb:d.buf.length+l.length≤1000000){k:cF}(hk:∀h' F',rQ a (iQ d n l).1 h' F'->eX h F h' F'->k (.int .i64 (iQ d n l).2) h'):bW PG sU #[pT a 0,.int .i64 (n:Int),v] h k:=by
 apply aBB.call;unfold aBB;obtain⟨T,hT⟩:∃T,iQ d n l=T:=⟨_,rfl⟩;rw[hT] at hk;refine⟨λvs h'=>∃(i:Nat) (d':Dk) (F':List Nat),i≤l.length∧vs=[pT a 0,.int .i64 (n:Int),v,.int .i64 (i:Int)]∧rQ a d' h' F'∧eD h' bR 1 v (l.map kA) G∧(∀b∈G,b∉F')∧T=iQ d' (n+i) (l.drop i)∧d'.buf.length≤d.buf.length+i∧eX h F h' F',fN l.length 3,⟨0,d,F,by omega,rfl,D,O,hd,hT.symm,by omega,eX.refl⟩,?_⟩;rintro ρ h' ⟨i,d',F',hi,hvs,D',O',hd',hT',hb',st⟩;simp only[hM,jA,kP,and_true] at hvs;obtain⟨x0,x1,x2,x7⟩:=hvs;unfold aFC;rw[x0,x1,x2,x7];by_cases hlt:i<l.length
 ·have g:((i:Int)<(l.length:Int))=True:=eq_true (by omega);have gi:=nR (i:=i) (by omega);have gn:IntKind.i64.wrap ((n:Int)+(i:Int))=((n+i:Nat):Int):=by rw[eI (by omega) (by omega)];omega
  obtain⟨x,hx⟩:∃x,l[i]? =some x:=⟨_,kV hlt⟩;have ed:l.drop i=x::l.drop (i+1):=by
   rw[aA3 hlt];have:l[i]=x:=by rw[kV hlt] at hx;simpa using hx
   rw[this]
  rw[ed,aJQ] at hT';obtain⟨p,i1,i2⟩:=aI9 O'.slR hx;simp only[aAR O'.slR,g,i1,i2,gn,cD,reduceIte,cJ,Nat.reduceAdd];refine aQy D' _ x (by omega) λh5 F5 D5 s5=>?_;have st5:=st.trans s5;by_cases c:(d'.wr ((n+i:Nat):Int) x).2=0
  ·have q:((d'.wr ((n+i:Nat):Int) x).2 !=0)=false:=by rw[c];rfl
   rw[if_neg (λe=>e c)] at hT';simp only[dY,q,gi,cD,reduceIte,cJ,Nat.reduceAdd];obtain⟨O5,hd5⟩:=O'.step s5 hd';have:=aOP d' ((n+i:Nat):Int) x;exact⟨⟨i+1,_,F5,by omega,rfl,D5,O5,hd5,by rw[←Nat.add_assoc];exact hT',by omega,st5⟩,by simp[fN,x7];omega⟩
  ·have q:((d'.wr ((n+i:Nat):Int) x).2 !=0)=true:=bne_iff_ne.2 c;rw[if_pos c] at hT';simp only[dY,q,cD,reduceIte,cJ,Nat.reduceAdd];subst hT';exact hk h5 F5 D5 st5
 ·have g:((i:Int)<(l.length:Int))=False:=eq_false (by omega);have ed:l.drop i=[]:=aAr (by omega);rw[ed] at hT';have hT':T=d'.fl:=hT';simp only[aAR O'.slR,g,cD,reduceIte,cJ,Nat.reduceAdd];refine aLy D' (by omega) λh5 F5 D5 s5=>?_;subst hT';exact hk h5 F5 D5 (st.trans s5)
def aPH{h:PH}{a:Nat}{d:Dk}{F:List Nat}(D:rQ a d h F)(h4:4≤d.sectors)(x:Hd)(hs:x.seg≤1)(hb:d.buf.length≤1000000){k:cF}
  (hk:∀h' v G,eD h' bR 1 v ((jR d.size x.gen (d.segs+1) (d.secs (d.base x.seg) d.segs) 0).1.map kA) G->dX h G->cX h h'->k (.tuple #[v,.int .i64 ((jR d.size x.gen (d.segs+1) (d.secs (d.base x.seg) d.segs) 0).2:Int)]) h'):bW PG yH #[pT a 0,x.v] h k:=by
 apply oY.call;unfold oY;have hm:=D.ok.many;have hz:=D.ok.size;have hfit:=zZ d h4 hs;have hsg:d.segs≤4096:=by unfold Dk.segs;omega
 intro r1 hr1
 try rw[cO]
 have u1:cX h (h.set r1 (.cells (Value.cells x.v) cA)):=cV.new hr1;have B1:Bx (h.set r1 (.cells (Value.cells x.v) cA)) r1 x.cells:=Bx.new;generalize h.set r1 (.cells (Value.cells x.v) cA)=h1 at *;refine⟨λvs h'=>∃i:Nat,i≤d.segs∧vs=[pT a 0,pT r1 0,.string (tx (d.secs (d.base x.seg) i).flatten),.int .i64 (i:Int)]∧Bx h' r1 x.cells∧cX h h',fN d.segs 3,⟨0,by omega,rfl,B1,u1⟩,?_⟩;rintro ρ h' ⟨i,hi,hvs,B,w⟩;simp only[hM,jA,kP,and_true] at hvs;obtain⟨x0,x3,x6,x7⟩:=hvs;unfold aC1;rw[x0,x3,x6,x7];refine aIJ (D.ext w) (by omega) ?_;have hfl:(d.secs (d.base x.seg) i).flatten.length=i*d.size:=by rw[aBd (aFs D.ok (by omega)),Dk.secs_len]
 have hz2:=hz.2;have him:i*d.size≤4096*512:=Nat.mul_le_mul (by omega) hz2;by_cases hlt:i<d.segs
 ·have g:((i:Int)<(d.segs:Int))=True:=eq_true (by omega);have gi:=nR (i:=i) (by omega);have gn:IntKind.i64.wrap ((d.base x.seg:Int)+(i:Int))=((d.base x.seg+i:Nat):Int):=by rw[eI (by omega) (by omega)];omega
  have erd:d.rd ((d.base x.seg+i:Nat):Int)=(d.at (d.base x.seg+i),0):=by
   unfold Dk.rd;rw[if_neg (by omega)];rfl
  have hal:=D.ok.at_len (n:=d.base x.seg+i) (by omega);simp only[g,aAn B,cD,reduceIte,cJ,Nat.reduceAdd];refine aO4 (D.ext w) (by omega) x hs λh5 u5=>?_;simp only[gn,cD,reduceIte,cJ,Nat.reduceAdd];refine aJS ((D.ext w).ext u5) _ hb ?_;rw[erd];have ea:cC PG (binOp .add bR (.string (tx (d.secs (d.base x.seg) i).flatten)) (.string (tx (d.at (d.base x.seg+i)))))=some (.string (tx (d.secs (d.base x.seg) (i+1)).flatten)):=by
   rw[aM3];exact jQ (by omega)
  simp only[ea,gi,cD,reduceIte,cJ,Nat.reduceAdd];exact⟨⟨i+1,by omega,rfl,B.ext u5,w.trans u5⟩,by simp[fN,x7];omega⟩
 ·have g:((i:Int)<(d.segs:Int))=False:=eq_false (by omega);obtain rfl:i=d.segs:=by omega
  obtain⟨bv,L⟩:=(D.ext w).b;have bg:cU h' ⟨r1,0,none⟩=some (.int .u64 (x.gen:Int)):=B.cell 0;simp only[g,cY.f0,aR.load,L.size,cA.f0,cI.load,bg,cD,reduceIte,cJ,Nat.reduceAdd];have sl:=Dk.secs_len d (d.base x.seg) d.segs;refine aTP hz (aFs D.ok (by omega)) (by omega) λh6 v G O6 f6 u6=>?_;rw[sl] at O6 ⊢;simp only[cD,reduceIte,cJ,Nat.reduceAdd];exact hk h6 v G O6 (f6.of w) (w.trans u6)
def Wl.ocells(r:Nat)(x:Wl):List Value:=[pT r 0,.int .u64 (x.hd.gen:Int),.int .i64 (x.hd.seg:Int),.int .i64 (x.slot:Int),.int .i64 (x.used:Int),.int .i64 (x.ser:Int),.bool x.ready,.bool x.broken]
structure WoA(a w:Nat)(d:Dk)(x:Wl)(h:PH)(F:List Nat):Prop where
 here:∃Fd,F=w::Fd∧Bx h w (x.ocells a)∧rQ a d h Fd∧w∉Fd
 ok:WOk d x
 ser:x.ser≤x.used
 gen:x.hd.gen<18446744073709551616
def WoA.upd{a w:Nat}{d:Dk}{x:Wl}{h h':PH}{F K:List Nat}(H:WoA a w d x h F)(u:cV K h h')(hK:∀b∈F,b∉K):WoA a w d x h' F:=by
 obtain⟨Fd,rfl,B,D,n⟩:=H.here;exact⟨⟨Fd,rfl,B.upd u (hK w (by simp)),D.upd u (λb hb=>hK b (by simp[hb])),n⟩,H.ok,H.ser,H.gen⟩
def WoA.known{a w:Nat}{d:Dk}{x:Wl}{h:PH}{F:List Nat}(H:WoA a w d x h F):∀b∈F,h b≠none:=by
 obtain⟨Fd,rfl,B,D,n⟩:=H.here;intro b hb;rcases iM.1 hb with rfl|hb
 ·exact B.known
 ·exact D.known b hb
def WoA.good(a w:Nat)(d:Dk)(x:Wl):aHM (WoA a w d x):=⟨λH=>H.known,λH u hK=>H.upd u hK⟩
def WoA.ext{a w:Nat}{d:Dk}{x:Wl}{h h':PH}{F:List Nat}(H:WoA a w d x h F)(u:cX h h'):WoA a w d x h' F:=(WoA.good a w d x).ext H u
structure WoB(a w:Nat)(x:Wl)(h:PH):Prop where
 disk:cU h ⟨w,0,none⟩=some (pT a 0)
 head:cB PG h (loadAt cA (pT w (0+1)))=some x.hd.v
 gen:cU h ⟨w,0+1,none⟩=some (.int .u64 (x.hd.gen:Int))
 slot:cU h ⟨w,0+3,none⟩=some (.int .i64 (x.slot:Int))
 used:cU h ⟨w,0+4,none⟩=some (.int .i64 (x.used:Int))
 ser:cU h ⟨w,0+5,none⟩=some (.int .i64 (x.ser:Int))
 ready:cU h ⟨w,0+6,none⟩=some (.bool x.ready)
 broken:cU h ⟨w,0+7,none⟩=some (.bool x.broken)
def WoB.of{a w:Nat}{x:Wl}{h:PH}(B:Bx h w (x.ocells a)):WoB a w x h:=
 ⟨B.cell 0,cA.agg B (by show 0+1+2≤8;decide),B.cell 1,B.cell 3,B.cell 4,B.cell 5,B.cell 6,B.cell 7⟩
def aKE{x:Wl}(h:x.broken=false){e:Int}(he:e≠13):x.brk e=x:=aRu h he
def aSk{h0 h:PH}{a w:Nat}{d':Dk}{x:Wl}{F0 Fd:List Nat}{e:Int}(B:Bx h w (x.ocells a))(D:rQ a d' h Fd)(n:w∉Fd)(ok:WOk d' x)(ser:x.ser≤x.used)(gen:x.hd.gen<18446744073709551616)(st:eX h0 F0 h (w::Fd))(he:e=13){k:cF}
  (hk:∀h' F',WoA a w d' (x.brk e) h' F'->eX h0 F0 h' F'->k (.int .i64 e) h'):cM PG (cP iY (pT w (0+7)) (.bool true)) h λ_ h2=>k (.int .i64 e) h2:=by
 refine iY.put B (o:=7) (by show 7<8;decide) rfl λh2 B2 u2=>?_;subst he;have B2:Bx h2 w ((x.brk 13).ocells a):=B2;refine hk h2 (w::Fd) ⟨⟨Fd,rfl,B2,D.upd u2 (lH n),n⟩,ok.brk 13,ser,gen⟩ ⟨st.upd.then u2 (λb hb=>?_),st.grow⟩;simp only[iI] at hb;exact st.grow b (by rw[hb];simp)
def aMZ{h:PH}{a w:Nat}{d:Dk}{x:Wl}{F:List Nat}(H:WoA a w d x h F)(s:Tx)(hs:s.length≤1000000)(hb:d.buf.length≤980000){k:cF}
  (hk:∀h' F',WoA a w (gK d x s).1 (gK d x s).2.1 h' F'->eX h F h' F'->k (.int .i64 (gK d x s).2.2) h'):bW PG rX #[pT w 0,.string (tx s)] h k:=by
 apply lI.call;unfold lI;obtain⟨Fd,rfl,B,D,n1⟩:=id H.here;obtain⟨bv,LD⟩:=D.b;have L:=WoB.of B;have hm:=D.ok.many;have h4:=H.ok.four;have hu:=H.ok.used;have hz:=D.ok.size;have hsg:d.segs≤4096:=by unfold Dk.segs;omega
 have hwo:=H.ok.check s;have hkW:=hk;unfold gK at hk;cases hx:x.broken with
 | true=>
  have lb:=L.broken;rw[hx] at lb;rw[if_pos hx] at hk;simp only[cW.f6,iY.load,lb,cD,reduceIte,cJ,Nat.reduceAdd];exact hk h _ H eX.refl
 | false=>
  have lb:=L.broken;rw[hx] at lb;rw[if_neg (by rw[hx];decide)] at hk;by_cases c1:4096<s.length
  ·have g1:((4096:Int)<(s.length:Int))=True:=eq_true (by omega);rw[if_pos ((aBT hz).2 c1),aKE hx (by decide)] at hk;simp only[cW.f6,iY.load,lb,iL,g1,cD,reduceIte,cJ,Nat.reduceAdd];exact hk h _ H eX.refl
  ·have g1:((4096:Int)<(s.length:Int))=False:=eq_false (by omega);have hp0:dQ d.size s.length≠0:=λe=>c1 ((aBT hz).1 e);rw[if_neg hp0] at hk;simp only[cW.f0,cW.f6,iY.load,lb,iL,g1,fV.load,L.disk,cY.f0,aR.load,LD.size,cD,reduceIte,cJ,Nat.reduceAdd];refine aNd d.size s.length (by omega) ?_;refine⟨L.disk,?_⟩;refine aIJ D (by omega) ?_;by_cases c2:d.segs<dQ d.size s.length
   ·have g2:((d.segs:Int)<(dQ d.size s.length:Int))=True:=eq_true (by omega);rw[if_pos c2,aKE hx (by decide)] at hk;simp only[g2,cD,reduceIte,cJ,Nat.reduceAdd];exact hk h _ H eX.refl
   ·have g2:((d.segs:Int)<(dQ d.size s.length:Int))=False:=eq_false (by omega);rw[if_neg c2] at hk;simp only[g2,cW.f1,L.head,cD,reduceIte,cJ,Nat.reduceAdd];refine aTZ x.hd H.gen λh4' u4=>?_;obtain⟨N,hN⟩:∃N,iB x.hd=N:=⟨_,rfl⟩;have hng:=aOT H.gen;have hns:=aIi x.hd;have hnh:=aM1 (h:=x.hd) hz;have hn13:N.2≠13:=by
     rw[←hN];unfold iB;split
     ·show(12:Int)≠13;decide
     ·show(0:Int)≠13;decide
    rw[hN] at hng hns hnh hk ⊢;obtain⟨N1,N2⟩:=N;simp only at hng hns hnh hk hn13;simp only[cD,reduceIte,cJ,Nat.reduceAdd];intro r28 hr28
    try rw[cO]
    refine cA.fill (vs:=N1.cells) hr28 rfl N1.isC λh5 B5 u5=>?_;have e5:=u4.trans u5;by_cases c3:N2=0
    ·have q3:(N2 !=0)=false:=by rw[c3];rfl
     have L5:=WoB.of (B.ext e5);obtain⟨bv5,LD5⟩:=(D.ext e5).b;have n28:r28∉w::Fd:=λhm=>(H.ext u4).known r28 hm hr28;have n28':r28≠w∧r28∉Fd:=by simpa using n28
     have b0:cU h5 ⟨r28,0,none⟩=some (.int .u64 (N1.gen:Int)):=B5.cell 0;rw[if_neg (λe=>e c3)] at hk;simp only[dY,q3,cW.f0,fV.load,L5.disk,cY.f0,aR.load,LD5.size,cA.f0,cI.load,b0,cD,reduceIte,cJ,Nat.reduceAdd];refine aSD d.size N1.gen 0 s hz hng (by decide) hs λh7 v G O7 f7 u7=>?_;have e7:=e5.trans u7;have L7:=WoB.of (B.ext e7);obtain⟨bv7,LD7⟩:=(D.ext e7).b;have B7:=B5.ext u7;simp only[cW.f0,fV.load,L7.disk,cY.f0,aR.load,LD7.size,aAn B7,cD,reduceIte,cJ,Nat.reduceAdd];refine aPc d.size N1 hng (by omega) λh8 u8=>?_;have e8:=e7.trans u8;have L8:=WoB.of (B.ext e8);simp only[cW.f0,fV.load,L8.disk,aAn (B7.ext u8),cD,reduceIte,cJ,Nat.reduceAdd];refine aO4 (D.ext e8) (by omega) N1 hns λh9' u9=>?_;have e9:=e8.trans u9;have L9':=WoB.of (B.ext e9);refine⟨L9'.disk,?_⟩;have fl:(fZ d.size N1.gen 0 s).length=dQ d.size s.length:=kK ..;have hfit:=zZ d h4 hns;have dG:∀b∈G,b∉Fd:=λb hb hf=>D.known b hf (e5.none (f7 b hb));refine aK1 (D.ext e9) (d.base N1.seg) (by omega) ((O7.ext u8).ext u9) dG (by omega) λh9 F9 D9 s9=>?_;obtain⟨B9,n9⟩:=(B.ext e9).step s9 n1;have st9:eX h (w::Fd) h9 (w::F9):=(eX.ext e9).trans (eX.in n1 s9);obtain⟨Bn,mn⟩:=((B7.ext u8).ext u9).step s9 n28'.2;have hpo:=vI (fZ d.size N1.gen 0 s) D.ok (d.base N1.seg);have hpb:=aFM (fZ d.size N1.gen 0 s) d (d.base N1.seg);have hck:=WOk.ck (gen:=N1.gen) D.ok h4 hns hp0 (by omega);have hd':iQ d (d.base N1.seg) (fZ d.size N1.gen 0 s)=nJ d N1 s:=rfl;rw[hd'] at D9 hpo hpb ⊢;have hck:(nJ d N1 s).2=0∨(nJ d N1 s).2=13:=hck;by_cases c4:(nJ d N1 s).2=0
     ·have q4:((nJ d N1 s).2 !=0)=false:=by rw[c4];rfl
      rw[if_neg (λe=>e c4)] at hk;have L9:=WoB.of B9;have hsl:=H.ok.slot;have w1:IntKind.i64.wrap ((1:Int)-(x.slot:Int))=((1-x.slot:Nat):Int):=by rw[eI (by omega) (by omega)];omega
      simp only[dY,q4,cW.f0,cW.f2,fV.load,aR.load,L9.disk,L9.slot,w1,aFj,cD,reduceIte,cJ,Nat.reduceAdd];intro r79 hr79;refine gV ?_
      try rw[cO]
      have O12:=aF3 (h:=h9) (r:=r79) (fQ d.size N1).1;have u12:cX h9 (h9.set r79 (.cells #[.string (tx (fQ d.size N1).1)] bR)):=cV.new hr79;generalize h9.set r79 (.cells #[.string (tx (fQ d.size N1).1)] bR)=h12 at *;have n79:∀b∈[r79],b∉F9:=λb hb hf=>by
       simp only[iI] at hb;rw[hb] at hf;exact D9.known r79 hf hr79
      refine aK1 (D9.ext u12) (1-x.slot) (by omega) O12 n79 (by simp only[iN,kW];omega) λh13 F13 D13 s13=>?_;obtain⟨B13,n13⟩:=(B9.ext u12).step s13 n9;have st13:eX h (w::Fd) h13 (w::F13):=(st9.trans (eX.ext u12)).trans (eX.in n9 s13);obtain⟨En,en⟩:=(Bn.ext u12).step s13 mn;obtain⟨O13,-⟩:=(((O7.ext u8).ext u9).step s9 dG).1.ext u12 |>.step s13 (((O7.ext u8).ext u9).step s9 dG).2;have hpo2:=vI [(fQ d.size N1).1] hpo.1 (1-x.slot);have hio:=aLp [(fQ d.size N1).1] (d:=(nJ d N1 s).1) (1-x.slot) (by rw[hpo.2.2.1];simp only[iN,kW];omega) (λy hy=>by
       simp only[iI] at hy;rw[hy,hpo.2.1];exact(hnh c3).2)
      obtain⟨P,hP⟩:∃P,iQ (nJ d N1 s).1 (1-x.slot) [(fQ d.size N1).1]=P:=⟨_,rfl⟩;rw[hP] at D13 hpo2 hk hio ⊢;have geo:P.1.sectors=d.sectors:=hpo2.2.2.1.trans hpo.2.2.1;by_cases c5:P.2=0
      ·have q5:(P.2 !=0)=false:=by rw[c5];rfl
       rw[if_neg (λe=>e c5)] at hk;have eW:gK d x s=(P.1,⟨N1,1-x.slot,dQ d.size s.length,1,true,false⟩,0):=by
        unfold gK;rw[if_neg (by rw[hx];decide),if_neg hp0,if_neg c2,hN];simp only;rw[if_neg (λe=>e c3),if_neg (λe=>e c4),hP,if_neg (λe=>e c5)]
       rw[eW] at hwo;simp only[dY,q5,cW.f1,cW.f2,cW.f3,cW.f4,cW.f5,aAn En,cD,reduceIte,cJ,Nat.reduceAdd];refine cA.put B13 (vs:=N1.cells) (o:=1) rfl (by show 1+2≤8;decide) N1.isC λh14 B14 u14=>?_;have c14:cU h14 ⟨w,0+3,none⟩=some (.int .i64 (x.slot:Int)):=B14.cell 3;simp only[cW.f2,aR.load,c14,w1,cD,reduceIte,cJ,Nat.reduceAdd];refine aR.put B14 (o:=3) (by show 3<8;decide) rfl λh15 B15 u15=>?_;simp only[aAR O13.slR,fl,cW.f3,cW.f4,cW.f5,cD,reduceIte,cJ,Nat.reduceAdd];refine aR.put B15 (o:=4) (by show 4<8;decide) rfl λh16 B16 u16=>?_;refine aR.put B16 (o:=5) (by show 5<8;decide) rfl λh17 B17 u17=>?_;refine iY.put B17 (o:=6) (by show 6<8;decide) rfl λh18 B18 u18=>?_;have B18:Bx h18 w (Wl.ocells a ⟨N1,1-x.slot,dQ d.size s.length,1,true,x.broken⟩):=B18;rw[hx] at B18;have uu:=(((u14.trans u15).trans u16).trans u17).trans u18;exact hk h18 (w::F13) ⟨⟨F13,rfl,B18,D13.upd uu (lH n13),n13⟩,hwo.1,by show 1≤dQ d.size s.length;omega,hng⟩ ⟨st13.upd.trans (uu.mono λb hb=>.inl (by simp only[iI] at hb;simp[hb])),st13.grow⟩
      ·have q5:(P.2 !=0)=true:=bne_iff_ne.2 c5;rw[if_pos c5] at hk;simp only[dY,q5,cW.f6,cD,reduceIte,cJ,Nat.reduceAdd];exact aSk B13 D13 n13 (H.ok.to hpo2.1 geo) H.ser H.gen st13 (hio.resolve_left c5) hk
     ·have q4:((nJ d N1 s).2 !=0)=true:=bne_iff_ne.2 c4;rw[if_pos c4] at hk;simp only[dY,q4,cW.f6,cD,reduceIte,cJ,Nat.reduceAdd];exact aSk B9 D9 n9 (H.ok.to hpo.1 hpo.2.2.1) H.ser H.gen st9 (hck.resolve_left c4) hk
    ·have q3:(N2 !=0)=true:=bne_iff_ne.2 c3;rw[if_pos c3,aKE hx hn13] at hk;simp only[dY,q3,cD,reduceIte,cJ,Nat.reduceAdd];exact hk h5 _ (H.ext e5) (eX.ext e5)
def aV3(a:Nat):cC PG (build cW #[(0,pT a 0)])=some (.agg (Wl.ocells a Wl.zero).toArray):=by kernel_rfl
def aMp{h0 h:PH}{a w:Nat}{d:Dk}{hd:Hd}{slot us se:Nat}{F0 F:List Nat}(B:Bx h w (Wl.ocells a ⟨hd,slot,us,se,false,false⟩))(D:rQ a d h F)(n1:w∉F)(h4:4≤d.sectors)(hs:hd.seg≤1)(h1:slot≤1)(hg:hd.gen<18446744073709551616)(hb:d.buf.length≤1000000)(st:eX h0 F0 h F)(fw:w∈F0∨h0 w=none){k:cF}
  (hk:∀h' F' v G,WoA a w d (zI d hd slot).1 h' F'->eD h' bR 1 v ((zI d hd slot).2.map kA) G->(∀b∈G,b∉F')->eX h0 F0 h' (F'++G)->k (.tuple #[pT w 0,v,.int .i64 0]) h'):vH k (pT a 0) (pT w 0) h:=by
 unfold vH;have L:=WoB.of B;have hm:=D.ok.many;have hsg:d.segs≤4096:=by unfold Dk.segs;omega
 simp only[cW.f1,L.head,cD,reduceIte,cJ,Nat.reduceAdd];refine aPH D h4 hd hs hb λh7 v G O7 f7 e7=>?_;have sl:=Dk.secs_len d (d.base hd.seg) d.segs;have hle:=aIR (size:=d.size) (gen:=hd.gen) (d.segs+1) (d.secs (d.base hd.seg) d.segs) 0;have hma:=aHv (size:=d.size) (gen:=hd.gen) (d.segs+1) (d.secs (d.base hd.seg) d.segs) 0;rw[sl] at hle;have hw:(zI d hd slot)=(⟨hd,slot,(jR d.size hd.gen (d.segs+1) (d.secs (d.base hd.seg) d.segs) 0).2,(jR d.size hd.gen (d.segs+1) (d.secs (d.base hd.seg) d.segs) 0).1.length,false,false⟩,(jR d.size hd.gen (d.segs+1) (d.secs (d.base hd.seg) d.segs) 0).1):=rfl;rw[hw] at hk;have hok:WOk d (zI d hd slot).1:=WOk.mk' D.ok h4 hs h1;rw[hw] at hok;obtain⟨R,hR⟩:∃R,jR d.size hd.gen (d.segs+1) (d.secs (d.base hd.seg) d.segs) 0=R:=⟨_,rfl⟩;rw[hR] at hk hok O7 hle hma ⊢;have B7:=B.ext e7;have D7:=D.ext e7;simp only[cW.f3,cW.f4,cD,reduceIte,cJ,Nat.reduceAdd];refine aR.put B7 (o:=4) (by show 4<8;decide) rfl λh8 B8 u8=>?_;simp only[aAR O7.slR,cW.f4,cD,reduceIte,cJ,Nat.reduceAdd];refine aR.put B8 (o:=5) (by show 5<8;decide) rfl λh9 B9 u9=>?_;have B9:Bx h9 w (Wl.ocells a ⟨hd,slot,R.2,R.1.length,false,false⟩):=B9;have u89:=u8.trans u9;have nw:w∉G:=λhx=>B.known (f7 w hx);have dG:∀b∈G,b∉F:=λb hb hf=>D.known b hf (f7 b hb);refine hk h9 (w::F) v G ⟨⟨F,rfl,B9,D7.upd u89 (lH n1),n1⟩,hok,hma,hg⟩ (O7.upd u89 (lH nw)) (λb hb hm=>?_) ⟨?_,λb hb=>?_⟩
 ·rcases iM.1 hm with rfl|hm
  ·exact nw hb
  ·exact dG b hb hm
 ·exact(st.upd.trans e7.upd).then u89 (λb hb=>by
   simp only[iI] at hb;rw[hb];exact fw)
 ·simp only[zLT,iM,xA] at hb;rcases hb with rfl|hb|hb
  ·exact fw
  ·exact st.grow b hb
  ·exact st.none (f7 b hb)
def aRS{h:PH}{a:Nat}{d:Dk}{F:List Nat}(D:rQ a d h F)(hb:d.buf.length≤999000){k:cF}
  (bad:∀h' F',rQ a (fL d).1 h' F'->eX h F h' F'->(fL d).2.2≠0->k (.tuple #[.pointer none,.slice none 0 0,.int .i64 (fL d).2.2]) h')
  (hk:∀h' F' w v G,WoA a w (fL d).1 (fL d).2.1.1 h' F'->eD h' bR 1 v ((fL d).2.1.2.map kA) G->(∀b∈G,b∉F')->eX h F h' (F'++G)->(fL d).2.2=0->k (.tuple #[pT w 0,v,.int .i64 0]) h'):bW PG aBW #[pT a 0] h k:=by
 apply sE.call;unfold sE;have hm:=D.ok.many;have hz:=D.ok.size;unfold fL at bad hk;obtain⟨bv,LD⟩:=D.b;by_cases c4:d.sectors<4
 ·have g:((d.sectors:Int)<4)=True:=eq_true (by omega);rw[if_pos c4] at bad;simp only[cY.f1,aR.load,LD.sectors,g,cD,reduceIte,cJ,Nat.reduceAdd];exact bad h F D eX.refl (by show(1:Int)≠0;decide)
 ·have g:((d.sectors:Int)<4)=False:=eq_false (by omega);rw[if_neg c4] at bad hk;simp only[cY.f1,aR.load,LD.sectors,g,cD,reduceIte,cJ,Nat.reduceAdd];refine aLy D (by omega) λh5 F5 D5 st5=>?_;by_cases c5:d.fl.2=0
  ·have q:(d.fl.2 !=0)=false:=by rw[c5];rfl
   rw[if_neg (λe=>e c5)] at bad hk;have eg:d.fl.1.size=d.size:=d.fl_geo.1;have es:d.fl.1.sectors=d.sectors:=d.fl_geo.2;have eb:d.fl.1.buf.length≤999000:=zLE (aRT d) hb;have rd:∀n:Nat,n<d.sectors->d.fl.1.rd (n:Int)=(d.fl.1.at n,0):=λn hn=>by
    unfold Dk.rd;rw[if_neg (by omega)];rfl
   simp only[dY,q,cD,reduceIte,cJ,Nat.reduceAdd];refine aJS D5 0 (by omega) ?_;rw[show d.fl.1.rd 0=(d.fl.1.at 0,0) from rd 0 (by omega)];simp only[cD,reduceIte,cJ,Nat.reduceAdd];refine aJS D5 1 (by omega) ?_;rw[show d.fl.1.rd 1=(d.fl.1.at 1,0) from rd 1 (by omega)];simp only[aV3,cD,reduceIte,cJ,Nat.reduceAdd];intro r17 hr17
   try rw[cO]
   have u6:cX h5 (h5.set r17 (.cells (Value.cells (.agg (Wl.ocells a Wl.zero).toArray)) cW)):=cV.new hr17;have B6:Bx (h5.set r17 (.cells (Value.cells (.agg (Wl.ocells a Wl.zero).toArray)) cW)) r17 (Wl.ocells a Wl.zero):=Bx.new;generalize h5.set r17 (.cells (Value.cells (.agg (Wl.ocells a Wl.zero).toArray)) cW)=h6 at *;have n5:r17∉F5:=λhm=>D5.known r17 hm hr17;have fw:r17∈F∨h r17=none:=st5.none hr17;have al0:=D5.ok.at_len (n:=0) (by omega);have al1:=D5.ok.at_len (n:=1) (by omega);rw[eg] at al0 al1;unfold fS at hz;obtain⟨bv6,LD6⟩:=(D5.ext u6).b;have ls:=LD6.size;rw[eg] at ls;simp only[cY.f0,aR.load,ls,aT2,cD,reduceIte,cJ,Nat.reduceAdd];intro r22 hr22;refine gV ?_
   try rw[cO]
   have O9:=aN1 (h:=h6) (r:=r22) (d.fl.1.at 0) (d.fl.1.at 1);have u9:cX h6 (h6.set r22 (.cells #[.string (tx (d.fl.1.at 0)),.string (tx (d.fl.1.at 1))] bR)):=cV.new hr22;generalize h6.set r22 (.cells #[.string (tx (d.fl.1.at 0)),.string (tx (d.fl.1.at 1))] bR)=h9 at *;refine aQK d.size _ _ O9.slR (by omega) (by omega) λh10 u10=>?_;have e10:=(u6.trans u9).trans u10;have B10:=(B6.ext u9).ext u10;have D10:=D5.ext e10;have st10:=st5.trans (eX.ext (F:=F5) e10);obtain⟨N,hN⟩:∃N,mY d.size (d.fl.1.at 0) (d.fl.1.at 1)=N:=⟨_,rfl⟩;have hno:=aKD d.size (d.fl.1.at 0) (d.fl.1.at 1);have hng:=aLi d.size (d.fl.1.at 0) (d.fl.1.at 1);rw[hN] at bad hk hno hng ⊢;obtain⟨N1,N2⟩:=N;simp only[cW.f1,cW.f2,cD,reduceIte,cJ,Nat.reduceAdd];refine cA.put B10 (vs:=N1.cells) (o:=1) rfl (by show 1+2≤8;decide) N1.isC λh11 B11 u11=>?_;refine aR.put B11 (o:=3) (by show 3<8;decide) rfl λh12 B12 u12=>?_;have c12:cU h12 ⟨r17,0+3,none⟩=some (.int .i64 N2):=B12.cell 3;have u112:=u11.trans u12;have D12:=D10.upd u112 (lH n5);have st12:eX h F h12 F5:=⟨st10.upd.then u112 (λb hb=>by
    simp only[iI] at hb;rw[hb];exact fw),st10.grow⟩
   by_cases c:N2<0
   ·have g:(N2<0)=True:=eq_true c;rw[if_pos c] at bad hk;simp only[cW.f1,cW.f2,aR.load,c12,g,aU5,cD,reduceIte,cJ,Nat.reduceAdd];refine cA.put B12 (vs:=Hd.cells ⟨1,0⟩) (o:=1) rfl (by show 1+2≤8;decide) (Hd.isC _) λh13 B13 u13=>?_;refine aR.put B13 (o:=3) (by show 3<8;decide) rfl λh14 B14 u14=>?_;have B14:Bx h14 r17 (Wl.ocells a ⟨⟨1,0⟩,1,0,0,false,false⟩):=B14;have u134:=u13.trans u14;have D14:=D12.upd u134 (lH n5);have L14:=WoB.of B14;have st14:eX h F h14 F5:=⟨st12.upd.then u134 (λb hb=>by
     simp only[iI] at hb;rw[hb];exact fw),st12.grow⟩
    obtain⟨bv14,LD14⟩:=D14.b;have ls:=LD14.size;rw[eg] at ls;simp only[cY.f0,aR.load,ls,cW.f1,L14.head,cD,reduceIte,cJ,Nat.reduceAdd];refine aPc d.size ⟨1,0⟩ (by decide) (by decide) λh16 e16=>?_;simp only[aFj,cD,reduceIte,cJ,Nat.reduceAdd];intro r61 hr61;refine gV ?_
    try rw[cO]
    have O17:=aF3 (h:=h16) (r:=r61) (fQ d.size ⟨1,0⟩).1;have u17:cX h16 (h16.set r61 (.cells #[.string (tx (fQ d.size ⟨1,0⟩).1)] bR)):=cV.new hr61;generalize h16.set r61 (.cells #[.string (tx (fQ d.size ⟨1,0⟩).1)] bR)=h17 at *;have e17:=e16.trans u17;have n61:∀b∈[r61],b∉F5:=λb hb hf=>by
     simp only[iI] at hb;rw[hb] at hf;exact D14.known r61 hf (e16.none hr61)
    refine aK1 (D14.ext e17) 1 (by decide) O17 n61 (by simp only[iN,kW];omega) λh18 F18 D18 s18=>?_;obtain⟨B18,n18⟩:=(B14.ext e17).step s18 n5;have st18:=(st14.trans (eX.ext e17)).trans s18;obtain⟨P,hP⟩:∃P,iQ d.fl.1 1 [(fQ d.size ⟨1,0⟩).1]=P:=⟨_,rfl⟩;have hpo:=vI [(fQ d.size ⟨1,0⟩).1] D5.ok 1;have hpb:=aFM [(fQ d.size ⟨1,0⟩).1] d.fl.1 1;rw[hP] at bad hk D18 hpo hpb ⊢;by_cases c6:P.2=0
    ·have q6:(P.2 !=0)=false:=by rw[c6];rfl
     rw[if_neg (λe=>e c6)] at hk;simp only[dY,q6,cD,reduceIte,cJ,Nat.reduceAdd];simp only[iN,kW] at hpb;refine aMp B18 D18 n18 (by rw[hpo.2.2.1];omega) (by decide) (by decide) (by decide) (by omega) st18 fw λh' F' v G W O dj st=>?_;exact hk h' F' r17 v G W O dj st rfl
    ·have q6:(P.2 !=0)=true:=bne_iff_ne.2 c6;rw[if_pos c6] at bad;simp only[dY,q6,cD,reduceIte,cJ,Nat.reduceAdd];exact bad h18 F18 D18 st18 c6
   ·have g:(N2<0)=False:=eq_false c;rw[if_neg c] at hk;simp only[cW.f2,aR.load,c12,g,cD,reduceIte,cJ,Nat.reduceAdd];have en:N2=((N2.toNat:Nat):Int):=by omega
    have B12:Bx h12 r17 (Wl.ocells a ⟨N1,N2.toNat,0,0,false,false⟩):=by
     rw[en] at B12;exact B12
    refine aMp B12 D12 n5 (by rw[es];omega) hno.1 (by have:=hno.2;simp only at this;omega) hng (by omega) st12 fw λh' F' v G W O dj st=>?_;exact hk h' F' r17 v G W O dj st rfl
  ·have q:(d.fl.2 !=0)=true:=bne_iff_ne.2 c5;rw[if_pos c5] at bad;simp only[dY,q,cD,reduceIte,cJ,Nat.reduceAdd];exact bad h5 F5 D5 st5 c5
def aNI{h:PH}{q:Pl}(w:q.wf){k:cF}(hbad:¬jI q->∀h',cX h h'->k (.tuple #[.string (tx []),.int .i64 1]) h')(hk:jI q->∀h',cX h h'->k (.tuple #[.string (tx q.bs),.int .i64 0]) h'):bW PG mK #[.agg q.cells.toArray] h k:=by
 apply qT.call;unfold qT;intro r hr
 try rw[cO]
 have u1:cX h (h.set r (.cells (Value.cells (.agg q.cells.toArray)) cG)):=cV.new hr;have B1:Bx (h.set r (.cells (Value.cells (.agg q.cells.toArray)) cG)) r q.cells:=Bx.new;generalize h.set r (.cells (Value.cells (.agg q.cells.toArray)) cG)=h1 at *;have l0:∀{h':PH},cX h1 h'->cB PG h' (loadAt cI (pT r 0))=some (.int .u64 q.h):=λu=>by rw[cI.load,(B1.ext u).cell];rfl
 have l1:∀{h':PH},cX h1 h'->cB PG h' (loadAt aR (pT r 1))=some (.int .i64 q.i):=λu=>by rw[aR.load,(B1.ext u).cell];rfl
 have q0:({data:=#[]}:ByteArray)=tx []:=rfl;by_cases h0:q.i<0
 ·have g:=eq_true h0;simp only[cG.f1,l1 cV.refl,g,q0,cD,reduceIte,cJ,Nat.reduceAdd];exact hbad (λc=>by have:=c.1;omega) _ u1
 have g:=eq_false h0;by_cases h2:65535<q.i
 ·have g2:=eq_true h2;simp only[cG.f1,l1 cV.refl,g,g2,q0,cD,reduceIte,cJ,Nat.reduceAdd];exact hbad (λc=>by have:=c.2;omega) _ u1
 have g2:=eq_false h2;have hk:=hk ⟨by omega,by omega⟩;obtain⟨H,i⟩:=q;obtain⟨w1,w2⟩:=w;simp only at *;obtain⟨H,rfl⟩:=zLm w1;obtain⟨i,rfl⟩:=zLm (Int.not_lt.1 h0);have c1:IntKind.u64.wrap (i:Int)=(i:Int):=jU (by omega) (by omega);simp only[cG.f1,cG.f0,l1 cV.refl,l0 cV.refl,g,g2,aD5,c1,cD,reduceIte,cJ,Nat.reduceAdd];refine lY (by omega) (by decide) λh2 u2=>?_;simp only[l1 u2,eq_self,true_and];refine lY (by omega) (by decide) λh3 u3=>?_;rw[jQ (by simp only[gS];decide)];simp only[cD,reduceIte,cJ,Nat.reduceAdd];unfold Pl.bs at hk;exact hk _ (u1.trans (u2.trans u3))
def zY{i:It}:i.right=true↔aDh i:=by
 unfold It.right aDh;simp only[rZ,aGZ,decide_eq_true_eq];constructor
 ·rintro⟨a,b⟩;exact⟨by omega,by omega,b⟩
 ·rintro⟨a,b,c⟩;exact⟨by omega,c⟩
def aAA{i:Nt}:i.right=true↔aEf i:=by
 unfold Nt.right aEf;simp only[rZ,decide_eq_true_eq,and_assoc]
def aVk{x:Int×Pk}(h:x.2.right=true):(aCv x).length≤84:=by
 have:=(Pk.right_iff.1 h).2.2.2.2;simp only[aCv,Pk.bs,jK,gS,aHA];omega
def aKt(l:List (Int×Pk))(x:Int×Pk):lD (l++[x])=lD l++aCv x:=by
 induction l with
 | nil=>simp[lD]
 | cons y l ih=>simp[lD,ih]
def aFO:∀{l:List (Int×Pk)},(∀x∈l,x.2.right=true)->(lD l).length≤84*l.length
 | [],_=>by simp[lD]
 | x::l,h=>by
  have h1:=aVk (h x (by simp));have h2:=aFO (l:=l) λy hy=>h y (by simp[hy]);simp only[lD,jK,iN];omega
def aM4{h:PH}{v:Value}{l:List It}(V:hC h 5 v (l.map It.cells))(hl:l.length≤100000)(w:∀i∈l,i.p.wf){k:cF}
  (hbad:¬(l.length≤255∧∀i∈l,i.right=true)->∀h',cX h h'->k (.tuple #[.string (tx []),.int .i64 1]) h') (hk:l.length≤255->(∀i∈l,i.right=true)->∀h',cX h h'->k (.tuple #[.string (tx (rT (l.map It.x))),.int .i64 0]) h'):
  bW PG qV #[v] h k:=by
 have lx:=V.len (t':=aR) bY.und;rw[iF] at lx;have q0:({data:=#[]}:ByteArray)=tx []:=rfl;apply qL.call;unfold qL;by_cases h2:255<l.length
 ·have g:((255:Int)<(l.length:Int))=True:=eq_true (by omega);simp only[lx,g,q0,cD,reduceIte,cJ,Nat.reduceAdd];exact hbad (λc=>by have:=c.1;omega) _ cV.refl
 have g:((255:Int)<(l.length:Int))=False:=eq_false (by omega);have c1:IntKind.u64.wrap (l.length:Int)=(l.length:Int):=jU (by omega) (by omega);simp only[lx,g,aD5,c1,cD,reduceIte,cJ,Nat.reduceAdd];refine lY (by omega) (by decide) λh2 u2=>?_;refine⟨λvs h'=>∃i:Nat,i≤l.length∧vs=[v,.string (tx (be l.length 1++lD ((l.take i).map It.x))),.int .i64 (i:Int)]∧cX h h'∧∀y∈l.take i,y.right=true,fN l.length 2,⟨0,by omega,by simp[lD],u2,by simp⟩,?_⟩;rintro ρ h' ⟨i,hi,hvs,u,hr⟩;simp only[hM,jA,kP,and_true] at hvs;obtain⟨e0,e1,e2⟩:=hvs;unfold aD2;rw[e0,e1,e2];by_cases hlt:i<l.length
 ·have hd:((i:Int)<(l.length:Int))=True:=by apply eq_true;omega
  obtain⟨m,hm⟩:∃m,l[i]? =some m:=⟨_,kV hlt⟩;have hmem:m∈l:=aAB hm;have look:∃b o,cC PG (indexAt bY v (.int .i64 (i:Int)))=some (pT b o)∧∀{h'':PH},cX h h''->cB PG h'' (loadAt cE (pT b o))=some (m.val)∧cB PG h'' (loadAt aR (pT b (o+4)))=some (.int .i64 m.g)∧cB PG h'' (loadAt bX (pT b o))=some (.agg m.p.cells.toArray):=by
   obtain⟨b,o,cs,e',fr,h1,hb,hle,hex⟩:=V.at bY.und cE.info cE.size (k:=.i64) (j:=(i:Int)) (r:=m.cells) (by omega) (by rw[wV,wU,hm];rfl);have hd:∀i n,i+n≤5->(cs.extract (o+i) (o+i+n)).toList=(m.cells.drop i).take n:=λi n hi=>by
    rw[←hex];simp only[zLD,zLx,aB0,zLy,pN,aH8];congr 1;omega
   refine⟨b,o,h1,fun {h''} u=>?_⟩;have hb':=u.get hb;refine⟨?_,?_,?_⟩
   ·rw[cE.loadAgg hb' hle];congr 2;exact zLw (hd 0 5 (by decide))
   ·rw[aR.load];unfold cU;simp only[hb'];have:=congrArg (λl:List Value=>l[0]?) (hd 4 1 (by decide));simp only[zLD,zLx,zLP,aB0,aEV,aJq] at this;simpa[It.cells,Pk.cells] using this
   ·rw[bX.loadAgg hb' (by omega)];congr 2;exact zLw (hd 0 4 (by decide))
  obtain⟨b,o,a1,a2⟩:=look;have ei:=nR (i:=i) (by omega);have wm:=w m hmem;simp only[lx,hd,a1,(a2 u).1,cD,reduceIte,cJ,Nat.reduceAdd];refine aLN m wm.1 wm.2.2.1 λh3 u3=>?_;have e3:=u.trans u3;by_cases hm2:m.right=true
  ·have ok:=zY.1 hm2;have hp:m.p.right=true:=ok.2.2;obtain⟨n,hn⟩:∃n:Nat,m.g=(n:Int):=zLm (by have:=ok.1;omega);have ex:m.x=((n:Int),m.p):=by rw[aMI ok,hn]
   have hn':n≤255:=by have:=ok.2.1;omega
   have c2:IntKind.u64.wrap (n:Int)=(n:Int):=jU (by omega) (by omega);have hlen:(lD ((l.take i).map It.x)).length≤84*255:=by
    have:=aFO (l:=(l.take i).map It.x) (by
     simp only[aIK];intro y hy;have oy:=zY.1 (hr y hy);rw[aMI oy];exact oy.2.2)
    rw[iF,mH] at this;omega
   simp only[hm2,cE.f0,cE.f1,(a2 e3).2.1,(a2 e3).2.2,hn,aD5,c2,cD,reduceIte,cJ,Nat.reduceAdd];refine lY (by omega) (by decide) λh4 u4=>?_;have e4:=e3.trans u4;have s1:cC PG (binOp .add bR (.string (tx (be l.length 1++lD ((l.take i).map It.x)))) (.string (tx (be n 1))))=some (.string (tx ((be l.length 1++lD ((l.take i).map It.x))++be n 1))):=jQ (by simp only[gS,jK];omega);simp only[(a2 e4).2.2,s1,eq_self,true_and,cD,reduceIte,cJ,Nat.reduceAdd];refine aLb wm hp λh5 u5=>?_;have hpl:m.p.bs.length≤84:=by
    have:=(Pk.right_iff.1 hp).2.2.2.2;simp only[Pk.bs,jK,gS,aHA];omega
   have s2:cC PG (binOp .add bR (.string (tx ((be l.length 1++lD ((l.take i).map It.x))++be n 1))) (.string (tx m.p.bs)))=some (.string (tx (be l.length 1++lD ((l.take (i+1)).map It.x)))):=by
    rw[jQ (by simp only[gS,jK];omega),zLR,hm];simp only[Option.toList,wA,hM,jA,aKt,ex,aCv,wU,uV]
   simp only[s2,ei,cD,reduceIte,cJ,Nat.reduceAdd];refine⟨⟨i+1,by omega,rfl,e4.trans u5,λy hy=>?_⟩,by simp[fN,e2];omega⟩;rw[zLR,hm] at hy;rcases xA.1 hy with hy|hy
   ·exact hr y hy
   ·simp at hy;subst hy;exact hm2
  ·have hf:m.right=false:=by simpa using hm2
   simp only[hf,q0,cD,reduceIte,cJ,Nat.reduceAdd];exact hbad (λc=>hm2 (c.2 m hmem)) _ e3
 ·have hd:((i:Int)<(l.length:Int))=False:=by apply eq_false;omega
  rw[rN (by omega)] at hr e1 ⊢;simp only[lx,hd,cD,reduceIte,cJ,Nat.reduceAdd];have hk:=hk (by omega) hr _ u;unfold rT at hk;rw[iF] at hk;exact hk
def aNS{h:PH}{v:Value}{l:List Nt}(V:hC h 5 v (l.map Nt.cells))(hl:l.length≤100000)(w:∀i∈l,i.p.wf){k:cF}
  (hbad:¬(l.length≤255∧∀i∈l,i.right=true)->∀h',cX h h'->k (.tuple #[.string (tx []),.int .i64 1]) h') (hk:l.length≤255->(∀i∈l,i.right=true)->∀h',cX h h'->k (.tuple #[.string (tx (rT (l.map Nt.x))),.int .i64 0]) h'):
  bW PG qS #[v] h k:=by
 have lx:=V.len (t':=aR) cT.und;rw[iF] at lx;have q0:({data:=#[]}:ByteArray)=tx []:=rfl;apply qN.call;unfold qN;by_cases h2:255<l.length
 ·have g:((255:Int)<(l.length:Int))=True:=eq_true (by omega);simp only[lx,g,q0,cD,reduceIte,cJ,Nat.reduceAdd];exact hbad (λc=>by have:=c.1;omega) _ cV.refl
 have g:((255:Int)<(l.length:Int))=False:=eq_false (by omega);have c1:IntKind.u64.wrap (l.length:Int)=(l.length:Int):=jU (by omega) (by omega);simp only[lx,g,aD5,c1,cD,reduceIte,cJ,Nat.reduceAdd];refine lY (by omega) (by decide) λh2 u2=>?_;refine⟨λvs h'=>∃i:Nat,i≤l.length∧vs=[v,.string (tx (be l.length 1++lD ((l.take i).map Nt.x))),.int .i64 (i:Int)]∧cX h h'∧∀y∈l.take i,y.right=true,fN l.length 2,⟨0,by omega,by simp[lD],u2,by simp⟩,?_⟩;rintro ρ h' ⟨i,hi,hvs,u,hr⟩;simp only[hM,jA,kP,and_true] at hvs;obtain⟨e0,e1,e2⟩:=hvs;unfold aEC;rw[e0,e1,e2];by_cases hlt:i<l.length
 ·have hd:((i:Int)<(l.length:Int))=True:=by apply eq_true;omega
  obtain⟨m,hm⟩:∃m,l[i]? =some m:=⟨_,kV hlt⟩;have hmem:m∈l:=aAB hm;have look:∃b o,cC PG (indexAt cT v (.int .i64 (i:Int)))=some (pT b o)∧∀{h'':PH},cX h h''->cB PG h'' (loadAt cK (pT b o))=some (.agg m.cells.toArray)∧cB PG h'' (loadAt aR (pT b o))=some (.int .i64 m.k)∧cB PG h'' (loadAt bX (pT b (o+1)))=some (.agg m.p.cells.toArray):=by
   obtain⟨b,o,cs,e',fr,h1,hb,hle,hex⟩:=V.at cT.und cK.info cK.size (k:=.i64) (j:=(i:Int)) (r:=m.cells) (by omega) (by rw[wV,wU,hm];rfl);have hd:∀i n,i+n≤5->(cs.extract (o+i) (o+i+n)).toList=(m.cells.drop i).take n:=λi n hi=>by
    rw[←hex];simp only[zLD,zLx,aB0,zLy,pN,aH8];congr 1;omega
   refine⟨b,o,h1,fun {h''} u=>?_⟩;have hb':=u.get hb;refine⟨?_,?_,?_⟩
   ·rw[cK.loadAgg hb' hle];congr 2;exact zLw (hd 0 5 (by decide))
   ·rw[aR.load];unfold cU;simp only[hb'];have:=congrArg (λl:List Value=>l[0]?) (hd 0 1 (by decide));simp only[zLD,zLx,zLP,aB0,aEV,aJq] at this;simpa[Nt.cells,Pk.cells] using this
   ·rw[bX.loadAgg hb' (by omega)];congr 2;exact zLw (hd 1 4 (by decide))
  obtain⟨b,o,a1,a2⟩:=look;have ei:=nR (i:=i) (by omega);have wm:=w m hmem;simp only[lx,hd,a1,(a2 u).1,cD,reduceIte,cJ,Nat.reduceAdd];refine aLm m wm.1 wm.2.2.1 λh3 u3=>?_;have e3:=u.trans u3;by_cases hm2:m.right=true
  ·have ok:=aAA.1 hm2;have hp:m.p.right=true:=ok.2.2;obtain⟨n,hn⟩:∃n:Nat,m.k=(n:Int):=zLm (by have:=ok.1;omega);have ex:m.x=((n:Int),m.p):=by rw[aMa ok,hn]
   have hn':n≤255:=by have:=ok.2.1;omega
   have c2:IntKind.u64.wrap (n:Int)=(n:Int):=jU (by omega) (by omega);have hlen:(lD ((l.take i).map Nt.x)).length≤84*255:=by
    have:=aFO (l:=(l.take i).map Nt.x) (by
     simp only[aIK];intro y hy;have oy:=aAA.1 (hr y hy);rw[aMa oy];exact oy.2.2)
    rw[iF,mH] at this;omega
   simp only[hm2,cK.f0,cK.f1,(a2 e3).2.1,(a2 e3).2.2,hn,aD5,c2,cD,reduceIte,cJ,Nat.reduceAdd];refine lY (by omega) (by decide) λh4 u4=>?_;have e4:=e3.trans u4;have s1:cC PG (binOp .add bR (.string (tx (be l.length 1++lD ((l.take i).map Nt.x)))) (.string (tx (be n 1))))=some (.string (tx ((be l.length 1++lD ((l.take i).map Nt.x))++be n 1))):=jQ (by simp only[gS,jK];omega);simp only[(a2 e4).2.2,s1,eq_self,true_and,cD,reduceIte,cJ,Nat.reduceAdd];refine aLb wm hp λh5 u5=>?_;have hpl:m.p.bs.length≤84:=by
    have:=(Pk.right_iff.1 hp).2.2.2.2;simp only[Pk.bs,jK,gS,aHA];omega
   have s2:cC PG (binOp .add bR (.string (tx ((be l.length 1++lD ((l.take i).map Nt.x))++be n 1))) (.string (tx m.p.bs)))=some (.string (tx (be l.length 1++lD ((l.take (i+1)).map Nt.x)))):=by
    rw[jQ (by simp only[gS,jK];omega),zLR,hm];simp only[Option.toList,wA,hM,jA,aKt,ex,aCv,wU,uV]
   simp only[s2,ei,cD,reduceIte,cJ,Nat.reduceAdd];refine⟨⟨i+1,by omega,rfl,e4.trans u5,λy hy=>?_⟩,by simp[fN,e2];omega⟩;rw[zLR,hm] at hy;rcases xA.1 hy with hy|hy
   ·exact hr y hy
   ·simp at hy;subst hy;exact hm2
  ·have hf:m.right=false:=by simpa using hm2
   simp only[hf,q0,cD,reduceIte,cJ,Nat.reduceAdd];exact hbad (λc=>hm2 (c.2 m hmem)) _ e3
 ·have hd:((i:Int)<(l.length:Int))=False:=by apply eq_false;omega
  rw[rN (by omega)] at hr e1 ⊢;simp only[lx,hd,cD,reduceIte,cJ,Nat.reduceAdd];have hk:=hk (by omega) hr _ u;unfold rT at hk;rw[iF] at hk;exact hk
def ixQ{r o i:Nat}(hi:i<2):cC PG (indexAt cR (pT r o) (.int .i64 (i:Int)))=some (pT r (o+i*2)):=by
 have ix:=sM (P:=PG) (t:=cR) (b:=r) (o:=o) (k:=.i64) (j:=(i:Int)) cR.und cG.info cG.size (by omega) (by omega);rw[ix,wU]
def aVR{r o:Nat}:cC PG (indexAt cR (pT r o) (.int .i64 0))=some (pT r o):=ixQ (i:=0) (by decide)
def aWE{r o:Nat}:cC PG (indexAt cR (pT r o) (.int .i64 1))=some (pT r (o+2)):=ixQ (i:=1) (by decide)
def lC.neq{h:PH}{x y:Operand}(p q p' q':Pl):cB PG h (fJ .neq cR x y (lC p q) (lC p' q'))=some (.bool (!decide (p=p'∧q=q'))):=by
 refine aJY (by kernel_rfl) ?_;rw[aLj cR.und cG.info cG.size (λj=>if j=0 then decide (p=p') else decide (q=q'))]
 ·congr 1;simp[List.range,List.range.loop]
 ·intro j hj;have:j=0∨j=1:=by omega
  rcases this with rfl|rfl
  ·exact⟨_,_,aAE cG.und rfl cG.info cG.size,aAE cG.und rfl cG.info cG.size,Pl.eqIn (d:=9997) p p'⟩
  ·exact⟨_,_,aAE cG.und rfl cG.info cG.size,aAE cG.und rfl cG.info cG.size,Pl.eqIn (d:=9997) q q'⟩
def aIh{h:PH}{q:Pl}(w:q.wf){k:cF}(hk:∀h' s e,(e=0∧jI q∨e=1∧¬jI q)->s.length≤100000->cX h h'->k (.tuple #[.string (tx s),.int .i64 e]) h'):bW PG mK #[.agg q.cells.toArray] h k:=
 aNI w (λc h' u=>hk h' [] 1 (.inr ⟨rfl,c⟩) (by simp) u) (λc h' u=>hk h' _ 0 (.inl ⟨rfl,c⟩) (by simp[Pl.bs,gS]) u)
def aQI{h:PH}{v:Value}{l:List It}(V:hC h 5 v (l.map It.cells))(hl:l.length≤100000)(w:∀i∈l,i.p.wf){k:cF}
  (hk:∀h' s e,(e=0∧(∀i∈l,aDh i)∨e=1∧¬(l.length≤255∧∀i∈l,aDh i))->s.length≤100000->cX h h'->k (.tuple #[.string (tx s),.int .i64 e]) h'):bW PG qV #[v] h k:=
 aM4 V hl w (λc h' u=>hk h' [] 1 (.inr ⟨rfl,λd=>c ⟨d.1,λi hi=>zY.2 (d.2 i hi)⟩⟩) (by simp) u) (λc d h' u=>hk h' _ 0 (.inl ⟨rfl,λi hi=>zY.1 (d i hi)⟩) (by
  have:=aFO (l:=l.map It.x) (by
   simp only[aIK];intro y hy;rw[aMI (zY.1 (d y hy))];exact(zY.1 (d y hy)).2.2)
  simp only[rT,jK,gS,iF] at *;omega) u)
def aQc{h:PH}{v:Value}{l:List Nt}(V:hC h 5 v (l.map Nt.cells))(hl:l.length≤100000)(w:∀i∈l,i.p.wf){k:cF}
  (hk:∀h' s e,(e=0∧(∀i∈l,aEf i)∨e=1∧¬(l.length≤255∧∀i∈l,aEf i))->s.length≤100000->cX h h'->k (.tuple #[.string (tx s),.int .i64 e]) h'):bW PG qS #[v] h k:=
 aNS V hl w (λc h' u=>hk h' [] 1 (.inr ⟨rfl,λd=>c ⟨d.1,λi hi=>aAA.2 (d.2 i hi)⟩⟩) (by simp) u) (λc d h' u=>hk h' _ 0 (.inl ⟨rfl,λi hi=>aAA.1 (d i hi)⟩) (by
  have:=aFO (l:=l.map Nt.x) (by
   simp only[aIK];intro y hy;rw[aMa (aAA.1 (d y hy))];exact(aAA.1 (d y hy)).2.2)
  simp only[rT,jK,gS,iF] at *;omega) u)
def aRF{h:PH}{r:Rc}{v vn:Value}(V:jL h v r.s.its)(VN:yC h vn r.ns)(wf:r.wf)(hi:r.s.its.length≤100000)(hn:r.ns.length≤100000){k:cF}
  (hk:∀h' s e,(e=0∧wY r∨e=1∧¬wY r)->cX h h'->k (.tuple #[.string (tx s),.int .i64 e]) h'):bW PG qM #[r.v v vn] h k:=by
 apply qU.call;unfold qU;intro r1 hr1
 try rw[cO]
 have u1:cX h (h.set r1 (.cells (Value.cells (r.v v vn)) bT)):=cV.new hr1;have B1:Bx (h.set r1 (.cells (Value.cells (r.v v vn)) bT)) r1 (r.cells v vn):=Bx.new;generalize h.set r1 (.cells (Value.cells (r.v v vn)) bT)=h1 at *;have q0:({data:=#[]}:ByteArray)=tx []:=rfl;have q1:({data:=#[1]}:ByteArray)=tx [1]:=rfl;have q2:({data:=#[2]}:ByteArray)=tx [2]:=rfl;have lk:∀{h':PH},cX h1 h'->cB PG h' (loadAt aR (pT r1 0))=some (.int .i64 r.k):=λu=>by rw[aR.load,(B1.ext u).cell];rfl
 have lp0:∀{h':PH},cX h1 h'->cB PG h' (loadAt cG (pT r1 1))=some (.agg r.s.p0.cells.toArray):=λu=>aBs (B1.ext u) rfl;have lp1:∀{h':PH},cX h1 h'->cB PG h' (loadAt cG (pT r1 3))=some (.agg r.s.p1.cells.toArray):=λu=>aBs (B1.ext u) rfl;have ltw:∀{h':PH},cX h1 h'->cB PG h' (loadAt cR (pT r1 1))=some (lC r.s.p0 r.s.p1):=λu=>aG9 (B1.ext u) rfl;have lit:∀{h':PH},cX h1 h'->cB PG h' (loadAt bY (pT r1 5))=some v:=λu=>by rw[bY.load,(B1.ext u).cell];rfl
 have lch:∀{h':PH},cX h1 h'->cB PG h' (loadAt aR (pT r1 6))=some (.int .i64 r.ch):=λu=>by rw[aR.load,(B1.ext u).cell];rfl
 have lpl:∀{h':PH},cX h1 h'->cB PG h' (loadAt cG (pT r1 7))=some (.agg r.pl.cells.toArray):=λu=>aBs (B1.ext u) rfl;have lph:∀{h':PH},cX h1 h'->cB PG h' (loadAt cI (pT r1 7))=some (.int .u64 r.pl.h):=λu=>by rw[cI.load,(B1.ext u).cell];rfl
 have lpi:∀{h':PH},cX h1 h'->cB PG h' (loadAt aR (pT r1 8))=some (.int .i64 r.pl.i):=λu=>by rw[aR.load,(B1.ext u).cell];rfl
 have lns:∀{h':PH},cX h1 h'->cB PG h' (loadAt cT (pT r1 9))=some vn:=λu=>by rw[cT.load,(B1.ext u).cell];rfl
 have li:=It.len V;have ln:=Nt.len VN;by_cases k1:r.k=1
 ·have kk:(r.k==1)=true:=by simp[k1]
  have notok:∀{h':PH},cX h1 h'->¬wY r->k (.tuple #[.string (tx []),.int .i64 1]) h':=λu c=>hk _ [] 1 (.inr ⟨rfl,c⟩) (u1.trans u);simp only[bT.f0,bT.f1,aT.f0,aT.f1,aVR,aWE,iP,Nat.reduceAdd,lk cV.refl,fO,kk,lp0 cV.refl,cD,reduceIte,cJ,Nat.reduceAdd];refine aIh wf.s.a λh2 s0 e0 c0 g0 u2=>?_;simp only[lp1 u2,cD,reduceIte,cJ,Nat.reduceAdd];refine aIh wf.s.b λh3 s1 e1 c1 g1 u3=>?_;have e3:=u2.trans u3;simp only[lit e3,cD,reduceIte,cJ,Nat.reduceAdd];refine aQI (V.ext (u1.trans e3)) hi wf.s.i λh4 s2 e2 c2 g2 u4=>?_;have e4:=e3.trans u4;rcases c0 with⟨rfl,c0⟩|⟨rfl,c0⟩
  case inr=>
   have n1:((1:Int) !=0)=true:=by decide
   simp only[dY,n1,q0,cD,reduceIte,cJ,Nat.reduceAdd];exact notok e4 λc=>c0 (c.a k1).1
  rcases c1 with⟨rfl,c1⟩|⟨rfl,c1⟩
  case inr=>
   have n1:((1:Int) !=0)=true:=by decide
   simp only[dY,n1,q0,cD,reduceIte,cJ,Nat.reduceAdd];exact notok e4 λc=>c1 (c.a k1).2.1
  rcases c2 with⟨rfl,c2⟩|⟨rfl,c2⟩
  case inr=>
   have n1:((1:Int) !=0)=true:=by decide
   simp only[dY,n1,q0,cD,reduceIte,cJ,Nat.reduceAdd];exact notok e4 λc=>c2 ⟨by have:=(vV c.plain k1).2.2.2;omega,(c.a k1).2.2⟩
  by_cases d1:40<r.s.its.length
  ·have g:((40:Int)<(r.s.its.length:Int))=True:=eq_true (by omega);simp only[dY,bT.f1,aT.f1,lit e4,li,g,q0,iP,Nat.reduceAdd,cD,reduceIte,cJ,Nat.reduceAdd];exact notok e4 λc=>by have:=(vV c.plain k1).2.2.2;omega
  have g:((40:Int)<(r.s.its.length:Int))=False:=eq_false (by omega);by_cases d2:r.ch=0
  case neg=>
   have g2:(r.ch !=0)=true:=by simp[d2]
   simp only[dY,bT.f1,bT.f2,aT.f1,lit e4,li,g,lch e4,g2,q0,iP,Nat.reduceAdd,cD,reduceIte,cJ,Nat.reduceAdd];exact notok e4 λc=>d2 (vV c.plain k1).1
  have g2:(r.ch !=0)=false:=by simp[d2]
  by_cases d3:r.pl.h=0
  case neg=>
   have g3:(r.pl.h !=0)=true:=by simp[d3]
   simp only[dY,bT.f1,bT.f2,bT.f3,aT.f1,cG.f0,lit e4,li,g,lch e4,g2,lph e4,g3,q0,iP,Nat.reduceAdd,cD,reduceIte,cJ,Nat.reduceAdd];exact notok e4 λc=>d3 (by rw[(vV c.plain k1).2.1];rfl)
  have g3:(r.pl.h !=0)=false:=by simp[d3]
  by_cases d4:r.pl.i=0
  case neg=>
   have g4:(r.pl.i !=0)=true:=by simp[d4]
   simp only[dY,bT.f1,bT.f2,bT.f3,aT.f1,cG.f0,cG.f1,lit e4,li,g,lch e4,g2,lph e4,g3,lpi e4,g4,q0,iP,Nat.reduceAdd,cD,reduceIte,cJ,Nat.reduceAdd];exact notok e4 λc=>d4 (by rw[(vV c.plain k1).2.1];rfl)
  have g4:(r.pl.i !=0)=false:=by simp[d4]
  by_cases d5:0<r.ns.length
  ·have g5:((0:Int)<(r.ns.length:Int))=True:=eq_true (by omega);simp only[dY,bT.f1,bT.f2,bT.f3,bT.f4,aT.f1,cG.f0,cG.f1,lit e4,li,g,lch e4,g2,lph e4,g3,lpi e4,g4,lns e4,ln,g5,q0,iP,Nat.reduceAdd,cD,reduceIte,cJ,Nat.reduceAdd];exact notok e4 λc=>by rw[(vV c.plain k1).2.2.1] at d5;simp at d5
  have g5:((0:Int)<(r.ns.length:Int))=False:=eq_false (by omega);have ok:wY r:=by
   refine⟨?_,λ_=>⟨c0,c1,c2⟩,λh2=>by rw[k1] at h2;cases h2⟩;unfold Rc.plain;rw[if_pos k1];have e5:r.ns.length=0:=by omega
   have e6:r.pl=Pl.zero:=by
    have:∀q:Pl,q.h=0->q.i=0->q=Pl.zero:=λq a b=>by
     obtain⟨x,y⟩:=q;simp only at a b;subst a b;rfl
    exact this _ d3 d4
   simp only[d2,e5,e6,decide_true,Bool.and_true,zLo,decide_eq_true_eq];omega
  have a1:cC PG (binOp .add bR (.string (tx [1])) (.string (tx s0)))=some (.string (tx ([1]++s0))):=jQ (by simp only[iN,kW];omega);have a2:cC PG (binOp .add bR (.string (tx ([1]++s0))) (.string (tx s1)))=some (.string (tx (([1]++s0)++s1))):=jQ (by simp only[jK,iN,kW];omega);have a3:cC PG (binOp .add bR (.string (tx (([1]++s0)++s1))) (.string (tx s2)))=some (.string (tx ((([1]++s0)++s1)++s2))):=jQ (by simp only[jK,iN,kW];omega);simp only[dY,bT.f1,bT.f2,bT.f3,bT.f4,aT.f1,cG.f0,cG.f1,lit e4,li,g,lch e4,g2,lph e4,g3,lpi e4,g4,lns e4,ln,g5,q1,a1,a2,a3,iP,Nat.reduceAdd,cD,reduceIte,cJ,Nat.reduceAdd];exact hk _ _ 0 (.inl ⟨rfl,ok⟩) (u1.trans e4)
 have kk:(r.k==1)=false:=by simp[k1]
 by_cases k2:r.k=2
 case neg=>
  have kk2:(r.k==2)=false:=by simp[k2]
  simp only[bT.f0,lk cV.refl,fO,kk,kk2,q0,cD,reduceIte,cJ,Nat.reduceAdd];exact hk _ _ 1 (.inr ⟨rfl,λc=>by have:=(qQ c.plain k1).1;exact k2 this⟩) u1
 have kk2:(r.k==2)=true:=by simp[k2]
 have notok:∀{h':PH},cX h1 h'->¬wY r->k (.tuple #[.string (tx []),.int .i64 1]) h':=λu c=>hk _ [] 1 (.inr ⟨rfl,c⟩) (u1.trans u);simp only[bT.f0,bT.f3,lk cV.refl,fO,kk,kk2,lpl cV.refl,iP,cD,reduceIte,cJ,Nat.reduceAdd];refine aIh wf.pl λh2 s0 e0 c0 g0 u2=>?_;simp only[bT.f4,lns u2,iP,cD,reduceIte,cJ,Nat.reduceAdd];refine aQc (VN.ext (u1.trans u2)) hn wf.n λh4 s2 e2 c2 g2 u4=>?_;have e4:=u2.trans u4;rcases c0 with⟨rfl,c0⟩|⟨rfl,c0⟩
 case inr=>
  have n1:((1:Int) !=0)=true:=by decide
  simp only[dY,n1,q0,cD,reduceIte,cJ,Nat.reduceAdd];exact notok e4 λc=>c0 (c.b k2).1
 rcases c2 with⟨rfl,c2⟩|⟨rfl,c2⟩
 case inr=>
  have n1:((1:Int) !=0)=true:=by decide
  simp only[dY,n1,q0,cD,reduceIte,cJ,Nat.reduceAdd];exact notok e4 λc=>c2 ⟨by have:=(qQ c.plain k1).2.2.2;omega,(c.b k2).2⟩
 by_cases d1:16<r.ns.length
 ·have g:((16:Int)<(r.ns.length:Int))=True:=eq_true (by omega);simp only[dY,bT.f4,lns e4,ln,g,q0,iP,Nat.reduceAdd,cD,reduceIte,cJ,Nat.reduceAdd];exact notok e4 λc=>by have:=(qQ c.plain k1).2.2.2;omega
 have g:((16:Int)<(r.ns.length:Int))=False:=eq_false (by omega);by_cases d2:r.ch<0
 ·have f2:=eq_true d2;simp only[dY,bT.f4,bT.f2,lns e4,ln,g,lch e4,f2,q0,iP,Nat.reduceAdd,cD,reduceIte,cJ,Nat.reduceAdd];exact notok e4 λc=>by have:=(qQ c.plain k1).2.2.1;omega
 have f2:=eq_false d2;by_cases d3:1<r.ch
 ·have f3:=eq_true d3;simp only[dY,bT.f4,bT.f2,lns e4,ln,g,lch e4,f2,f3,q0,iP,Nat.reduceAdd,cD,reduceIte,cJ,Nat.reduceAdd];exact notok e4 λc=>by have:=(qQ c.plain k1).2.2.1;omega
 have f3:=eq_false d3;by_cases d4:0<r.s.its.length
 ·have f4:((0:Int)<(r.s.its.length:Int))=True:=eq_true (by omega);simp only[dY,bT.f4,bT.f2,bT.f1,aT.f1,lns e4,ln,g,lch e4,f2,f3,lit e4,li,f4,q0,iP,Nat.reduceAdd,cD,reduceIte,cJ,Nat.reduceAdd];exact notok e4 λc=>by rw[(qQ c.plain k1).2.1] at d4;simp[Dm.zero] at d4
 have f4:((0:Int)<(r.s.its.length:Int))=False:=eq_false (by omega);by_cases d5:r.s.p0=Pl.zero∧r.s.p1=Pl.zero
 case neg=>
  have f5:decide (r.s.p0=Pl.zero∧r.s.p1=Pl.zero)=false:=by simpa using d5
  simp only[dY,bT.f4,bT.f2,bT.f1,aT.f1,aT.f0,lns e4,ln,g,lch e4,f2,f3,lit e4,li,f4,ltw e4,aHT,lC.neq,f5,q0,iP,Nat.reduceAdd,cD,reduceIte,cJ,Nat.reduceAdd];exact notok e4 λc=>d5 (by rw[(qQ c.plain k1).2.1];exact⟨rfl,rfl⟩)
 have f5:decide (r.s.p0=Pl.zero∧r.s.p1=Pl.zero)=true:=by simpa using d5
 have ok:wY r:=by
  refine⟨?_,λh1=>absurd h1 k1,λ_=>⟨c0,c2⟩⟩;unfold Rc.plain;rw[if_neg k1,if_pos k2,f5];have e5:r.s.its.length=0:=by omega
  have e6:r.ch=0∨r.ch=1:=by omega
  simp only[e5,decide_true,zLo,rZ,aGZ,decide_eq_true_eq];exact⟨e6,by omega⟩
 obtain⟨c,hc⟩:∃c:Nat,r.ch=(c:Int):=zLm (by omega);have hc1:c≤1:=by omega
 have cw:IntKind.u64.wrap (c:Int)=(c:Int):=jU (by omega) (by omega);rw[hc] at f2 f3 lch;simp only[dY,bT.f4,bT.f2,bT.f1,aT.f1,aT.f0,lns e4,ln,g,lch e4,f2,f3,lit e4,li,f4,ltw e4,aHT,lC.neq,f5,aD5,cw,iP,Nat.reduceAdd,cD,reduceIte,cJ,Nat.reduceAdd];refine lY (by omega) (by decide) λh5 u5=>?_;have a1:cC PG (binOp .add bR (.string (tx [2])) (.string (tx (be c 1))))=some (.string (tx ([2]++be c 1))):=jQ (by simp only[iN,kW,gS];omega);have a2:cC PG (binOp .add bR (.string (tx ([2]++be c 1))) (.string (tx s0)))=some (.string (tx (([2]++be c 1)++s0))):=jQ (by simp only[jK,iN,kW,gS];omega);have a3:cC PG (binOp .add bR (.string (tx (([2]++be c 1)++s0))) (.string (tx s2)))=some (.string (tx ((([2]++be c 1)++s0)++s2))):=jQ (by simp only[jK,iN,kW,gS];omega);simp only[q2,a1,a2,a3,cD,reduceIte,cJ,Nat.reduceAdd];exact hk _ _ 0 (.inl ⟨rfl,ok⟩) (u1.trans (e4.trans u5))
def aUc{h:PH}{a:Nat}{L:List It}{room:Int}{F:List Nat}(H:RAt h a L room F){v:Value}{l:List Nt}(S:yC h v l)(hv:l≠[]->∀x n c,v= .slice (some x) n c->x.block∉F)(hl:L.length+l.length≤1000)(w:∀n∈l,n.p.wf){k:cF}
  (hk:∀h' F' (n:Int),RAt h' a (lO room L l).1 room F'->cV F h h'->(∀b∈F',b∈F∨h b=none)->k (.tuple #[.int .i64 n,.int .i64 (lO room L l).2]) h'):bW PG aAj #[pT a 0,v] h k:=by
 apply zV.call;unfold zV;have lv:=Nt.len S;refine⟨λvs h'=>∃(i:Nat) (L':List It) (F':List Nat),i≤l.length∧vs=[pT a 0,v,.int .i64 (i:Int)]∧RAt h' a L' room F'∧cV F h h'∧(∀b∈F',b∈F∨h b=none)∧L'.length≤L.length+i∧lO room L l=lO room L' (l.drop i),fN l.length 2,⟨0,L,F,by omega,rfl,H,cV.refl,(λb hb=>.inl hb),by omega,by simp⟩,?_⟩;rintro ρ h' ⟨i,L',F',hi,hvs,H',u,hF,hLL,hap⟩;simp only[hM,jA,kP,and_true] at hvs;obtain⟨v0,v1,v2⟩:=hvs;unfold aDz;simp only[v0,v1,v2,hM,jA];by_cases hlt:i<l.length
 ·have g1:((i:Int)<(l.length:Int))=True:=eq_true (by omega);have gi:=nR (i:=i) (by omega);have e1:l[i]? =some l[i]:=kV hlt;have hmem:l[i]∈l:=aIu hlt;obtain⟨pa,p1,q1⟩:=hC.ntb (hC.upd0 S u λhne=>hv (by simpa using hne)) e1;have hdrop:l.drop i=l[i]::l.drop (i+1):=aA3 hlt;generalize l[i]=n at *;rw[hdrop] at hap;have wn:=w n hmem;simp only[lv,g1,p1,q1,cD,reduceIte,cJ,Nat.reduceAdd];refine aRp H' (by omega) n wn.1 wn.2.2.1 λh3 F3 H3 u3 f3=>?_;have hF':∀b∈F',b∈F∨h b=none:=hF;have u':cV F h h3:=u.then u3 hF';have g3:∀b∈F3,b∈F∨h b=none:=λb hb=>by
   rcases f3 b hb with hb|hb
   ·exact hF b hb
   ·by_cases hbF:b∈F
    ·exact .inl hbF
    ·right;cases hx:h b with
     | none=>rfl
     | some o=>have:=u b o hx hbF;rw[hb] at this;cases this
  have hlen:(pO L' room n).length≤L'.length+1:=aN0 H'.srt room n;by_cases h0:tA L' room n=0
  ·simp only[lO,h0,ne_eq,not_true_eq_false,if_false] at hap;simp only[dY,h0,gi,cD,reduceIte,cJ,Nat.reduceAdd];refine⟨⟨i+1,_,F3,by omega,rfl,H3,u',g3,by omega,hap⟩,?_⟩;simp only[fN,zLL,zLK];omega
  ·have q:(tA L' room n !=0)=true:=by simp[h0]
   simp only[lO,ne_eq,h0,not_false_eq_true,if_true] at hap;simp only[dY,q,cD,reduceIte,cJ,Nat.reduceAdd];have:=hk h3 F3 (i:Int) (by rw[hap];exact H3) u' g3;rw[hap] at this;exact this
 ·have g1:((i:Int)<(l.length:Int))=False:=eq_false (by omega);rw[aAr (by omega)] at hap;simp only[lv,g1,cD,reduceIte,cJ,Nat.reduceAdd];have:=hk h' F' (l.length:Int) (by rw[hap];exact H') u hF;rw[hap] at this;exact this
def aRt{d:Dm}{room:Int}:chk d room=if ¬(jI d.p0∧jI d.p1) then 1 else if mT room d.its≠0 then mT room d.its else if nM d.its≠d.its then 15 else 0:=by
 unfold chk;by_cases h:jI d.p0∧jI d.p1
 ·by_cases e1:mT room d.its=1
  ·simp[h,e1]
  ·simp[h,e1]
 ·simp[h]
def aHt{h:PH}{d:Dm}{v:Value}{room:Int}(V:jL h v d.its)(hl:d.its.length≤900)(w:d.wf){k:cF}(hk:∀h',cX h h'->k (.int .i64 (chk d room)) h'):bW PG oM #[d.v v,.int .i64 room] h k:=by
 apply qY.call;unfold qY;intro r1 hr1
 try rw[cO]
 have u1:cX h (h.set r1 (.cells (Value.cells (d.v v)) aT)):=cV.new hr1;have B1:Bx (h.set r1 (.cells (Value.cells (d.v v)) aT)) r1 (d.cells v):=Bx.new;generalize h.set r1 (.cells (Value.cells (d.v v)) aT)=h1 at *;have lit:∀{h':PH},cX h1 h'->cB PG h' (loadAt bY (pT r1 4))=some v:=λu=>by rw[bY.load,(B1.ext u).cell];rfl
 simp only[aT.f1,iP,lit cV.refl,cD,reduceIte,cJ,Nat.reduceAdd];have main:∀(h6:PH) (tv:Value) (e:Int),(mT room d.its≠0∧tv= .pointer none∧e=mT room d.its)∨(mT room d.its=0∧e=0∧∃a F,tv=pT a 0∧RAt h6 a (nM d.its) room F)->cX h1 h6->
   gU [2,5,6,7] (λn9 ρ h=>aAL k n9 (ρ 2) (ρ 5) (ρ 6) (ρ 7) h) [(pT r1 0),tv,.int .i64 e,(Value.int IntKind.i64 0)] h6:=by
  intro h6 tv e X u6;have hk:=hk _ (u1.trans u6);rw[aRt] at hk;have li:∀(q:Pl) (o:Nat),(d.cells v)[o+1]? =some (.int .i64 q.i)->cB PG h6 (loadAt aR (pT r1 (o+1)))=some (.int .i64 q.i):=λq o hq=>by rw[aR.load,(B1.ext u6).cell,hq]
  refine⟨λvs h'=>∃i:Nat,i≤2∧vs=[(pT r1 0),tv,.int .i64 e,.int .i64 (i:Int)]∧h'=h6∧(1≤i->jI d.p0)∧(2≤i->jI d.p1),fN 2 3,⟨0,by omega,rfl,rfl,by omega,by omega⟩,?_⟩;rintro ρ h' ⟨i,hi,hvs,rfl,o0,o1⟩;simp only[hM,jA,kP,and_true] at hvs;obtain⟨v0,v1,v2,v3⟩:=hvs;unfold aAL;rw[v0,v1,v2,v3];by_cases hlt:i<2
  ·have g1:((i:Int)<2)=True:=eq_true (by omega);have gi:=nR (i:=i) (by omega);have ix:=ixP (r:=r1) hlt;obtain⟨q,hq,hc⟩:∃q:Pl,(d.cells v)[i*2+1]? =some (.int .i64 q.i)∧(q=d.p0∧i=0∨q=d.p1∧i=1):=by
    have:i=0∨i=1:=by omega
    rcases this with rfl|rfl
    ·exact⟨d.p0,rfl,.inl ⟨rfl,rfl⟩⟩
    ·exact⟨d.p1,rfl,.inr ⟨rfl,rfl⟩⟩
   have lq:=li q (i*2) hq;have bad:¬jI q->k (.int .i64 1) h':=λc=>by
    rw[if_pos (by
            rcases hc with⟨rfl,-⟩|⟨rfl,-⟩
            ·exact λx=>c x.1
            ·exact λx=>c x.2)] at hk
    exact hk
   by_cases d0:q.i<0
   ·have f0:=eq_true d0;simp only[g1,aT.f0,ix,cG.f1,lq,f0,cD,reduceIte,cJ,Nat.reduceAdd];exact bad λc=>by have:=c.1;omega
   have f0:=eq_false d0;by_cases d1:65535<q.i
   ·have f1:=eq_true d1;simp only[g1,aT.f0,ix,cG.f1,lq,f0,f1,cD,reduceIte,cJ,Nat.reduceAdd];exact bad λc=>by have:=c.2;omega
   have f1:=eq_false d1;have okq:jI q:=⟨by omega,by omega⟩;simp only[g1,aT.f0,ix,cG.f1,lq,f0,f1,gi,cD,reduceIte,cJ,Nat.reduceAdd];refine⟨⟨i+1,by omega,rfl,(by first|rfl|trivial),λ_=>?_,λh2=>?_⟩,by simp[fN,v3];omega⟩
   ·rcases hc with⟨rfl,-⟩|⟨rfl,hi1⟩
    ·exact okq
    ·exact o0 (by omega)
   ·rcases hc with⟨rfl,h0⟩|⟨rfl,-⟩
    ·omega
    ·exact okq
  ·have g1:((i:Int)<2)=False:=eq_false (by omega);rw[if_neg (by exact λc=>c ⟨o0 (by omega),o1 (by omega)⟩)] at hk;rcases X with⟨hne,rfl,rfl⟩|⟨h0,rfl,a,F,rfl,H⟩
   ·have q:(mT room d.its !=0)=true:=by simp[hne]
    rw[if_pos hne] at hk;simp only[g1,dY,q,cD,reduceIte,cJ,Nat.reduceAdd];exact hk
   ·rw[if_neg (by simpa using h0)] at hk;obtain⟨tvv,G,ha,hO,-,-⟩:=H.here;have lt:cB PG h' (loadAt bY (pT a 0))=some tvv:=by
     rw[bY.load];unfold cU;simp[ha]
    have hx:=aG6 d.its;simp only[g1,dY,aIz,cZ.f0,lt,aT.f1,iP,lit u6,cD,reduceIte,cJ,Nat.reduceAdd];refine aQC hO.slR (V.ext (u1.trans u6)) (by omega) ?_;by_cases hs:nM d.its=d.its
    ·rw[if_neg (by simpa using hs)] at hk;have hs':=decide_eq_true hs;simp only[hs',cD,reduceIte,cJ,Nat.reduceAdd];exact hk
    ·rw[if_pos hs] at hk;have hs':=decide_eq_false hs;simp only[hs',cD,reduceIte,cJ,Nat.reduceAdd];exact hk
 refine aRR (V.ext u1) hl (λm hm=>⟨(w.i m hm).1,(w.i m hm).2.2.1⟩) (λh6 u6 hne=>?_) (λa h6 F h0 H f u6=>?_)
 ·simp only[cD,reduceIte,cJ,Nat.reduceAdd];exact main h6 _ _ (.inl ⟨hne,rfl,rfl⟩) u6
 ·simp only[cD,reduceIte,cJ,Nat.reduceAdd];exact main h6 _ _ (.inr ⟨h0,rfl,a,F,rfl,H⟩) u6
def aI8{h:PH}{q:Pl}(w:q.wf){k:cF}(hk:∀h' s e,(e=0∧jI q∧s=q.bs∨e=1∧¬jI q)->s.length≤100000->cX h h'->k (.tuple #[.string (tx s),.int .i64 e]) h'):bW PG mK #[.agg q.cells.toArray] h k:=
 aNI w (λc h' u=>hk h' [] 1 (.inr ⟨rfl,c⟩) (by simp) u) (λc h' u=>hk h' _ 0 (.inl ⟨rfl,c,rfl⟩) (by simp[Pl.bs,gS]) u)
def aQ7{h:PH}{v:Value}{l:List It}(V:hC h 5 v (l.map It.cells))(hl:l.length≤100000)(w:∀i∈l,i.p.wf){k:cF}
  (hk:∀h' s e,(e=0∧(∀i∈l,aDh i)∧s=rT (l.map It.x)∨e=1∧¬(l.length≤255∧∀i∈l,aDh i))->s.length≤100000->cX h h'->k (.tuple #[.string (tx s),.int .i64 e]) h'):bW PG qV #[v] h k:=
 aM4 V hl w (λc h' u=>hk h' [] 1 (.inr ⟨rfl,λd=>c ⟨d.1,λi hi=>zY.2 (d.2 i hi)⟩⟩) (by simp) u) (λc d h' u=>hk h' _ 0 (.inl ⟨rfl,λi hi=>zY.1 (d i hi),rfl⟩) (by
  have:=aFO (l:=l.map It.x) (by
   simp only[aIK];intro y hy;rw[aMI (zY.1 (d y hy))];exact(zY.1 (d y hy)).2.2)
  simp only[rT,jK,gS,iF] at *;omega) u)
def aQZ{h:PH}{v:Value}{l:List Nt}(V:hC h 5 v (l.map Nt.cells))(hl:l.length≤100000)(w:∀i∈l,i.p.wf){k:cF}
  (hk:∀h' s e,(e=0∧(∀i∈l,aEf i)∧s=rT (l.map Nt.x)∨e=1∧¬(l.length≤255∧∀i∈l,aEf i))->s.length≤100000->cX h h'->k (.tuple #[.string (tx s),.int .i64 e]) h'):bW PG qS #[v] h k:=
 aNS V hl w (λc h' u=>hk h' [] 1 (.inr ⟨rfl,λd=>c ⟨d.1,λi hi=>aAA.2 (d.2 i hi)⟩⟩) (by simp) u) (λc d h' u=>hk h' _ 0 (.inl ⟨rfl,λi hi=>aAA.1 (d i hi),rfl⟩) (by
  have:=aFO (l:=l.map Nt.x) (by
   simp only[aIK];intro y hy;rw[aMa (aAA.1 (d y hy))];exact(aAA.1 (d y hy)).2.2)
  simp only[rT,jK,gS,iF] at *;omega) u)
def aQz{h:PH}{r:Rc}{v vn:Value}(V:jL h v r.s.its)(VN:yC h vn r.ns)(wf:r.wf)(hi:r.s.its.length≤100000)(hn:r.ns.length≤100000){k:cF}
  (hk:∀h',cX h h'->k (.tuple #[.string (tx r.bytes.1),.int .i64 r.bytes.2]) h'):bW PG qM #[r.v v vn] h k:=by
 apply qU.call;unfold qU;have hkN:∀h',¬wY r->cX h h'->k (.tuple #[.string (tx []),.int .i64 1]) h':=λh' c u=>by
  have:=hk h' u;rcases zU r with⟨a,-⟩|⟨-,b⟩
  ·exact absurd a c
  ·rw[b] at this;exact this
 have hkY:∀h' s,wY r->s=r.bs->cX h h'->k (.tuple #[.string (tx s),.int .i64 0]) h':=λh' s c e u=>by
  have:=hk h' u;rcases zU r with⟨-,b⟩|⟨a,-⟩
  ·rw[b] at this;rw[e];exact this
  ·exact absurd c a
 intro r1 hr1
 try rw[cO]
 have u1:cX h (h.set r1 (.cells (Value.cells (r.v v vn)) bT)):=cV.new hr1;have B1:Bx (h.set r1 (.cells (Value.cells (r.v v vn)) bT)) r1 (r.cells v vn):=Bx.new;generalize h.set r1 (.cells (Value.cells (r.v v vn)) bT)=h1 at *;have q0:({data:=#[]}:ByteArray)=tx []:=rfl;have q1:({data:=#[1]}:ByteArray)=tx [1]:=rfl;have q2:({data:=#[2]}:ByteArray)=tx [2]:=rfl;have lk:∀{h':PH},cX h1 h'->cB PG h' (loadAt aR (pT r1 0))=some (.int .i64 r.k):=λu=>by rw[aR.load,(B1.ext u).cell];rfl
 have lp0:∀{h':PH},cX h1 h'->cB PG h' (loadAt cG (pT r1 1))=some (.agg r.s.p0.cells.toArray):=λu=>aBs (B1.ext u) rfl;have lp1:∀{h':PH},cX h1 h'->cB PG h' (loadAt cG (pT r1 3))=some (.agg r.s.p1.cells.toArray):=λu=>aBs (B1.ext u) rfl;have ltw:∀{h':PH},cX h1 h'->cB PG h' (loadAt cR (pT r1 1))=some (lC r.s.p0 r.s.p1):=λu=>aG9 (B1.ext u) rfl;have lit:∀{h':PH},cX h1 h'->cB PG h' (loadAt bY (pT r1 5))=some v:=λu=>by rw[bY.load,(B1.ext u).cell];rfl
 have lch:∀{h':PH},cX h1 h'->cB PG h' (loadAt aR (pT r1 6))=some (.int .i64 r.ch):=λu=>by rw[aR.load,(B1.ext u).cell];rfl
 have lpl:∀{h':PH},cX h1 h'->cB PG h' (loadAt cG (pT r1 7))=some (.agg r.pl.cells.toArray):=λu=>aBs (B1.ext u) rfl;have lph:∀{h':PH},cX h1 h'->cB PG h' (loadAt cI (pT r1 7))=some (.int .u64 r.pl.h):=λu=>by rw[cI.load,(B1.ext u).cell];rfl
 have lpi:∀{h':PH},cX h1 h'->cB PG h' (loadAt aR (pT r1 8))=some (.int .i64 r.pl.i):=λu=>by rw[aR.load,(B1.ext u).cell];rfl
 have lns:∀{h':PH},cX h1 h'->cB PG h' (loadAt cT (pT r1 9))=some vn:=λu=>by rw[cT.load,(B1.ext u).cell];rfl
 have li:=It.len V;have ln:=Nt.len VN;by_cases k1:r.k=1
 ·have kk:(r.k==1)=true:=by simp[k1]
  have notok:∀{h':PH},cX h1 h'->¬wY r->k (.tuple #[.string (tx []),.int .i64 1]) h':=λu c=>hkN _ c (u1.trans u);simp only[bT.f0,bT.f1,aT.f0,aT.f1,aVR,aWE,iP,Nat.reduceAdd,lk cV.refl,fO,kk,lp0 cV.refl,cD,reduceIte,cJ,Nat.reduceAdd];refine aI8 wf.s.a λh2 s0 e0 c0 g0 u2=>?_;simp only[lp1 u2,cD,reduceIte,cJ,Nat.reduceAdd];refine aI8 wf.s.b λh3 s1 e1 c1 g1 u3=>?_;have e3:=u2.trans u3;simp only[lit e3,cD,reduceIte,cJ,Nat.reduceAdd];refine aQ7 (V.ext (u1.trans e3)) hi wf.s.i λh4 s2 e2 c2 g2 u4=>?_;have e4:=e3.trans u4;rcases c0 with⟨rfl,c0,y0⟩|⟨rfl,c0⟩
  case inr=>
   have n1:((1:Int) !=0)=true:=by decide
   simp only[dY,n1,q0,cD,reduceIte,cJ,Nat.reduceAdd];exact notok e4 λc=>c0 (c.a k1).1
  rcases c1 with⟨rfl,c1,y1⟩|⟨rfl,c1⟩
  case inr=>
   have n1:((1:Int) !=0)=true:=by decide
   simp only[dY,n1,q0,cD,reduceIte,cJ,Nat.reduceAdd];exact notok e4 λc=>c1 (c.a k1).2.1
  rcases c2 with⟨rfl,c2,y2⟩|⟨rfl,c2⟩
  case inr=>
   have n1:((1:Int) !=0)=true:=by decide
   simp only[dY,n1,q0,cD,reduceIte,cJ,Nat.reduceAdd];exact notok e4 λc=>c2 ⟨by have:=(vV c.plain k1).2.2.2;omega,(c.a k1).2.2⟩
  by_cases d1:40<r.s.its.length
  ·have g:((40:Int)<(r.s.its.length:Int))=True:=eq_true (by omega);simp only[dY,bT.f1,aT.f1,lit e4,li,g,q0,iP,Nat.reduceAdd,cD,reduceIte,cJ,Nat.reduceAdd];exact notok e4 λc=>by have:=(vV c.plain k1).2.2.2;omega
  have g:((40:Int)<(r.s.its.length:Int))=False:=eq_false (by omega);by_cases d2:r.ch=0
  case neg=>
   have g2:(r.ch !=0)=true:=by simp[d2]
   simp only[dY,bT.f1,bT.f2,aT.f1,lit e4,li,g,lch e4,g2,q0,iP,Nat.reduceAdd,cD,reduceIte,cJ,Nat.reduceAdd];exact notok e4 λc=>d2 (vV c.plain k1).1
  have g2:(r.ch !=0)=false:=by simp[d2]
  by_cases d3:r.pl.h=0
  case neg=>
   have g3:(r.pl.h !=0)=true:=by simp[d3]
   simp only[dY,bT.f1,bT.f2,bT.f3,aT.f1,cG.f0,lit e4,li,g,lch e4,g2,lph e4,g3,q0,iP,Nat.reduceAdd,cD,reduceIte,cJ,Nat.reduceAdd];exact notok e4 λc=>d3 (by rw[(vV c.plain k1).2.1];rfl)
  have g3:(r.pl.h !=0)=false:=by simp[d3]
  by_cases d4:r.pl.i=0
  case neg=>
   have g4:(r.pl.i !=0)=true:=by simp[d4]
   simp only[dY,bT.f1,bT.f2,bT.f3,aT.f1,cG.f0,cG.f1,lit e4,li,g,lch e4,g2,lph e4,g3,lpi e4,g4,q0,iP,Nat.reduceAdd,cD,reduceIte,cJ,Nat.reduceAdd];exact notok e4 λc=>d4 (by rw[(vV c.plain k1).2.1];rfl)
  have g4:(r.pl.i !=0)=false:=by simp[d4]
  by_cases d5:0<r.ns.length
  ·have g5:((0:Int)<(r.ns.length:Int))=True:=eq_true (by omega);simp only[dY,bT.f1,bT.f2,bT.f3,bT.f4,aT.f1,cG.f0,cG.f1,lit e4,li,g,lch e4,g2,lph e4,g3,lpi e4,g4,lns e4,ln,g5,q0,iP,Nat.reduceAdd,cD,reduceIte,cJ,Nat.reduceAdd];exact notok e4 λc=>by rw[(vV c.plain k1).2.2.1] at d5;simp at d5
  have g5:((0:Int)<(r.ns.length:Int))=False:=eq_false (by omega);have ok:wY r:=by
   refine⟨?_,λ_=>⟨c0,c1,c2⟩,λh2=>by rw[k1] at h2;cases h2⟩;unfold Rc.plain;rw[if_pos k1];have e5:r.ns.length=0:=by omega
   have e6:r.pl=Pl.zero:=by
    have:∀q:Pl,q.h=0->q.i=0->q=Pl.zero:=λq a b=>by
     obtain⟨x,y⟩:=q;simp only at a b;subst a b;rfl
    exact this _ d3 d4
   simp only[d2,e5,e6,decide_true,Bool.and_true,zLo,decide_eq_true_eq];omega
  have a1:cC PG (binOp .add bR (.string (tx [1])) (.string (tx s0)))=some (.string (tx ([1]++s0))):=jQ (by simp only[iN,kW];omega);have a2:cC PG (binOp .add bR (.string (tx ([1]++s0))) (.string (tx s1)))=some (.string (tx (([1]++s0)++s1))):=jQ (by simp only[jK,iN,kW];omega);have a3:cC PG (binOp .add bR (.string (tx (([1]++s0)++s1))) (.string (tx s2)))=some (.string (tx ((([1]++s0)++s1)++s2))):=jQ (by simp only[jK,iN,kW];omega);simp only[dY,bT.f1,bT.f2,bT.f3,bT.f4,aT.f1,cG.f0,cG.f1,lit e4,li,g,lch e4,g2,lph e4,g3,lpi e4,g4,lns e4,ln,g5,q1,a1,a2,a3,iP,Nat.reduceAdd,cD,reduceIte,cJ,Nat.reduceAdd];refine hkY _ _ ok ?_ (u1.trans e4);rw[y0,y1,y2];unfold Rc.bs;rw[if_pos k1];simp only[uV];rfl
 have kk:(r.k==1)=false:=by simp[k1]
 by_cases k2:r.k=2
 case neg=>
  have kk2:(r.k==2)=false:=by simp[k2]
  simp only[bT.f0,lk cV.refl,fO,kk,kk2,q0,cD,reduceIte,cJ,Nat.reduceAdd];exact hkN _ (λc=>by have:=(qQ c.plain k1).1;exact k2 this) u1
 have kk2:(r.k==2)=true:=by simp[k2]
 have notok:∀{h':PH},cX h1 h'->¬wY r->k (.tuple #[.string (tx []),.int .i64 1]) h':=λu c=>hkN _ c (u1.trans u);simp only[bT.f0,bT.f3,lk cV.refl,fO,kk,kk2,lpl cV.refl,iP,cD,reduceIte,cJ,Nat.reduceAdd];refine aI8 wf.pl λh2 s0 e0 c0 g0 u2=>?_;simp only[bT.f4,lns u2,iP,cD,reduceIte,cJ,Nat.reduceAdd];refine aQZ (VN.ext (u1.trans u2)) hn wf.n λh4 s2 e2 c2 g2 u4=>?_;have e4:=u2.trans u4;rcases c0 with⟨rfl,c0,y0⟩|⟨rfl,c0⟩
 case inr=>
  have n1:((1:Int) !=0)=true:=by decide
  simp only[dY,n1,q0,cD,reduceIte,cJ,Nat.reduceAdd];exact notok e4 λc=>c0 (c.b k2).1
 rcases c2 with⟨rfl,c2,y2⟩|⟨rfl,c2⟩
 case inr=>
  have n1:((1:Int) !=0)=true:=by decide
  simp only[dY,n1,q0,cD,reduceIte,cJ,Nat.reduceAdd];exact notok e4 λc=>c2 ⟨by have:=(qQ c.plain k1).2.2.2;omega,(c.b k2).2⟩
 by_cases d1:16<r.ns.length
 ·have g:((16:Int)<(r.ns.length:Int))=True:=eq_true (by omega);simp only[dY,bT.f4,lns e4,ln,g,q0,iP,Nat.reduceAdd,cD,reduceIte,cJ,Nat.reduceAdd];exact notok e4 λc=>by have:=(qQ c.plain k1).2.2.2;omega
 have g:((16:Int)<(r.ns.length:Int))=False:=eq_false (by omega);by_cases d2:r.ch<0
 ·have f2:=eq_true d2;simp only[dY,bT.f4,bT.f2,lns e4,ln,g,lch e4,f2,q0,iP,Nat.reduceAdd,cD,reduceIte,cJ,Nat.reduceAdd];exact notok e4 λc=>by have:=(qQ c.plain k1).2.2.1;omega
 have f2:=eq_false d2;by_cases d3:1<r.ch
 ·have f3:=eq_true d3;simp only[dY,bT.f4,bT.f2,lns e4,ln,g,lch e4,f2,f3,q0,iP,Nat.reduceAdd,cD,reduceIte,cJ,Nat.reduceAdd];exact notok e4 λc=>by have:=(qQ c.plain k1).2.2.1;omega
 have f3:=eq_false d3;by_cases d4:0<r.s.its.length
 ·have f4:((0:Int)<(r.s.its.length:Int))=True:=eq_true (by omega);simp only[dY,bT.f4,bT.f2,bT.f1,aT.f1,lns e4,ln,g,lch e4,f2,f3,lit e4,li,f4,q0,iP,Nat.reduceAdd,cD,reduceIte,cJ,Nat.reduceAdd];exact notok e4 λc=>by rw[(qQ c.plain k1).2.1] at d4;simp[Dm.zero] at d4
 have f4:((0:Int)<(r.s.its.length:Int))=False:=eq_false (by omega);by_cases d5:r.s.p0=Pl.zero∧r.s.p1=Pl.zero
 case neg=>
  have f5:decide (r.s.p0=Pl.zero∧r.s.p1=Pl.zero)=false:=by simpa using d5
  simp only[dY,bT.f4,bT.f2,bT.f1,aT.f1,aT.f0,lns e4,ln,g,lch e4,f2,f3,lit e4,li,f4,ltw e4,aHT,lC.neq,f5,q0,iP,Nat.reduceAdd,cD,reduceIte,cJ,Nat.reduceAdd];exact notok e4 λc=>d5 (by rw[(qQ c.plain k1).2.1];exact⟨rfl,rfl⟩)
 have f5:decide (r.s.p0=Pl.zero∧r.s.p1=Pl.zero)=true:=by simpa using d5
 have ok:wY r:=by
  refine⟨?_,λh1=>absurd h1 k1,λ_=>⟨c0,c2⟩⟩;unfold Rc.plain;rw[if_neg k1,if_pos k2,f5];have e5:r.s.its.length=0:=by omega
  have e6:r.ch=0∨r.ch=1:=by omega
  simp only[e5,decide_true,zLo,rZ,aGZ,decide_eq_true_eq];exact⟨e6,by omega⟩
 obtain⟨c,hc⟩:∃c:Nat,r.ch=(c:Int):=zLm (by omega);have hc1:c≤1:=by omega
 have cw:IntKind.u64.wrap (c:Int)=(c:Int):=jU (by omega) (by omega);rw[hc] at f2 f3 lch;simp only[dY,bT.f4,bT.f2,bT.f1,aT.f1,aT.f0,lns e4,ln,g,lch e4,f2,f3,lit e4,li,f4,ltw e4,aHT,lC.neq,f5,aD5,cw,iP,Nat.reduceAdd,cD,reduceIte,cJ,Nat.reduceAdd];refine lY (by omega) (by decide) λh5 u5=>?_;have a1:cC PG (binOp .add bR (.string (tx [2])) (.string (tx (be c 1))))=some (.string (tx ([2]++be c 1))):=jQ (by simp only[iN,kW,gS];omega);have a2:cC PG (binOp .add bR (.string (tx ([2]++be c 1))) (.string (tx s0)))=some (.string (tx (([2]++be c 1)++s0))):=jQ (by simp only[jK,iN,kW,gS];omega);have a3:cC PG (binOp .add bR (.string (tx (([2]++be c 1)++s0))) (.string (tx s2)))=some (.string (tx ((([2]++be c 1)++s0)++s2))):=jQ (by simp only[jK,iN,kW,gS];omega);simp only[q2,a1,a2,a3,cD,reduceIte,cJ,Nat.reduceAdd];refine hkY _ _ ok ?_ (u1.trans (e4.trans u5));rw[y0,y2];unfold Rc.bs;rw[if_neg k1,hc,wU];simp only[uV];rfl
def aOu{h:PH}{d:Dm}{v:Value}{room:Int}{r:Rc}{vi vn:Value}(V:jL h v d.its)(w:d.wf)(hl:d.its.length≤900)(VI:jL h vi r.s.its)(VN:yC h vn r.ns)(wf:r.wf)(hi:r.s.its.length≤900)(hn:r.ns.length≤100000){k:cF}
  (hk:∀h' v',jL h' v' (mB d room r).1.its->(iD h v'∨v'=vi)->cX h h'->k (.tuple #[(mB d room r).1.v v',.int .i64 (mB d room r).2]) h'):bW PG wG #[d.v v,.int .i64 room,r.v vi vn] h k:=by
 apply sJ.call;unfold sJ;intro r1 hr1
 try rw[cO]
 have u1:cX h (h.set r1 (.cells (Value.cells (d.v v)) aT)):=cV.new hr1;have B1:Bx (h.set r1 (.cells (Value.cells (d.v v)) aT)) r1 (d.cells v):=Bx.new;generalize h.set r1 (.cells (Value.cells (d.v v)) aT)=h1 at *;intro r3 hr3
 try rw[cO]
 have u3:cX h1 (h1.set r3 (.cells (Value.cells (r.v vi vn)) bT)):=cV.new hr3;have B3:Bx (h1.set r3 (.cells (Value.cells (r.v vi vn)) bT)) r3 (r.cells vi vn):=Bx.new;have B13:=B1.ext u3;generalize h1.set r3 (.cells (Value.cells (r.v vi vn)) bT)=h3 at *;intro r5 hr5
 try rw[cO]
 have u5:cX h3 (h3.set r5 (.cells (dD PG aT) aT)):=cV.new hr5;have Z:=aT.zbox (h:=h3) (r:=r5);have B15:=B13.ext u5;have B35:=B3.ext u5;generalize h3.set r5 (.cells (dD PG aT) aT)=h5 at *;have e5:=(u1.trans u3).trans u5;have f5:dX h [r5]:=dX.one ((u1.trans u3).none hr5);have K5:h5 r5≠none:=Z.known
 -- an answer
 have out:∀{h':PH} {x:Dm} {e:Int} {v':Value},cX h5 h'->mB d room r=(x,e)->jL h' v' x.its->aEt x.its v' [r5]->(iD h v'∨v'=vi)->cM PG (cP aT (pT r5 0) (x.v v')) h' λv12 h13=>bZ (cB PG h13 (loadAt aT (pT r5 0))) λv14=>k (.tuple #[v14,.int .i64 e]) h13:=by
  intro h' x e v' u hs X o N;refine aT.put (Z.ext u) rfl (by show 0+5≤5;decide) (Dm.isC _ X.isc) λh2 B2 u2=>?_;simp only[Dm.load (o:=0) (d:=x) (v:=v') B2 rfl,cD,reduceIte];rw[hs] at hk;exact hk h2 v' (jL.updG X o u2 (λb hb=>hb)) N ((e5.trans u).fresh u2 f5)
 have bad:∀{h':PH} {e:Int},cX h5 h'->mB d room r=(Dm.zero,e)->cM PG (cP aT (pT r5 0) (Dm.v Dm.zero (.slice none 0 0))) h' λv12 h13=>bZ (cB PG h13 (loadAt aT (pT r5 0))) λv14=>k (.tuple #[v14,.int .i64 e]) h13:=
  λu hs=>out u hs aC9 (λhne=>absurd rfl hne) (.inl iD.nil)
 have hdef:mB d room r=if chk d room≠0 then(Dm.zero,chk d room) else if r.bytes.2≠0 then(Dm.zero,r.bytes.2) else if r.k=1 then(if chk r.s room≠0 then(Dm.zero,chk r.s room) else(r.s,0)) else if (lO room (nM d.its) r.ns).2≠0 then(Dm.zero,(lO room (nM d.its) r.ns).2) else(⟨if r.ch=0 then r.pl else d.p0,if r.ch=0 then d.p1 else r.pl,(lO room (nM d.its) r.ns).1⟩,0):=rfl
 have ld:∀{h':PH},cX h5 h'->cB PG h' (loadAt aT (pT r1 0))=some (d.v v):=λu=>Dm.load (o:=0) (B15.ext u) rfl;have lr:∀{h':PH},cX h5 h'->cB PG h' (loadAt bT (pT r3 0))=some (r.v vi vn):=λu=>bT.agg (B35.ext u) (by show 0+10≤10;decide);have lk:∀{h':PH},cX h5 h'->cB PG h' (loadAt aR (pT r3 0))=some (.int .i64 r.k):=λu=>by rw[aR.load,(B35.ext u).cell];rfl
 have ls:∀{h':PH},cX h5 h'->cB PG h' (loadAt aT (pT r3 1))=some (r.s.v vi):=λu=>Dm.load (o:=1) (B35.ext u) rfl;have lit:∀{h':PH},cX h5 h'->cB PG h' (loadAt bY (pT r1 4))=some v:=λu=>by rw[bY.load,(B15.ext u).cell];rfl
 have ln:∀{h':PH},cX h5 h'->cB PG h' (loadAt cT (pT r3 9))=some vn:=λu=>by rw[cT.load,(B35.ext u).cell];rfl
 have l2:∀{h':PH},cX h5 h'->cB PG h' (loadAt cR (pT r1 0))=some (lC d.p0 d.p1):=λu=>aG9 (B15.ext u) rfl;have lch:∀{h':PH},cX h5 h'->cB PG h' (loadAt aR (pT r3 6))=some (.int .i64 r.ch):=λu=>by rw[aR.load,(B35.ext u).cell];rfl
 have lpl:∀{h':PH},cX h5 h'->cB PG h' (loadAt cG (pT r3 7))=some (.agg r.pl.cells.toArray):=λu=>aBs (B35.ext u) rfl;simp only[ld cV.refl,cD,reduceIte,cJ,Nat.reduceAdd];refine aHt (V.ext e5) hl w λh6 u6=>?_;by_cases c0:chk d room=0
 case neg=>
  have q:(chk d room !=0)=true:=by simp[c0]
  rw[if_pos c0] at hdef;simp only[dY,q,pY,cD,reduceIte,cJ,Nat.reduceAdd];exact bad u6 hdef
 rw[if_neg (by simp[c0])] at hdef;simp only[c0,dY,lr u6,cD,reduceIte,cJ,Nat.reduceAdd];refine aRF (VI.ext (e5.trans u6)) (VN.ext (e5.trans u6)) wf (by omega) hn λh7 s e he u7=>?_;have e7:=u6.trans u7;rcases he with⟨rfl,ok⟩|⟨rfl,no⟩
 case inr=>
  have n1:((1:Int) !=0)=true:=by decide
  rcases zU r with⟨ok,-⟩|⟨-,eb⟩
  ·exact absurd ok no
  rw[eb] at hdef;simp only[dY,n1,pY,cD,reduceIte,cJ,Nat.reduceAdd];exact bad e7 (by rw[hdef];rfl)
 rw[aPN ok] at hdef;simp only[ne_eq,not_true_eq_false,if_false] at hdef;simp only[bT.f0,lk e7,dY,fO,cD,reduceIte,cJ,Nat.reduceAdd];by_cases k1:r.k=1
 ·have q:(r.k==1)=true:=by simp[k1]
  rw[if_pos k1] at hdef;simp only[q,bT.f1,iP,ls e7,cD,reduceIte,cJ,Nat.reduceAdd];refine aHt (VI.ext (e5.trans e7)) hi wf.s λh8 u8=>?_;have e8:=e7.trans u8;by_cases c2:chk r.s room=0
  ·rw[if_neg (by simp[c2])] at hdef;simp only[c2,dY,bT.f1,iP,ls e8,cD,reduceIte,cJ,Nat.reduceAdd];refine out e8 hdef (VI.ext (e5.trans e8)) (λhne x n c e hm=>?_) (.inr rfl);have:=VI.known (by simpa using hne) e;simp only[iI] at hm;rw[hm] at this;exact this (f5 r5 (by simp))
  ·rw[if_pos c2] at hdef;have q2:(chk r.s room !=0)=true:=by simp[c2]
   simp only[dY,q2,pY,cD,reduceIte,cJ,Nat.reduceAdd];exact bad e8 hdef
 ·have q:(r.k==1)=false:=by simp[k1]
  obtain⟨k2,-,hch,q16⟩:=qQ ok.plain k1;rw[if_neg k1] at hdef;have hof:mT room d.its=0:=by
   rw[aRt] at c0;by_cases h0:mT room d.its=0
   ·exact h0
   ·by_cases h1:jI d.p0∧jI d.p1
    ·rw[if_neg (by simpa using h1),if_pos h0] at c0;exact c0
    ·rw[if_pos h1] at c0;cases c0
  simp only[q,aT.f1,iP,lit e7,cD,reduceIte,cJ,Nat.reduceAdd];refine aRR (V.ext (e5.trans e7)) hl (λm hm=>⟨(w.i m hm).1,(w.i m hm).2.2.1⟩) (λh8 u8 hne=>absurd hof hne) (λa h8 F _ H8 f8 u8=>?_);have e8:=e7.trans u8;have hx:=aG6 d.its;simp only[bT.f4,iP,ln e8,cD,reduceIte,cJ,Nat.reduceAdd];refine aUc H8 (VN.ext (e5.trans e8)) (λhne x n c e hm=>(VN.ext (e5.trans e7)).known (by simpa using hne) e (f8 _ hm)) (by omega) wf.n λh9 F9 n H9 u9 g9=>?_;have e9:=e8.fresh u9 (f8.of e7);by_cases c3:(lO room (nM d.its) r.ns).2=0
  case neg=>
   have q3:((lO room (nM d.its) r.ns).2 !=0)=true:=by simp[c3]
   rw[if_pos c3] at hdef;simp only[dY,q3,pY,cD,reduceIte,cJ,Nat.reduceAdd];exact bad e9 hdef
  rw[if_neg (by simpa using c3)] at hdef;obtain⟨tv,G,ha,hO,eF,-⟩:=H9.here;generalize (lO room (nM d.its) r.ns).1=L at *;have fF:dX h5 F9:=(f8.of e7).grow e8 g9;have fG:dX h5 G:=λb hb=>fF b (by rw[eF];simp[hb]);have nv:=hO.newV fG;have lt:cB PG h9 (loadAt bY (pT a 0))=some tv:=by
   rw[bY.load];unfold cU;simp[ha]
  have VL:jL h9 tv L:=hO.slR;obtain⟨ta,tc,etv,-⟩:=VL.here;have hb:cC PG (build aT #[(0,lC d.p0 d.p1),(1,tv)])=some (Dm.v ⟨d.p0,d.p1,L⟩ tv):=by rw[etv];exact aSz _ _ _ _ _
  simp only[c3,dY,aT.f0,l2 e9,aIz,cZ.f0,lt,hb,cD,reduceIte,cJ,Nat.reduceAdd];intro r65 hr65
  try rw[cO]
  refine aT.fill hr65 rfl (Dm.isC _ VL.isc) λh10 B10 u10=>?_;have e10:=e9.trans u10;have f65:dX h5 [r65]:=dX.one (e9.none hr65);have VLa:=VL.ext u10;have oK:∀{b:Nat},h5 b≠none->aEt L tv [b]:=λhb=>aEt.new nv (λc hc=>by simp only[iI] at hc;rw[hc];exact hb);have o65:aEt L tv [r65]:=λhne x n c e hm=>by
   simp only[iI] at hm;exact VL.known (by simpa using hne) e (by rw[hm];exact hr65)
  rcases hch with hc|hc
  ·rw[hc] at lch hdef;simp only[if_true] at hdef;simp only[bT.f2,bT.f3,iP,lch e10,lpl e10,aT.f0,aXD,cD,reduceIte,cJ,Nat.reduceAdd];refine cG.put B10 (o:=0) (vs:=r.pl.cells) rfl (by show 0+2≤5;decide) (by simp[Pl.cells,fH]) λh11 B11 u11=>?_;have VL11:=jL.updG VLa o65 u11 (λb hb=>hb);have e11:=e10.fresh u11 f65;simp only[Dm.load (o:=0) (d:=⟨r.pl,d.p1,L⟩) (v:=tv) B11 rfl,cD,reduceIte,cJ,Nat.reduceAdd];exact out e11 hdef VL11 (oK K5) (.inl (nv.of e5))
  ·have n1:¬((1:Int)=0):=by decide
   rw[hc] at lch hdef;simp only[n1,if_false] at hdef;simp only[bT.f2,bT.f3,iP,lch e10,lpl e10,aT.f0,aXJ,cD,reduceIte,cJ,Nat.reduceAdd];refine cG.put B10 (o:=2) (vs:=r.pl.cells) rfl (by show 2+2≤5;decide) (by simp[Pl.cells,fH]) λh11 B11 u11=>?_;have VL11:=jL.updG VLa o65 u11 (λb hb=>hb);have e11:=e10.fresh u11 f65;simp only[Dm.load (o:=0) (d:=⟨d.p0,r.pl,L⟩) (v:=tv) B11 rfl,cD,reduceIte,cJ,Nat.reduceAdd];exact out e11 hdef VL11 (oK K5) (.inl (nv.of e5))
structure JoA(a w j:Nat)(d:Dk)(x:Jn)(h:PH)(F:List Nat):Prop where
 here:∃Fw iv,F=j::(nN iv x.s.its.length++Fw)∧Bx h j (x.cells w iv)∧WoA a w d x.w h Fw∧jL h iv x.s.its∧j∉Fw∧j∉nN iv x.s.its.length∧∀b∈nN iv x.s.its.length,b∉Fw
 ok:OkD x.s x.room
 wf:x.s.wf
def JoA.known{a w j:Nat}{d:Dk}{x:Jn}{h:PH}{F:List Nat}(H:JoA a w j d x h F):∀b∈F,h b≠none:=by
 obtain⟨Fw,iv,rfl,B,W,S,-⟩:=H.here;intro b hb;simp only[iM,xA] at hb;rcases hb with rfl|hb|hb
 ·exact B.known
 ·exact aF0 S b hb
 ·exact W.known b hb
def JoA.upd{a w j:Nat}{d:Dk}{x:Jn}{h h':PH}{F K:List Nat}(H:JoA a w j d x h F)(u:cV K h h')(hK:∀b∈F,b∉K):JoA a w j d x h' F:=by
 obtain⟨Fw,iv,rfl,B,W,S,n⟩:=H.here;exact⟨⟨Fw,iv,rfl,B.upd u (hK j (by simp)),W.upd u (λb hb=>hK b (by simp[hb])),aFQ S u (λb hb=>hK b (by simp[hb])),n⟩,H.ok,H.wf⟩
def JoA.good(a w j:Nat)(d:Dk)(x:Jn):aHM (JoA a w j d x):=⟨λH=>H.known,λH u hK=>H.upd u hK⟩
def aR2{h:PH}{s:Dm}{iv:Value}(S:jL h iv s.its)(wf:s.wf)(hl:s.its.length≤1000){k:cF}(hk:∀h',cX h h'->k (.string (tx (lL s))) h'):bW PG aA4 #[s.v iv] h k:=by
 apply yZ.call;unfold yZ;intro r1 hr1
 try rw[cO]
 have u1:cX h (h.set r1 (.cells (Value.cells (s.v iv)) aT)):=cV.new hr1;have B1:Bx (h.set r1 (.cells (Value.cells (s.v iv)) aT)) r1 (s.cells iv):=Bx.new;generalize h.set r1 (.cells (Value.cells (s.v iv)) aT)=h1 at *;have l1:cB PG h1 (loadAt aT (pT r1 0))=some (s.v iv):=aT.agg B1 (by show 0+5≤5;decide);obtain⟨b,m,c,rfl⟩:=uI S;simp only[l1,aPs,cD,reduceIte,cJ,Nat.reduceAdd];refine aQz (r:=pR s) (S.ext u1) (eD.nil (e:=cK)).slR (aLJ wf) (by show s.its.length≤_;omega) (by show 0≤_;omega) λh2 u2=>?_;simp only[cD,reduceIte,cJ,Nat.reduceAdd];exact hk h2 (u1.trans u2)
def aUf(w:Nat)(room:Int)(x:Wl)(s:Dm)(b:Option Addr)(n c:Nat):cC PG (build nU #[(0,pT w 0),(1,.int .i64 room),(2,s.v (.slice b n c))])=some (.agg (Jn.cells w ⟨x,room,s⟩ (.slice b n c)).toArray):=by kernel_rfl
def aUn(p q:Pl)(room:Int):chk ⟨p,q,[]⟩ room=0∨chk ⟨p,q,[]⟩ room=1:=by
 unfold chk;show(if mT room []=1∨¬(jI p∧jI q) then(1:Int) else if mT room []≠0 then mT room [] else if nM []≠[] then 15 else 0)=0∨_=1;split
 ·exact .inr rfl
 ·rename_i c;have h0:mT room []=0:=by
   unfold mT at c ⊢;split
   ·rename_i a;rw[if_pos a] at c;exact absurd (.inl rfl) c
   ·rename_i a;rw[if_neg a] at c;simp only[List.all_nil,Bool.true_eq_false,if_false,jA,List.nodup_nil,not_true_eq_false,kW];split
    ·rename_i b;omega
    ·rfl
  rw[h0,if_neg (by simp),if_neg (by show ¬(nM []≠[]);simp[nM])];exact .inl rfl
def aMt{h0 h:PH}{a w r:Nat}{d:Dk}{x:Wl}{F0 Fw:List Nat}{room:Int}{s:Dm}{iv:Value}(W:WoA a w d x h Fw)(B:Bx h r (s.cells iv))(S:jL h iv s.its)(n1:∀b∈nN iv s.its.length,b∉Fw)(rF:r∉Fw)(m4:∀b∈nN iv s.its.length,b∈F0∨h0 b=none)
  (st:eX h0 F0 h Fw) (ok:OkD s room) (wf:s.wf) (hb:d.buf.length≤900000) {k:cF}
  (bad:∀h' F',rQ a (gK d x (lL s)).1 h' F'->eX h0 F0 h' F'->(gK d x (lL s)).2.2≠0->k (.tuple #[.pointer none,.int .i64 (gK d x (lL s)).2.2]) h')
  (hk:∀h' F' j,JoA a w j (gK d x (lL s)).1 ⟨(gK d x (lL s)).2.1,room,s⟩ h' F'->eX h0 F0 h' F'->(gK d x (lL s)).2.2=0->k (.tuple #[pT j 0,.int .i64 0]) h'):uO k (.int .i64 room) (pT r 0) (pT w 0) h:=by
 unfold uO;have l1:cB PG h (loadAt aT (pT r 0))=some (s.v iv):=aT.agg B (by show 0+5≤5;decide);simp only[l1,cD,reduceIte,cJ,Nat.reduceAdd];refine aR2 S wf (by have:=ok.len;have:=ok.r2;omega) λh1 u1=>?_;have hsw:=aFb (aFP ok);refine aMZ (W.ext u1) _ (by unfold lL;omega) (by omega) λh2 F2 W2 s2=>?_;have st2:=st.trans ((eX.ext (F:=Fw) u1).trans s2);obtain⟨P,hP⟩:∃P,gK d x (lL s)=P:=⟨_,rfl⟩;rw[hP] at bad hk W2 ⊢;by_cases c:P.2.2=0
 ·have q:(P.2.2 !=0)=false:=by rw[c];rfl
  obtain⟨B2,-⟩:=(B.ext u1).step s2 rF;obtain⟨S2,k2⟩:=aDo (S.ext u1) s2 n1;have l2:cB PG h2 (loadAt aT (pT r 0))=some (s.v iv):=aT.agg B2 (by show 0+5≤5;decide);obtain⟨b,m,c',rfl⟩:=uI S2;simp only[dY,q,l2,aUf w room P.2.1 s,cD,reduceIte,cJ,Nat.reduceAdd];intro r37 hr37
  try rw[cO]
  have u3:cX h2 (h2.set r37 (.cells (Value.cells (.agg (Jn.cells w ⟨P.2.1,room,s⟩ (.slice b m c')).toArray)) nU)):=cV.new hr37;have B3:Bx (h2.set r37 (.cells (Value.cells (.agg (Jn.cells w ⟨P.2.1,room,s⟩ (.slice b m c')).toArray)) nU)) r37 (Jn.cells w ⟨P.2.1,room,s⟩ (.slice b m c')):=Bx.new;generalize h2.set r37 (.cells (Value.cells (.agg (Jn.cells w ⟨P.2.1,room,s⟩ (.slice b m c')).toArray)) nU)=h3 at *;refine hk h3 (r37::(nN (.slice b m c') s.its.length++F2)) r37 ⟨⟨F2,_,rfl,B3,W2.ext u3,S2.ext u3,λhm=>W2.known r37 hm hr37,λhm=>aF0 S2 r37 hm hr37,k2⟩,ok,wf⟩ ⟨st2.upd.trans u3.upd,λb hb=>?_⟩ c;simp only[iM,xA] at hb;rcases hb with rfl|hb|hb
  ·exact st2.none hr37
  ·exact m4 b hb
  ·exact st2.grow b hb
 ·have q:(P.2.2 !=0)=true:=bne_iff_ne.2 c;simp only[dY,q,cD,reduceIte,cJ,Nat.reduceAdd];obtain⟨Fd,eF,-,D2,-⟩:=W2.here;exact bad h2 Fd D2 ⟨st2.upd,λb hb=>st2.grow b (by rw[eF];simp[hb])⟩ c
def aSV{h:PH}{a:Nat}{d:Dk}{F:List Nat}(D:rQ a d h F)(room:Int)(p q:Pl)(wp:p.wf)(wq:q.wf)(hs:d.sectors≤1000)(hb:d.buf.length≤800000){k:cF}
  (hrep:∀(h:PH) (v:Value),hC h 1 v ((fL d).2.1.2.map kA)->(fL d).2.1.2≠[]->∀{k:cF},(∀h' v',jL h' v' (xJ room (fL d).2.1.2).1.its->iD h v'->cX h h'->k (.tuple #[(xJ room (fL d).2.1.2).1.v v',.int .i64 (xJ room (fL d).2.1.2).2]) h')->bW PG nW #[.int .i64 room,v] h k)
  (bad:∀h' F',rQ a (iT d room p q).1 h' F'->eX h F h' F'->(iT d room p q).2.2≠0->k (.tuple #[.pointer none,.int .i64 (iT d room p q).2.2]) h')
  (hk:∀h' F' w j,JoA a w j (iT d room p q).1 (iT d room p q).2.1 h' F'->eX h F h' F'->(iT d room p q).2.2=0->k (.tuple #[pT j 0,.int .i64 0]) h'):bW PG wJ #[pT a 0,.int .i64 room,lC p q] h k:=by
 apply aAc.call;unfold aAc;intro r1 hr1
 try rw[cO]
 have u1:cX h (h.set r1 (.cells (Value.cells (lC p q)) cR)):=cV.new hr1;have B1:Bx (h.set r1 (.cells (Value.cells (lC p q)) cR)) r1 (p.cells++q.cells):=Bx.new;generalize h.set r1 (.cells (Value.cells (lC p q)) cR)=h1 at *;have l1:cB PG h1 (loadAt cR (pT r1 0))=some (lC p q):=cR.agg B1 (by show 0+4≤4;decide);simp only[l1,aMG,cD,reduceIte,cJ,Nat.reduceAdd];intro r5 hr5
 try rw[cO]
 refine aT.fill (vs:=Dm.cells ⟨p,q,[]⟩ (.slice none 0 0)) hr5 rfl (by simp[Dm.cells,fH]) λh2 B2 u2=>?_;have e2:=u1.trans u2;have l2:cB PG h2 (loadAt aT (pT r5 0))=some (Dm.v ⟨p,q,[]⟩ (.slice none 0 0)):=aT.agg B2 (by show 0+5≤5;decide);have r5F:r5∉F:=λhm=>(D.ext u1).known r5 hm hr5;simp only[l2,cD,reduceIte,cJ,Nat.reduceAdd];have nz:∀{h:PH},jL h (.slice none 0 0) (⟨p,q,[]⟩:Dm).its:=(eD.nil (e:=cE)).slR;refine aHt (d:=⟨p,q,[]⟩) nz (by simp) ⟨wp,wq,by simp⟩ λh3 u3=>?_;have e3:=e2.trans u3;unfold iT at bad hk;have wf0:(⟨p,q,[]⟩:Dm).wf:=⟨wp,wq,by simp⟩;by_cases c:chk ⟨p,q,[]⟩ room=0
 ·have qc:(chk ⟨p,q,[]⟩ room !=0)=false:=by rw[c];rfl
  rw[if_neg (λe=>e c)] at bad hk;simp only[dY,qc,cD,reduceIte,cJ,Nat.reduceAdd];refine aRS (D.ext e3) (by omega) (λh4 F4 D4 s4 ne=>?_) (λh4 F4 w v G W4 O4 dj s4 e0=>?_)
  ·have q4:((fL d).2.2 !=0)=true:=bne_iff_ne.2 ne;rw[if_pos ne] at bad;simp only[dY,q4,cD,reduceIte,cJ,Nat.reduceAdd];exact bad h4 F4 D4 ((eX.ext e3).trans s4) ne
  ·have q4:((0:Int) !=0)=false:=rfl;rw[if_neg (λe=>e e0)] at bad hk;have hfw:=aIB D.ok;have hbw:=aKw d;have hsg:d.segs≤1000:=by unfold Dk.segs;omega
   have st4:=(eX.ext (F:=F) e3).trans s4;obtain⟨B4,r54⟩:=(B2.ext u3).step s4 r5F;have r5w:r5∉F4:=λhm=>r54 (by simp[hm]);have st4':eX h F h4 F4:=⟨st4.upd,λb hb=>st4.grow b (by simp[hb])⟩;have hmay:=aNc (room:=room) (s0:=⟨p,q,[]⟩) (l:=(fL d).2.1.2) c wf0;obtain⟨l,hl⟩:∃l,(fL d).2.1.2=l:=⟨_,rfl⟩;rw[hl] at bad hk O4 hfw hmay hrep;have lv:=aAR O4.slR;by_cases c0:l=[]
   ·have es:kZ room ⟨p,q,[]⟩ l=(⟨p,q,[]⟩,0):=by unfold kZ;rw[if_pos c0]
    rw[es] at bad hk hmay;rw[if_neg (λe=>e rfl)] at bad hk;have g:((0:Int)<(l.length:Int))=False:=eq_false (by rw[c0];simp);simp only[dY,q4,lv,g,cD,reduceIte,cJ,Nat.reduceAdd];refine aMt (h0:=h) (F0:=F) W4 B4 nz (λb hb=>by cases hb) r5w (λb hb=>by cases hb) st4' (hmay rfl).1 wf0 (by omega) (λh' F' D' st ne=>?_) (λh' F' j J st e=>?_)
    ·rw[if_pos ne] at bad;exact bad h' F' D' st ne
    ·rw[if_neg (λx=>x e)] at hk;exact hk h' F' w j J st rfl
   ·have es:kZ room ⟨p,q,[]⟩ l=xJ room l:=by unfold kZ;rw[if_neg c0]
    rw[es] at bad hk hmay;have hpos:0<l.length:=aId.2 c0;have g:((0:Int)<(l.length:Int))=True:=eq_true (by omega);simp only[dY,q4,lv,g,cD,reduceIte,cJ,Nat.reduceAdd];refine hrep _ _ O4.slR c0 λh5 v5 S5 N5 u5=>?_;obtain⟨R,hR⟩:∃R,xJ room l=R:=⟨_,rfl⟩;rw[hR] at bad hk hmay S5 ⊢;simp only[cD,reduceIte,cJ,Nat.reduceAdd];have B5:=B4.ext u5;obtain⟨b',m',c',rfl⟩:=uI S5;refine aT.put B5 (vs:=R.1.cells (.slice b' m' c')) (o:=0) rfl (by show 0+5≤5;decide) (by simp[Dm.cells,fH]) λh6 B6 u6=>?_;have W6:=(W4.ext u5).upd u6 (lH r5w);have m5:∀b∈nN (.slice b' m' c') R.1.its.length,h4 b=none:=λb hb=>nN.new N5 hb;have r5s:r5∉nN (.slice b' m' c') R.1.its.length:=λhm=>B4.known (m5 r5 hm);have S6:=aFQ S5 u6 (lH r5s);have f5:h r5=none:=u1.none hr5;have st6:eX h F h6 F4:=⟨(st4'.upd.trans u5.upd).then u6 (λb hb=>by
     simp only[iI] at hb;rw[hb];exact .inr f5),st4'.grow⟩
    by_cases c2:R.2=0
    ·have q2:(R.2 !=0)=false:=by rw[c2];rfl
     rw[if_neg (λe=>e c2)] at bad hk;simp only[dY,q2,cD,reduceIte,cJ,Nat.reduceAdd];refine aMt (h0:=h) (F0:=F) (s:=R.1) (iv:=.slice b' m' c') W6 B6 S6 (λb hb hf=>W4.known b hf (m5 b hb)) r5w (λb hb=>st4'.none (m5 b hb)) st6 (hmay c2).1 (hmay c2).2 (by omega) (λh' F' D' st ne=>?_) (λh' F' j J st e=>?_)
     ·rw[if_pos ne] at bad;exact bad h' F' D' st ne
     ·rw[if_neg (λx=>x e)] at hk;exact hk h' F' w j J st rfl
    ·have q2:(R.2 !=0)=true:=bne_iff_ne.2 c2;rw[if_pos c2] at bad;simp only[dY,q2,cD,reduceIte,cJ,Nat.reduceAdd];obtain⟨Fd,eF,-,D6,-⟩:=W6.here;exact bad h6 Fd D6 ⟨st6.upd,λb hb=>st6.grow b (by rw[eF];simp[hb])⟩ c2
 ·have qc:(chk ⟨p,q,[]⟩ room !=0)=true:=bne_iff_ne.2 c;rw[if_pos c] at bad;have c1:chk ⟨p,q,[]⟩ room=1:=(aUn p q room).resolve_left c;rw[c1] at bad;simp only[dY,qc,cD,reduceIte,cJ,Nat.reduceAdd];exact bad h3 F (D.ext e3) (eX.ext e3) (by show(1:Int)≠0;decide)
abbrev JP:=Option (Nat×Nat×Jn)
def aDp:JP->Value
 | none=>.pointer none
 | some (_,j,_)=>pT j 0
def aDp.isC(p:JP):fH (aDp p)=true:=by cases p<;>rfl
def PrA(a:Nat)(d:Dk):JP->aOw
 | none=>qF a d
 | some (w,j,x)=>sZ a w j d x
def DpA(m:Nat)(d:Dk):JP->aOw
 | none=>rQ m d
 | some (w,j,x)=>JoA m w j d x
def PrA.good(a:Nat)(d:Dk)(p:JP):aHM (PrA a d p):=by
 cases p with
 | none=>exact qF.good a d
 | some t=>exact sZ.good a t.1 t.2.1 d t.2.2
def DpA.good(a:Nat)(d:Dk)(p:JP):aHM (DpA a d p):=by
 cases p with
 | none=>exact rQ.good a d
 | some t=>exact JoA.good a t.1 t.2.1 d t.2.2
def PrA.disk{a:Nat}{d:Dk}{p:JP}{h:PH}{F:List Nat}(H:PrA a d p h F):∃Fd,qF a d h Fd∧∀b∈Fd,b∈F:=by
 cases p with
 | none=>exact⟨F,H,λb hb=>hb⟩
 | some t=>
  obtain⟨w,j,x⟩:=t;have H:sZ a w j d x h F:=H;obtain⟨Fw,iv,rfl,B,W,-⟩:=H.here;obtain⟨Fd,rfl,Bw,D,-⟩:=W.here;exact⟨Fd,D,λb hb=>by simp[hb]⟩
def DpA.disk{a:Nat}{d:Dk}{p:JP}{h:PH}{F:List Nat}(H:DpA a d p h F):∃Fd,rQ a d h Fd∧∀b∈Fd,b∈F:=by
 cases p with
 | none=>exact⟨F,H,λb hb=>hb⟩
 | some t=>
  obtain⟨w,j,x⟩:=t;have H:JoA a w j d x h F:=H;obtain⟨Fw,iv,rfl,B,W,-⟩:=H.here;obtain⟨Fd,rfl,Bw,D,-⟩:=W.here;exact⟨Fd,D,λb hb=>by simp[hb]⟩
def eX.wide{h h':PH}{F F' G:List Nat}(s:eX h F h' F')(hG:∀b∈F,b∈G):eX h G h' F':=
 ⟨s.upd.mono λb hb=>.inl (hG b hb),λb hb=>(s.grow b hb).imp (hG b) id⟩
def eX.app{h h':PH}{F F':List Nat}(L:List Nat)(s:eX h F h' F'):eX h (L++F) h' (L++F'):=
 ⟨s.upd.mono λb hb=>.inl (by simp[hb]),λb hb=>by
  rcases xA.1 hb with hb|hb
  ·exact .inl (by simp[hb])
  ·exact(s.grow b hb).imp (λx=>by simp[x]) id⟩
def eX.appR{h h':PH}{F F':List Nat}(L:List Nat)(s:eX h F h' F'):eX h (F++L) h' (F'++L):=
 ⟨s.upd.mono λb hb=>.inl (by simp[hb]),λb hb=>by
  rcases xA.1 hb with hb|hb
  ·exact(s.grow b hb).imp (λx=>by simp[x]) id
  ·exact .inl (by simp[hb])⟩
def eX.of{h h':PH}{F K:List Nat}(u:cV K h h')(hK:∀b∈K,b∈F):eX h F h' F:=⟨u.mono λb hb=>.inl (hK b hb),λb hb=>.inl hb⟩
def aCp(a m:Nat)(jp:JP)(e:Int)(vp:JP)(room:Int)(p q:Pl):List Value:=
 [pT a 0,aDp jp,.int .i64 e,pT m 0,aDp vp,.int .i64 room,.int .u64 p.h,.int .i64 p.i,.int .u64 q.h,.int .i64 q.i]
structure oD(r a m:Nat)(d:Dk)(jp:JP)(e:Int)(d2:Dk)(vp:JP)(room:Int)(p q:Pl)(h:PH)(F:List Nat):Prop where
 here:∃Fa Fm,F=r::(Fa++Fm)∧Bx h r (aCp a m jp e vp room p q)∧PrA a d jp h Fa∧DpA m d2 vp h Fm∧r∉Fa∧r∉Fm∧∀b∈Fa,b∉Fm
def oD.known{r a m:Nat}{d d2:Dk}{jp vp:JP}{e room:Int}{p q:Pl}{h:PH}{F:List Nat}(H:oD r a m d jp e d2 vp room p q h F):∀b∈F,h b≠none:=by
 obtain⟨Fa,Fm,rfl,B,P,D,-⟩:=H.here;intro b hb;simp only[iM,xA] at hb;rcases hb with rfl|hb|hb
 ·exact B.known
 ·exact(PrA.good a d jp).known P b hb
 ·exact(DpA.good m d2 vp).known D b hb
def oD.upd{r a m:Nat}{d d2:Dk}{jp vp:JP}{e room:Int}{p q:Pl}{h h':PH}{F K:List Nat}(H:oD r a m d jp e d2 vp room p q h F)(u:cV K h h')(hK:∀b∈F,b∉K):oD r a m d jp e d2 vp room p q h' F:=by
 obtain⟨Fa,Fm,rfl,B,P,D,n⟩:=H.here;exact⟨⟨Fa,Fm,rfl,B.upd u (hK r (by simp)),(PrA.good a d jp).upd P u (λb hb=>hK b (by simp[hb])),(DpA.good m d2 vp).upd D u (λb hb=>hK b (by simp[hb])),n⟩⟩
def oD.good(r a m:Nat)(d:Dk)(jp:JP)(e:Int)(d2:Dk)(vp:JP)(room:Int)(p q:Pl):aHM (oD r a m d jp e d2 vp room p q):=⟨λH=>H.known,λH u hK=>H.upd u hK⟩
def oD.ext{r a m:Nat}{d d2:Dk}{jp vp:JP}{e room:Int}{p q:Pl}{h h':PH}{F:List Nat}(H:oD r a m d jp e d2 vp room p q h F)(u:cX h h'):oD r a m d jp e d2 vp room p q h' F:=(oD.good r a m d jp e d2 vp room p q).ext H u
def oD.prog{r a m:Nat}{d d2 d':Dk}{jp vp jp':JP}{e e' room:Int}{p q:Pl}{h h':PH}{Fa Fm Fa':List Nat}(B:Bx h r (aCp a m jp e vp room p q))(D:DpA m d2 vp h Fm)(n1:r∉Fa)(n2:r∉Fm)(n3:∀b∈Fa,b∉Fm)(s:eX h Fa h' Fa'):
  Bx h' r (aCp a m jp e vp room p q)∧DpA m d2 vp h' Fm∧r∉Fa'∧(∀b∈Fa',b∉Fm):=
 ⟨B.upd s.upd n1,(DpA.good m d2 vp).upd D s.upd (λb hb hm=>n3 b hm hb),(B.step s n1).2,λb hb hm=>by
  rcases s.grow b hb with x|x
  ·exact n3 b x hm
  ·exact(DpA.good m d2 vp).known D b hm x⟩
def oD.docu{r a m:Nat}{d d2:Dk}{jp vp:JP}{e room:Int}{p q:Pl}{h h':PH}{Fa Fm Fm':List Nat}(B:Bx h r (aCp a m jp e vp room p q))(P:PrA a d jp h Fa)(n1:r∉Fa)(n2:r∉Fm)(n3:∀b∈Fa,b∉Fm)(s:eX h Fm h' Fm'):
  Bx h' r (aCp a m jp e vp room p q)∧PrA a d jp h' Fa∧r∉Fm'∧(∀b∈Fa,b∉Fm'):=
 ⟨B.upd s.upd n2,(PrA.good a d jp).upd P s.upd n3,(B.step s n2).2,λb hb hm=>by
  rcases s.grow b hm with x|x
  ·exact n3 b hb x
  ·exact(PrA.good a d jp).known P b hb x⟩
def aV6(a m:Nat)(room:Int)(p q:Pl):cC PG (build dK #[(0,pT a 0),(3,pT m 0),(5,.int .i64 room),(6,lC p q)])=some (.agg (aCp a m none 0 none room p q).toArray):=by kernel_rfl
def aM8{h:PH}(size sectors:Nat)(ok:fS size)(h1:1≤sectors)(h2:sectors≤4096)(room:Int)(p q:Pl){k:cF}
  (hk:∀h' r a m F,oD r a m (Dk.new size sectors) none 0 (Dk.new size sectors) none room p q h' F->dX h F->cX h h'->k (pT r 0) h'):bW PG wC #[.int .i64 (size:Int),.int .i64 (sectors:Int),.int .i64 room,lC p q] h k:=by
 apply sD.call;unfold sD;intro r1 hr1
 try rw[cO]
 have u1:cX h (h.set r1 (.cells (Value.cells (lC p q)) cR)):=cV.new hr1;have B1:Bx (h.set r1 (.cells (Value.cells (lC p q)) cR)) r1 (p.cells++q.cells):=Bx.new;generalize h.set r1 (.cells (Value.cells (lC p q)) cR)=g1 at *;refine aUH size sectors ok h1 h2 λh2 a Fa D2 f2 u2=>?_;have q0:((0:Int) !=0)=false:=rfl;have pn:∀{h:PH} {x y:Operand},cB PG h (fJ .eql gC x y (pT a 0) (.pointer none))=some (.bool false):=fun {h x y}=>wT (P:=PG) (a:=some ⟨a,0,none⟩) gC.und;have l2:cB PG h2 (loadAt cR (pT r1 0))=some (lC p q):=cR.agg (B1.ext u2) (by show 0+4≤4;decide);simp only[dY,q0,pn,l2,cD,reduceIte,cJ,Nat.reduceAdd];refine aS0 size sectors ok h1 (by assumption) λh3 m Fm D3 f3 u3=>?_;have l3:cB PG h3 (loadAt cR (pT r1 0))=some (lC p q):=cR.agg ((B1.ext u2).ext u3) (by show 0+4≤4;decide);refine⟨l3,?_⟩;simp only[aV6,cD,reduceIte,cJ,Nat.reduceAdd];intro r20 hr20
 try rw[cO]
 have u4:cX h3 (h3.set r20 (.cells (Value.cells (.agg (aCp a m none 0 none room p q).toArray)) dK)):=cV.new hr20;have B4:Bx (h3.set r20 (.cells (Value.cells (.agg (aCp a m none 0 none room p q).toArray)) dK)) r20 (aCp a m none 0 none room p q):=Bx.new;generalize h3.set r20 (.cells (Value.cells (.agg (aCp a m none 0 none room p q).toArray)) dK)=h4 at *;have e2:=u1.trans u2;have e3:=e2.trans u3;refine hk h4 r20 a m (r20::(Fa++Fm)) ⟨⟨Fa,Fm,rfl,B4,(D2.ext u3).ext u4,D3.ext u4,λhm=>(D2.ext u3).known r20 hm hr20,λhm=>D3.known r20 hm hr20,λb hb hm=>D2.known b hb (f3 b hm)⟩⟩ (λb hb=>?_) (e3.trans u4);simp only[iM,xA] at hb;rcases hb with rfl|hb|hb
 ·exact e3.none hr20
 ·exact u1.none (f2 b hb)
 ·exact e2.none (f3 b hb)
def aD3(A:Dk×Jn×Int)(jp:JP):Prop:=(A.2.2=0->∃w j,jp=some (w,j,A.2.1))∧(A.2.2≠0->jp=none)
def aPu{h:PH}{a:Nat}{d:Dk}{F:List Nat}(D:qF a d h F)(room:Int)(p q:Pl)(wp:p.wf)(wq:q.wf)(hs:d.sectors≤1000)(hb:d.buf.length≤800000){k:cF}
  (hk:∀h' F' jp',PrA a (iT d room p q).1 jp' h' F'->eX h F h' F'->aD3 (iT d room p q) jp'->k (.tuple #[aDp jp',.int .i64 (iT d room p q).2.2]) h'):bW PG yQ #[pT a 0,.int .i64 room,lC p q] h k:=by
 refine aTl D room p q wp wq hs hb (λh1 F1 D1 s1 ne=>?_) (λh1 F1 w j J1 s1 e0=>?_)
 ·exact hk h1 F1 none D1 s1 ⟨λe=>absurd e ne,λ_=>rfl⟩
 ·have:=hk h1 F1 (some (w,j,(iT d room p q).2.1)) J1 s1 ⟨λ_=>⟨w,j,rfl⟩,λne=>absurd e0 ne⟩;rw[e0] at this;exact this
def aTW{h:PH}{a:Nat}{d:Dk}{F:List Nat}(D:rQ a d h F)(room:Int)(p q:Pl)(wp:p.wf)(wq:q.wf)(hs:d.sectors≤1000)(hb:d.buf.length≤800000){k:cF}
  (hrep:∀(h:PH) (v:Value),hC h 1 v ((fL d).2.1.2.map kA)->(fL d).2.1.2≠[]->∀{k:cF},(∀h' v',jL h' v' (xJ room (fL d).2.1.2).1.its->iD h v'->cX h h'->k (.tuple #[(xJ room (fL d).2.1.2).1.v v',.int .i64 (xJ room (fL d).2.1.2).2]) h')->bW PG nW #[.int .i64 room,v] h k)
  (hk:∀h' F' jp',DpA a (iT d room p q).1 jp' h' F'->eX h F h' F'->aD3 (iT d room p q) jp'->k (.tuple #[aDp jp',.int .i64 (iT d room p q).2.2]) h'):bW PG wJ #[pT a 0,.int .i64 room,lC p q] h k:=by
 refine aSV D room p q wp wq hs hb hrep (λh1 F1 D1 s1 ne=>?_) (λh1 F1 w j J1 s1 e0=>?_)
 ·exact hk h1 F1 none D1 s1 ⟨λe=>absurd e ne,λ_=>rfl⟩
 ·have:=hk h1 F1 (some (w,j,(iT d room p q).2.1)) J1 s1 ⟨λ_=>⟨w,j,rfl⟩,λne=>absurd e0 ne⟩;rw[e0] at this;exact this
def aMb{h:PH}{x y:Operand}(p:JP):cB PG h (fJ .eql eJ x y (aDp p) (.pointer none))=some (.bool p.isNone):=by
 cases p with
 | none=>exact wT (P:=PG) (a:=none) eJ.und
 | some t=>exact wT (P:=PG) (a:=some ⟨t.2.1,0,none⟩) eJ.und
def aXC{h:PH}{x y:Operand}(p:JP):cB PG h (fJ .eql fK x y (aDp p) (.pointer none))=some (.bool p.isNone):=by
 cases p with
 | none=>exact wT (P:=PG) (a:=none) fK.und
 | some t=>exact wT (P:=PG) (a:=some ⟨t.2.1,0,none⟩) fK.und
def aD3.nil{A:Dk×Jn×Int}{jp:JP}(o:aD3 A jp):jp.isNone=decide (A.2.2≠0):=by
 by_cases c:A.2.2=0
 ·obtain⟨w,j,e⟩:=o.1 c;rw[e,decide_eq_false (λx=>x c)];rfl
 ·rw[o.2 c,decide_eq_true c];rfl
def aWm{h:PH}{x y:Operand}(a b:Bool):cB PG h (fJ .eql iY x y (.bool a) (.bool b))=some (.bool (a==b)):=by
 cases a<;>cases b<;>kernel_rfl
def aPF{h:PH}{r a m:Nat}{d d2:Dk}{jp vp:JP}{e room:Int}{p q:Pl}{F:List Nat}(H:oD r a m d jp e d2 vp room p q h F)(wp:p.wf)(wq:q.wf)(hs:d.sectors≤1000)(hs2:d2.sectors≤1000)(hb:d.buf.length≤800000)(hb2:d2.buf.length≤800000){k:cF}
  (hrep:∀(h:PH) (v:Value),hC h 1 v ((fL d2).2.1.2.map kA)->(fL d2).2.1.2≠[]->∀{k:cF},(∀h' v',jL h' v' (xJ room (fL d2).2.1.2).1.its->iD h v'->cX h h'->k (.tuple #[(xJ room (fL d2).2.1.2).1.v v',.int .i64 (xJ room (fL d2).2.1.2).2]) h')->bW PG nW #[.int .i64 room,v] h k)
  (hk:∀h' F' jp' vp',oD r a m (iT d room p q).1 jp' (iT d room p q).2.2 (iT d2 room p q).1 vp' room p q h' F'->eX h F h' F'->aD3 (iT d room p q) jp'->aD3 (iT d2 room p q) vp'->k (.bool (decide ((iT d room p q).2.2=(iT d2 room p q).2.2))) h'):bW PG mG #[pT r 0] h k:=by
 apply nZ.call;unfold nZ;obtain⟨Fa,Fm,rfl,B,P,D,n1,n2,n3⟩:=H.here;obtain⟨Fd,Da,hFd⟩:=PrA.disk P;have c0:cU h ⟨r,0,none⟩=some (pT a 0):=B.cell 0;have c5:cU h ⟨r,0+5,none⟩=some (.int .i64 room):=B.cell 5;have l6:cB PG h (loadAt cR (pT r (0+6)))=some (lC p q):=cR.agg B (by show 0+6+4≤10;decide);simp only[dK.f0,dK.f5,dK.f6,gC.load,aR.load,c0,c5,l6,cD,reduceIte,cJ,Nat.reduceAdd];refine aPu Da room p q wp wq hs hb λh1 Fa' jp' P1 s1 o1=>?_;obtain⟨B1,D1,n1',n3'⟩:=oD.prog (d:=d) (d':=d) (jp':=jp) (e':=e) B D n1 n2 n3 (s1.wide hFd);obtain⟨A,hA⟩:∃A,iT d room p q=A:=⟨_,rfl⟩;rw[hA] at hk P1 o1 ⊢;simp only[dK.f1,dK.f2,cD,reduceIte,cJ,Nat.reduceAdd];refine eJ.put B1 (o:=1) (by show 1<10;decide) (aDp.isC jp') λh2 B2 u2=>?_;refine dF.put B2 (o:=2) (by show 2<10;decide) rfl λh3 B3 u3=>?_;have B3:Bx h3 r (aCp a m jp' A.2.2 vp room p q):=B3;have u23:=u2.trans u3;have P3:=(PrA.good a A.1 jp').upd P1 u23 (lH n1');have D3:=(DpA.good m d2 vp).upd D1 u23 (lH n2);have c3:cU h3 ⟨r,0+3,none⟩=some (pT m 0):=B3.cell 3;have c5':cU h3 ⟨r,0+5,none⟩=some (.int .i64 room):=B3.cell 5;have l6':cB PG h3 (loadAt cR (pT r (0+6)))=some (lC p q):=cR.agg B3 (by show 0+6+4≤10;decide);obtain⟨Fdm,Dm,hFm⟩:=DpA.disk D3;simp only[dK.f3,dK.f5,dK.f6,fV.load,aR.load,c3,c5',l6',cD,reduceIte,cJ,Nat.reduceAdd];refine aTW Dm room p q wp wq hs2 hb2 hrep λh4 Fm' vp' P4 s4 o4=>?_;obtain⟨B4,Pa4,n2',n3''⟩:=oD.docu (d2:=d2) B3 P3 n1' n2 n3' (s4.wide hFm);obtain⟨A2,hA2⟩:∃A,iT d2 room p q=A:=⟨_,rfl⟩;rw[hA2] at hk P4 o4 ⊢;simp only[dK.f4,cD,reduceIte,cJ,Nat.reduceAdd];refine fK.put B4 (o:=4) (by show 4<10;decide) (aDp.isC vp') λh5 B5 u5=>?_;have B5:Bx h5 r (aCp a m jp' A.2.2 vp' room p q):=B5;have P5:=(PrA.good a A.1 jp').upd Pa4 u5 (lH n1');have D5:=(DpA.good m A2.1 vp').upd P4 u5 (lH n2');have c1:cU h5 ⟨r,0+1,none⟩=some (aDp jp'):=B5.cell 1;have c2:cU h5 ⟨r,0+2,none⟩=some (.int .i64 A.2.2):=B5.cell 2;have c4:cU h5 ⟨r,0+4,none⟩=some (aDp vp'):=B5.cell 4;have fin:k (.bool (decide (A.2.2=A2.2.2))) h5:=by
  refine hk h5 (r::(Fa'++Fm')) jp' vp' ⟨⟨Fa',Fm',rfl,B5,P5,D5,n1',n2',n3''⟩⟩ ?_ o1 o4;have t1:eX h (r::(Fa++Fm)) h1 (r::(Fa'++Fm)):=eX.app [r] (eX.appR Fm (s1.wide hFd));have t2:eX h1 (r::(Fa'++Fm)) h3 (r::(Fa'++Fm)):=eX.of u23 (by simp);have t3:eX h3 (r::(Fa'++Fm)) h4 (r::(Fa'++Fm')):=eX.app (r::Fa') (s4.wide hFm);have t4:eX h4 (r::(Fa'++Fm')) h5 (r::(Fa'++Fm')):=eX.of u5 (by simp);exact((t1.trans t2).trans t3).trans t4
 have qe:(A.2.2==A2.2.2)=decide (A.2.2=A2.2.2):=by rw[xE,beq_iff_eq,decide_eq_true_iff]
 by_cases c:A.2.2=A2.2.2
 ·rw[decide_eq_true c] at fin;have qt:(A.2.2==A2.2.2)=true:=by rw[qe,decide_eq_true c]
  have eb:(jp'.isNone==vp'.isNone)=true:=by rw[o1.nil,o4.nil,c];simp
  simp only[dK.f1,dK.f2,dK.f4,dF.load,eJ.load,fK.load,c1,c2,c4,fO,qt,aMb,aXC,aWm,eb,cD,reduceIte,cJ,Nat.reduceAdd];exact fin
 ·rw[decide_eq_false c] at fin;have qf:(A.2.2==A2.2.2)=false:=by rw[qe,decide_eq_false c]
  simp only[dK.f2,dF.load,c2,fO,qf,cD,reduceIte,cJ,Nat.reduceAdd];exact fin
def aBo{t:Tx}{c:Nat}(h:t.length<c):fC (0,t) c=(0,((6:Int),t)):=by
 unfold fC;rw[aMR h];rfl
def aJl{e:Int}{t:Tx}{n:Int}(he:e≠0):lS (e,t) n=([],(e,t)):=by
 unfold lS;rw[if_neg (λh=>he h.1)];simp only;rw[if_neg he]
def aFz{e:Int}{t:Tx}{c:Nat}(he:e≠0):fC (e,t) c=(0,(e,t)):=by
 unfold fC;rw[aJl he];rfl
def aQb{e:Int}{t:Tx}(he:e≠0):vM (e,t)=([],(e,t)):=by
 unfold vM;rw[aFz he,aJl he]
def aQe{t:Tx}{c:Nat}:fC ((6:Int),t) c=(0,((6:Int),t)):=aFz (by decide)
def aL6{t:Tx}:vM ((6:Int),t)=([],((6:Int),t)):=aQb (by decide)
def aNG(s:Tx):
  (s.length<16∧(gN (0,s)).1=Pl.zero∧(gN (0,s)).2.1=6)∨
  (16≤s.length∧65535<kY ((s.drop 8).take 8)∧(gN (0,s)).1=Pl.zero∧(gN (0,s)).2.1=5)∨
  (16≤s.length∧kY ((s.drop 8).take 8)≤65535∧gN (0,s)=(⟨(kY (s.take 8):Nat),(kY ((s.drop 8).take 8):Nat)⟩,((0:Int),s.drop 16))):=by
 by_cases h16:s.length<16
 ·left;refine⟨h16,?_⟩;unfold gN;by_cases h8:s.length<8
  ·rw[aBo h8];simp only;rw[aFz (by decide)];exact⟨rfl,rfl⟩
  ·rw[oJ (t:=s) (c:=8) (by omega)];simp only;rw[aBo (t:=s.drop 8) (by rw[jE];omega)];exact⟨rfl,rfl⟩
 ·right;have e1:fC (0,s) 8=(kY (s.take 8),((0:Int),s.drop 8)):=oJ (by omega);have e2:fC (0,s.drop 8) 8=(kY ((s.drop 8).take 8),((0:Int),s.drop 16)):=by
   rw[oJ (by rw[jE];omega),pN]
  unfold gN;rw[e1];simp only;rw[e2];simp only;by_cases c:65535<kY ((s.drop 8).take 8)
  ·left;rw[if_pos c];exact⟨by omega,c,rfl,rfl⟩
  ·right;rw[if_neg c];exact⟨by omega,by omega,rfl⟩
def aT8:cC PG (build cG #[])=some (.agg Pl.zero.cells.toArray):=by kernel_rfl
def aVt(a b:Int):cC PG (build cG #[(0,.int .u64 a),(1,.int .i64 b)])=some (.agg (Pl.cells ⟨a,b⟩).toArray):=by kernel_rfl
def aTh(n:Nat)(hn:n<9223372036854775808):cC PG (convert cI aR (.int .u64 (n:Int)))=some (.int .i64 (n:Int)):=by
 rw[show cC PG (convert cI aR (.int .u64 (n:Int)))=some (.int .i64 (IntKind.i64.wrap (n:Int))) from by kernel_rfl,eI (by omega) (by omega)]
def aJV{h:PH}(s:Tx)(hs:s.length≤1000000){k:cF}(hk:∀h',cX h h'->k (.tuple #[.agg (gN (0,s)).1.cells.toArray,.int .i64 (if (gN (0,s)).2.1=0 then 16 else 0),.int .i64 (gN (0,s)).2.1]) h'):bW PG sC #[.string (tx s)] h k:=by
 apply vN.call;unfold vN;intro r1 hr1
 try rw[cO]
 have Z1:Bx (h.set r1 (.cells (dD PG cG) cG)) r1 Pl.zero.cells:=cG.zbox;have u1:cX h (h.set r1 (.cells (dD PG cG) cG)):=cV.new hr1;generalize h.set r1 (.cells (dD PG cG) cG)=h1 at *;have fin:∀{h':PH} (q:Pl) (n e:Int),(gN (0,s)).1=q->(gN (0,s)).2.1=e->(if e=0 then(16:Int) else 0)=n->Bx h' r1 Pl.zero.cells->cX h h'->cM PG (cP cG (pT r1 0) (.agg q.cells.toArray)) h' λ_ h8=>bZ (cB PG h8 (loadAt cG (pT r1 0))) λv9=>k (.tuple #[v9,.int .i64 n,.int .i64 e]) h8:=by
  intro h' q n e hq he hn B w;refine cG.put B (vs:=q.cells) (o:=0) rfl (by show 0+2≤2;decide) (by simp[Pl.cells,fH]) λh2 B2 u2=>?_;have B2:Bx h2 r1 q.cells:=B2;have l2:cB PG h2 (loadAt cG (pT r1 0))=some (.agg q.cells.toArray):=aBs B2 rfl;simp only[l2,iE,zPP];have:=hk h2 (w.fresh u2 (dX.one hr1));rw[hq,he,hn] at this;exact this
 rcases aNG s with⟨c,e1,e2⟩|⟨c,c2,e1,e2⟩|⟨c,c2,e⟩
 ·have g:((s.length:Int)<16)=True:=eq_true (by omega);simp only[iL,g,aT8,cD,reduceIte,cJ,Nat.reduceAdd];exact fin Pl.zero 0 6 e1 e2 rfl Z1 u1
 ·have g:((s.length:Int)<16)=False:=eq_false (by omega);have c1:cC PG (Instr.sliceAt bR (.string (tx s)) (some (.int .i64 8)) (some (.int .i64 16)) none)=some (.string (tx ((s.drop 8).take 8))):=by
   have:=kI (P:=PG) (t:=bR) (l:=s) (i:=8) (j:=16) (lo:=some (.int .i64 8)) (hi:=some (.int .i64 16)) bR.und (.inr ⟨_,rfl⟩) (.inr ⟨_,rfl⟩) (by omega) (by omega);rw[this,zLy]
  have g2:((65535:Int)<(kY ((s.drop 8).take 8):Int))=True:=eq_true (by omega);simp only[iL,g,c1,cD,reduceIte,cJ,Nat.reduceAdd];refine aBG (by rw[mH];omega) ?_;simp only[g2,aT8,cD,reduceIte,cJ,Nat.reduceAdd];exact fin Pl.zero 0 5 e1 e2 rfl Z1 u1
 ·have g:((s.length:Int)<16)=False:=eq_false (by omega);have c1:cC PG (Instr.sliceAt bR (.string (tx s)) (some (.int .i64 8)) (some (.int .i64 16)) none)=some (.string (tx ((s.drop 8).take 8))):=by
   have:=kI (P:=PG) (t:=bR) (l:=s) (i:=8) (j:=16) (lo:=some (.int .i64 8)) (hi:=some (.int .i64 16)) bR.und (.inr ⟨_,rfl⟩) (.inr ⟨_,rfl⟩) (by omega) (by omega);rw[this,zLy]
  have c0:cC PG (Instr.sliceAt bR (.string (tx s)) none (some (.int .i64 8)) none)=some (.string (tx (s.take 8))):=by
   have:=kI (P:=PG) (t:=bR) (l:=s) (i:=0) (j:=8) (lo:=none) (hi:=some (.int .i64 8)) bR.und (.inl ⟨rfl,rfl⟩) (.inr ⟨_,rfl⟩) (by omega) (by omega);rw[this,zLb]
  have g2:((65535:Int)<(kY ((s.drop 8).take 8):Int))=False:=eq_false (by omega);simp only[iL,g,c1,cD,reduceIte,cJ,Nat.reduceAdd];refine aBG (by rw[mH];omega) ?_;simp only[g2,c0,cD,reduceIte,cJ,Nat.reduceAdd];refine aBG (by rw[mH];omega) ?_;simp only[aTh _ (show kY ((s.drop 8).take 8)<9223372036854775808 by omega),aVt,cD,reduceIte,cJ,Nat.reduceAdd];exact fin _ 16 0 (by rw[e]) (by rw[e]) rfl Z1 u1
def dpN(s:Tx):Nat:=kY ((s.drop 17).take 2)
def dpk(s:Tx):Pk:=⟨(kY (s.take 1):Nat),(kY ((s.drop 1).take 8):Nat),(kY ((s.drop 9).take 8):Nat),tx ((s.drop 19).take (dpN s))⟩
def aH0(s:Tx):
  ((s.length<19∨s.length<19+dpN s)∧(oA (0,s)).1=default∧(oA (0,s)).2.1=6)∨
  (19+dpN s≤s.length∧(dpk s).right=false∧(oA (0,s)).1=default∧(oA (0,s)).2.1=5)∨
  (19+dpN s≤s.length∧(dpk s).right=true∧oA (0,s)=(dpk s,((0:Int),s.drop (19+dpN s)))):=by
 have bad:∀{t:Tx},(rC (0,s)).2=((6:Int),t)->(oA (0,s)).1=default∧(oA (0,s)).2.1=6:=fun {t} h=>by
  have e:(if (rC (0,s)).1.right then(rC (0,s)).2 else wL (rC (0,s)).2 5)=((6:Int),t):=by
   split
   ·exact h
   ·rw[h];rfl
  unfold oA;simp only;rw[e];exact⟨rfl,rfl⟩
 by_cases h1:s.length<1
 ·refine .inl ⟨.inl (by omega),bad (t:=s) ?_⟩;unfold rC rB rA;rw[aBo h1];simp only[aQe,aL6]
 have e1:fC (0,s) 1=(kY (s.take 1),((0:Int),s.drop 1)):=oJ (by omega);by_cases h9:s.length<9
 ·refine .inl ⟨.inl (by omega),bad (t:=s.drop 1) ?_⟩;unfold rC rB rA;rw[e1];simp only;rw[aBo (t:=s.drop 1) (c:=8) (by rw[jE];omega)];simp only[aQe,aL6]
 have e2:fC (0,s.drop 1) 8=(kY ((s.drop 1).take 8),((0:Int),s.drop 9)):=by rw[oJ (by rw[jE];omega),pN]
 by_cases h17:s.length<17
 ·refine .inl ⟨.inl (by omega),bad (t:=s.drop 9) ?_⟩;unfold rC rB rA;rw[e1];simp only;rw[e2];simp only;rw[aBo (t:=s.drop 9) (c:=8) (by rw[jE];omega)];simp only[aL6]
 have e3:fC (0,s.drop 9) 8=(kY ((s.drop 9).take 8),((0:Int),s.drop 17)):=by rw[oJ (by rw[jE];omega),pN]
 by_cases h19:s.length<19
 ·refine .inl ⟨.inl (by omega),bad (t:=s.drop 17) ?_⟩;unfold rC rB rA vM;rw[e1];simp only;rw[e2];simp only;rw[e3];simp only;rw[aBo (t:=s.drop 17) (c:=2) (by rw[jE];omega)];simp only;rw[aJl (by decide)]
 have e4:fC (0,s.drop 17) 2=(dpN s,((0:Int),s.drop 19)):=by rw[oJ (by rw[jE];omega),pN];rfl
 by_cases hn:s.length<19+dpN s
 ·refine .inl ⟨.inr hn,bad (t:=s.drop 19) ?_⟩;unfold rC rB rA vM;rw[e1];simp only;rw[e2];simp only;rw[e3];simp only;rw[e4];simp only;rw[aMR (by rw[jE];omega)]
 right;have eC:rC (0,s)=(dpk s,((0:Int),s.drop (19+dpN s))):=by
  unfold rC rB rA vM;rw[e1];simp only;rw[e2];simp only;rw[e3];simp only;rw[e4];simp only;rw[aIT (by rw[jE];omega),pN];rfl
 cases cr:(dpk s).right with
 | false=>
  left;refine⟨by omega,rfl,?_⟩;unfold oA;simp only;rw[eC];simp only;rw[cr];exact⟨rfl,rfl⟩
 | true=>
  right;refine⟨by omega,rfl,?_⟩;unfold oA;simp only;rw[eC];simp only;rw[cr];rfl
def aIx{h:PH}{r:Nat}{x:Pk}(B:Bx h r x.cells):cB PG h (loadAt bX (pT r 0))=some (.agg x.cells.toArray):=bX.agg B (by show 0+4≤4;decide)
def aUM(a b c:Int)(d:ByteArray):cC PG (build bX #[(0,.int .i64 a),(1,.int .u64 b),(2,.int .u64 c),(3,.string d)])=some (.agg (Pk.cells ⟨a,b,c,d⟩).toArray):=by kernel_rfl
def Pk.isC(x:Pk):∀v∈x.cells,fH v=true:=by simp[Pk.cells,fH]
def aRW(s:Tx):dpN s<65536:=by
 have:=aIU ((s.drop 17).take 2);have h2:((s.drop 17).take 2).length≤2:=by rw[mH];omega
 have h3:256^((s.drop 17).take 2).length≤256^2:=aMF (by decide) h2;unfold dpN;omega
def aTc{h:PH}(s:Tx)(hs:s.length≤1000000){k:cF}(hk:∀h',cX h h'->k (.tuple #[.agg (oA (0,s)).1.cells.toArray,.int .i64 (if (oA (0,s)).2.1=0 then((19+dpN s:Nat):Int) else 0),.int .i64 (oA (0,s)).2.1]) h'):bW PG aBt #[.string (tx s)] h k:=by
 apply tK.call;unfold tK;intro r1 hr1
 try rw[cO]
 have Z1:Bx (h.set r1 (.cells (dD PG bX) bX)) r1 (Pk.cells default):=bX.zbox;have u1:cX h (h.set r1 (.cells (dD PG bX) bX)):=cV.new hr1;generalize h.set r1 (.cells (dD PG bX) bX)=h1 at *;have fin:∀{h':PH} (q:Pk) (n e:Int),(oA (0,s)).1=q->(oA (0,s)).2.1=e->(if e=0 then((19+dpN s:Nat):Int) else 0)=n->Bx h' r1 (Pk.cells default)->cX h h'->cM PG (cP bX (pT r1 0) (.agg q.cells.toArray)) h' λ_ h8=>bZ (cB PG h8 (loadAt bX (pT r1 0))) λv9=>k (.tuple #[v9,.int .i64 n,.int .i64 e]) h8:=by
  intro h' q n e hq he hn B w;refine bX.put B (vs:=q.cells) (o:=0) rfl (by show 0+4≤4;decide) q.isC λh2 B2 u2=>?_;have B2:Bx h2 r1 q.cells:=B2;simp only[aIx B2,iE,zPP];have:=hk h2 (w.fresh u2 (dX.one hr1));rw[hq,he,hn] at this;exact this
 by_cases h19:s.length<19
 ·have g:((s.length:Int)<19)=True:=eq_true (by omega);rcases aH0 s with⟨c,e1,e2⟩|⟨c,c2,e1,e2⟩|⟨c,c2,e⟩
  ·simp only[iL,g,aKU,cD,reduceIte,cJ,Nat.reduceAdd];exact fin default 0 6 e1 e2 rfl Z1 u1
  ·omega
  ·omega
 ·have g:((s.length:Int)<19)=False:=eq_false (by omega);have c17:cC PG (Instr.sliceAt bR (.string (tx s)) (some (.int .i64 17)) (some (.int .i64 19)) none)=some (.string (tx ((s.drop 17).take 2))):=by
   have:=kI (P:=PG) (t:=bR) (l:=s) (i:=17) (j:=19) (lo:=some (.int .i64 17)) (hi:=some (.int .i64 19)) bR.und (.inr ⟨_,rfl⟩) (.inr ⟨_,rfl⟩) (by omega) (by omega);rw[this,zLy]
  have hdl:=aRW s;have w1:IntKind.i64.wrap ((19:Int)+(dpN s:Int))=((19+dpN s:Nat):Int):=by rw[eI (by omega) (by omega)];omega
  simp only[iL,g,c17,cD,reduceIte,cJ,Nat.reduceAdd];refine aBG (by rw[mH];omega) ?_;rw[show kY ((s.drop 17).take 2)=dpN s from rfl];by_cases hn:s.length<19+dpN s
  ·have g2:((s.length:Int)<((19+dpN s:Nat):Int))=True:=eq_true (by omega);rcases aH0 s with⟨c,e1,e2⟩|⟨c,c2,e1,e2⟩|⟨c,c2,e⟩
   ·simp only[aTh (dpN s) (by omega),iL,w1,g2,aKU,cD,reduceIte,cJ,Nat.reduceAdd];exact fin default 0 6 e1 e2 rfl Z1 u1
   ·omega
   ·omega
  ·have g2:((s.length:Int)<((19+dpN s:Nat):Int))=False:=eq_false (by omega);obtain⟨b0,hb0⟩:∃b,s[0]? =some b:=⟨_,kV (by omega)⟩;have i0:cC PG (Instr.index bR (.string (tx s)) (.int .i64 0))=some (.int .u8 b0.toNat):=nL (j:=0) bR.und hb0;have d0:kY (s.take 1)=b0.toNat:=by have:=aIl hb0;rw[zLb] at this;exact this
   have c1:cC PG (Instr.sliceAt bR (.string (tx s)) (some (.int .i64 1)) (some (.int .i64 9)) none)=some (.string (tx ((s.drop 1).take 8))):=by
    have:=kI (P:=PG) (t:=bR) (l:=s) (i:=1) (j:=9) (lo:=some (.int .i64 1)) (hi:=some (.int .i64 9)) bR.und (.inr ⟨_,rfl⟩) (.inr ⟨_,rfl⟩) (by omega) (by omega);rw[this,zLy]
   have c9:cC PG (Instr.sliceAt bR (.string (tx s)) (some (.int .i64 9)) (some (.int .i64 17)) none)=some (.string (tx ((s.drop 9).take 8))):=by
    have:=kI (P:=PG) (t:=bR) (l:=s) (i:=9) (j:=17) (lo:=some (.int .i64 9)) (hi:=some (.int .i64 17)) bR.und (.inr ⟨_,rfl⟩) (.inr ⟨_,rfl⟩) (by omega) (by omega);rw[this,zLy]
   have c19:cC PG (Instr.sliceAt bR (.string (tx s)) (some (.int .i64 19)) (some (.int .i64 ((19+dpN s:Nat):Int))) none)=some (.string (tx ((s.drop 19).take (dpN s)))):=by
    have:=kI (P:=PG) (t:=bR) (l:=s) (i:=19) (j:=19+dpN s) (lo:=some (.int .i64 19)) (hi:=some (.int .i64 ((19+dpN s:Nat):Int))) bR.und (.inr ⟨_,rfl⟩) (.inr ⟨_,rfl⟩) (by omega) (by omega);rw[this,zLy,aB0]
   simp only[aTh (dpN s) (by omega),iL,w1,g2,i0,aGV,c1,c9,c19,cD,reduceIte,cJ,Nat.reduceAdd];refine aBG (by rw[mH];omega) ?_;refine aBG (by rw[mH];omega) ?_;rw[←d0];show bZ (cC PG (build bX #[(0,.int .i64 (dpk s).f),(1,.int .u64 (dpk s).s),(2,.int .u64 (dpk s).t),(3,.string (dpk s).d)])) _;simp only[aUM,iE,zPP];intro r31 hr31
   try rw[cO]
   refine bX.fill (vs:=(dpk s).cells) hr31 rfl (dpk s).isC λh5 B5 u5=>?_;have e5:=u1.trans u5;simp only[aIx B5,cD,reduceIte,cJ,Nat.reduceAdd];refine aHo (dpk s) (Int.natCast_nonneg _) (Int.natCast_nonneg _) λh6 u6=>?_;have e6:=e5.trans u6;rcases aH0 s with⟨c,e1,e2⟩|⟨c,c2,e1,e2⟩|⟨c,c2,e⟩
   ·omega
   ·simp only[c2,aKU,cD,reduceIte,cJ,Nat.reduceAdd];exact fin default 0 5 e1 e2 rfl ((Z1.ext u5).ext u6) e6
   ·simp only[c2,aIx (B5.ext u6),w1,cD,reduceIte,cJ,Nat.reduceAdd];exact fin (dpk s) _ 0 (by rw[e]) (by rw[e]) (if_pos rfl) ((Z1.ext u5).ext u6) e6
def aXS{t:Tx}:(oA ((6:Int),t)).2.1=6:=by
 have e:(rC ((6:Int),t)).2=((6:Int),t):=by
  unfold rC rB rA;simp only[aQe,aL6]
 have e2:(if (rC ((6:Int),t)).1.right then(rC ((6:Int),t)).2 else wL (rC ((6:Int),t)).2 5)=((6:Int),t):=by
  split
  ·exact e
  ·rw[e];rfl
 unfold oA;simp only;rw[e2]
def aO9(g:Int):(aAF g (0,[])).2.1=6:=by
 unfold aAF;rw[aBo (t:=[]) (c:=1) (by simp)];simp only;rw[if_pos (.inl (by decide))];unfold wL;rw[aXS,if_neg (by decide)]
def aSX(g:Int)(b:UInt8)(t:Tx):aAF g (0,b::t)=(((b.toNat:Int),(oA (0,t)).1),if (b.toNat:Int)<1∨g<(b.toNat:Int) then wL (oA (0,t)).2 5 else(oA (0,t)).2):=by
 unfold aAF;rw[oJ (t:=b::t) (c:=1) (by simp)];have:kY ((b::t).take 1)=b.toNat:=by simp[kY]
 simp only;rw[this];rfl
def aGn(g:Int)(n:Nat)(st:gQ)(acc:List (Int×Pk))(h:st.1≠0):jH g n st acc=(acc,st):=by
 cases n with
 | zero=>rfl
 | succ n=>unfold jH;rw[if_neg h]
def aTo(g:Int)(n:Nat)(st:gQ)(acc:List (Int×Pk))(h:st.1=0):jH g (n+1) st acc=jH g n (aAF g st).2 (acc++[(aAF g st).1]):=by
 conv=>lhs;unfold jH
 rw[if_pos h]
def kc(x:Int×Pk):List Value:=[.int .i64 x.1]
def pc(x:Int×Pk):List Value:=x.2.cells
def aUX(a:Int):jT PG (buildSlice lP 1 #[(0,.int .i64 a)])=some (.cells #[.int .i64 a] aR,λr=>pure (.slice (some ⟨r,0,none⟩) 1 1)):=by kernel_rfl
def aVN(a b c:Int)(d:ByteArray):jT PG (buildSlice gW 1 #[(0,.agg (Pk.cells ⟨a,b,c,d⟩).toArray)])=some (.cells (Pk.cells ⟨a,b,c,d⟩).toArray bX,λr=>pure (.slice (some ⟨r,0,none⟩) 1 1)):=by kernel_rfl
def aTK(p:Pk):jT PG (buildSlice gW 1 #[(0,.agg p.cells.toArray)])=some (.cells p.cells.toArray bX,λr=>pure (.slice (some ⟨r,0,none⟩) 1 1)):=aVN p.f p.s p.t p.d
def aJu(g:Int):∀(n:Nat) (st:gQ) (acc:List (Int×Pk)),(jH g n st acc).1.length≤acc.length+n
 | 0,_,_=>mS _
 | n+1,st,acc=>by
  unfold jH;split
  ·have:=aJu g n (aAF g st).2 (acc++[(aAF g st).1]);rw[jK] at this;simp only[iN,kW] at this;omega
  ·show acc.length≤_;omega
def aFp(g:Int):fB g (0,[])=([],((6:Int),[])):=by
 unfold fB;rw[aBo (t:=[]) (c:=1) (by simp)];rfl
def aLo(g:Int)(b:UInt8)(t:Tx):fB g (0,b::t)=(if (jH g b.toNat (0,t) []).2.1=0 then(jH g b.toNat (0,t) []).1 else [],(jH g b.toNat (0,t) []).2):=by
 unfold fB;rw[oJ (t:=b::t) (c:=1) (by simp)];have:kY ((b::t).take 1)=b.toNat:=by simp[kY]
 simp only;rw[this];rfl
def aPt{h:PH}(s:Tx)(g:Nat)(hs:s.length≤1000000){k:cF}
  (hk:∀h' vk vp Gk Gp,eD h' aR 1 vk ((fB (g:Int) (0,s)).1.map kc) Gk->eD h' bX 4 vp ((fB (g:Int) (0,s)).1.map pc) Gp->dX h Gk->dX h Gp->cX h h'->((fB (g:Int) (0,s)).2.1=0->(fB (g:Int) (0,s)).2.2.length≤s.length∧(fB (g:Int) (0,s)).2.2=s.drop (s.length-(fB (g:Int) (0,s)).2.2.length))->
   k (.tuple #[vk,vp,.int .i64 (if (fB (g:Int) (0,s)).2.1=0 then((s.length-(fB (g:Int) (0,s)).2.2.length:Nat):Int) else 0),.int .i64 (fB (g:Int) (0,s)).2.1]) h'):bW PG xO #[.string (tx s),.int .i64 (g:Int)] h k:=by
 apply aBS.call;unfold aBS;cases s with
 | nil=>
  have q:decide (([]:Tx)=[])=true:=rfl;have e0:cB PG h (fJ .eql bR (.tmp 15) (.const (.string {data:=#[]})) (.string (tx [])) (.string {data:=#[]}))=some (.bool true):=by
   have:=aEy (t:=bR) (h:=h) (x:=.tmp 15) (y:=.const (.string {data:=#[]})) (a:=[]) (b:=[]);exact this
  simp only[e0,cD,reduceIte,cJ,Nat.reduceAdd];have:=hk h (.slice none 0 0) (.slice none 0 0) [] [] (by rw[aFp];exact eD.nil) (by rw[aFp];exact eD.nil) (λb hb=>by cases hb) (λb hb=>by cases hb) cV.refl (by rw[aFp];intro h;cases h);rw[aFp] at this;exact this
 | cons b0 t=>
  have e0:cB PG h (fJ .eql bR (.tmp 15) (.const (.string {data:=#[]})) (.string (tx (b0::t))) (.string {data:=#[]}))=some (.bool false):=by
   have:=aEy (t:=bR) (h:=h) (x:=.tmp 15) (y:=.const (.string {data:=#[]})) (a:=b0::t) (b:=[]);exact this
  simp only[e0,cD,reduceIte,cJ,Nat.reduceAdd];rw[aLo] at hk;obtain⟨T,hT⟩:∃T,jH (g:Int) b0.toNat (0,t) []=T:=⟨_,rfl⟩;rw[hT] at hk;have hb0:=b0.toNat_lt;have hTl:=aJu (g:Int) b0.toNat (0,t) [];rw[hT] at hTl;simp only[kW,iP] at hTl;simp only[iN] at hs;have bad:∀{h':PH} (e:Int),T.2.1=e->e≠0->cX h h'->k (.tuple #[.slice none 0 0,.slice none 0 0,.int .i64 0,.int .i64 e]) h':=by
   intro h' e he hne w;have:=hk h' (.slice none 0 0) (.slice none 0 0) [] [] (by rw[if_neg (by rw[he];exact hne)];exact eD.nil) (by rw[if_neg (by rw[he];exact hne)];exact eD.nil) (λb hb=>by cases hb) (λb hb=>by cases hb) w (λh0=>absurd h0 (by show T.2.1≠0;rw[he];exact hne));simp only[he] at this;rw[if_neg hne] at this;exact this
  refine⟨λvs h'=>∃(i at':Nat) (acc:List (Int×Pk)) (vk vp:Value) (Gk Gp:List Nat),i≤b0.toNat∧at'≤t.length∧acc.length=i∧vs=[.string (tx (b0::t)),.int .i64 (g:Int),vk,vp,.int .i64 ((at'+1:Nat):Int),.int .i64 (i:Int)]∧eD h' aR 1 vk (acc.map kc) Gk∧eD h' bX 4 vp (acc.map pc) Gp∧dX h Gk∧dX h Gp∧(∀b∈Gk,b∉Gp)∧cX h h'∧jH (g:Int) (b0.toNat-i) (0,t.drop at') acc=T,fN 256 5,⟨0,0,[],.slice none 0 0,.slice none 0 0,[],[],by omega,by omega,rfl,rfl,eD.nil,eD.nil,(λb hb=>by cases hb),(λb hb=>by cases hb),(λb hb=>by cases hb),cV.refl,by rw[Nat.sub_zero,zLb];exact hT⟩,?_⟩;rintro ρ h' ⟨i,at',acc,vk,vp,Gk,Gp,hi,hat,hacc,hvs,Ok,Op,fk,fp,dkp,w,hr⟩;simp only[hM,jA,kP,and_true] at hvs;obtain⟨x0,x1,x8,x9,x10,x11⟩:=hvs;unfold aFD;rw[x0,x1,x8,x9,x10,x11];have i0:cC PG (Instr.index bR (.string (tx (b0::t))) (.int .i64 0))=some (.int .u8 b0.toNat):=nL (j:=0) bR.und rfl;have ll:(b0::t).length=t.length+1:=rfl;by_cases hlt:i<b0.toNat
  ·have g1:((i:Int)<(b0.toNat:Int))=True:=eq_true (by omega);have gi:=nR (i:=i) (by omega);obtain⟨n,hn⟩:∃n,b0.toNat-i=n+1:=⟨b0.toNat-i-1,by omega⟩;rw[hn,aTo _ _ _ _ rfl] at hr;by_cases ha:at'=t.length
   ·have g2:(((b0::t).length:Int)≤((at'+1:Nat):Int))=True:=eq_true (by rw[ll];omega);have ed:t.drop at'=[]:=aAr (by omega);rw[ed,aGn _ _ _ _ (by rw[aO9];decide)] at hr;simp only[i0,aGV,g1,iL,g2,cD,reduceIte,cJ,Nat.reduceAdd];exact bad 6 (by rw[←hr];exact aO9 (g:Int)) (by decide) w
   ·have g2:(((b0::t).length:Int)≤((at'+1:Nat):Int))=False:=eq_false (by rw[ll];omega);obtain⟨y,hy⟩:∃y,t[at']? =some y:=⟨_,kV (by omega)⟩;have ed:t.drop at'=y::t.drop (at'+1):=by
     rw[aA3 (by omega)];have:t[at']=y:=by rw[kV (by omega)] at hy;simpa using hy
     rw[this]
    have hsd:((b0::t).drop (at'+2))=t.drop (at'+1):=by rw[zLa]
    have ga:IntKind.i64.wrap (((at'+1:Nat):Int)+1)=((at'+2:Nat):Int):=by rw[eI (by omega) (by omega)];omega
    have c1:cC PG (Instr.sliceAt bR (.string (tx (b0::t))) (some (.int .i64 ((at'+2:Nat):Int))) none none)=some (.string (tx (t.drop (at'+1)))):=by
     have:=kI (P:=PG) (t:=bR) (l:=b0::t) (i:=at'+2) (j:=(b0::t).length) (lo:=some (.int .i64 ((at'+2:Nat):Int))) (hi:=none) bR.und (.inr ⟨_,rfl⟩) (.inl ⟨rfl,rfl⟩) (by rw[ll];omega) (mS _);rw[this,zLJ,hsd]
    have iy:cC PG (Instr.index bR (.string (tx (b0::t))) (.int .i64 ((at'+1:Nat):Int)))=some (.int .u8 y.toNat):=nL (j:=at'+1) bR.und hy;have hy8:=y.toNat_lt;rw[ed,aSX] at hr;simp only[i0,aGV,g1,iL,g2,ga,c1,cD,reduceIte,cJ,Nat.reduceAdd];refine aTc (t.drop (at'+1)) (by rw[jE];omega) λh2 u2=>?_;simp only[cD,reduceIte,cJ,Nat.reduceAdd];intro r16 hr16
    try rw[cO]
    refine bX.fill (vs:=(oA (0,t.drop (at'+1))).1.cells) hr16 rfl (Pk.isC _) λh3 B3 u3=>?_;have e3:=(w.trans u2).trans u3;by_cases ce:(oA (0,t.drop (at'+1))).2.1=0
    ·have q0:((oA (0,t.drop (at'+1))).2.1 !=0)=false:=by rw[ce];rfl
     rcases aH0 (t.drop (at'+1)) with⟨-,-,e2⟩|⟨-,-,-,e2⟩|⟨hle,-,eP⟩
     ·rw[ce] at e2;cases e2
     ·rw[ce] at e2;cases e2
     ·rw[jE] at hle;by_cases k1:(y.toNat:Int)<1
      ·have g3:((y.toNat:Int)<1)=True:=eq_true k1;rw[if_pos (.inl k1),eP,aGn _ _ _ _ (by show(5:Int)≠0;decide)] at hr;simp only[dY,q0,iy,g3,cD,reduceIte,cJ,Nat.reduceAdd];exact bad 5 (by rw[←hr];rfl) (by decide) e3
      ·have g3:((y.toNat:Int)<1)=False:=eq_false k1;by_cases k2:(g:Int)<(y.toNat:Int)
       ·have g4:((g:Int)<(y.toNat:Int))=True:=eq_true k2;rw[if_pos (.inr k2),eP,aGn _ _ _ _ (by show(5:Int)≠0;decide)] at hr;simp only[dY,q0,iy,g3,aGV,g4,cD,reduceIte,cJ,Nat.reduceAdd];exact bad 5 (by rw[←hr];rfl) (by decide) e3
       ·have g4:((g:Int)<(y.toNat:Int))=False:=eq_false k2;rw[if_neg (by omega)] at hr;simp only[dY,q0,iy,g3,aGV,g4,aUX,cD,reduceIte,cJ,Nat.reduceAdd];intro r47 hr47;refine gV ?_
        try rw[cO]
        have S4:hC (h3.set r47 (.cells #[.int .i64 (y.toNat:Int)] aR)) 1 (.slice (some ⟨r47,0,none⟩) 1 1) [[.int .i64 (y.toNat:Int)]]:=(eD.lit (e:=aR) (size:=1) (rows:=[[.int .i64 (y.toNat:Int)]]) (n:=1) (λr hr=>by simp only[iI] at hr;rw[hr];rfl) eB rfl (by decide) rfl).slR;have u4:cX h3 (h3.set r47 (.cells #[.int .i64 (y.toNat:Int)] aR)):=cV.new hr47;generalize h3.set r47 (.cells #[.int .i64 (y.toNat:Int)] aR)=h4 at *;have e4:=e3.trans u4;have u24:=(u2.trans u3).trans u4;refine lG lP.und lP.und aR.info aR.size aR.bytes aR.zero rfl (by decide) (Ok.ext u24) S4 (by simp[fH]) (by rw[iF,hacc];simp only[iN,kW];omega) ?_;intro v5 h5 G5 O5 u5 g5 _;have e5:=e4.fresh u5 fk;have nr16:r16∉Gk:=λhm=>(Ok.ext u2).known r16 hm hr16;have B5:=(B3.ext u4).upd u5 nr16;have Op5:=(Op.ext u24).upd u5 (λb hb hm=>dkp b hm hb);have f5:dX h G5:=λb hb=>by
         rcases g5 b hb with x|x
         ·exact fk b x
         ·exact e4.none x
        have d5:∀b∈G5,b∉Gp:=λb hb hm=>by
         rcases g5 b hb with x|x
         ·exact dkp b x hm
         ·exact(Op.ext u24).known b hm x
        simp only[aIx B5,aTK,cD,reduceIte,cJ,Nat.reduceAdd];intro r54 hr54;refine gV ?_
        try rw[cO]
        have S6:hC (h5.set r54 (.cells (oA (0,t.drop (at'+1))).1.cells.toArray bX)) 4 (.slice (some ⟨r54,0,none⟩) 1 1) [(oA (0,t.drop (at'+1))).1.cells]:=(eD.lit (e:=bX) (size:=4) (rows:=[(oA (0,t.drop (at'+1))).1.cells]) (n:=1) (λr hr=>by simp only[iI] at hr;rw[hr];rfl) eB rfl (by decide) (by simp)).slR;have u6:cX h5 (h5.set r54 (.cells (oA (0,t.drop (at'+1))).1.cells.toArray bX)):=cV.new hr54;generalize h5.set r54 (.cells (oA (0,t.drop (at'+1))).1.cells.toArray bX)=h6 at *;have e6:=e5.trans u6;refine lG gW.und gW.und bX.info bX.size bX.bytes bX.zero rfl (by decide) (Op5.ext u6) S6 (by simp[Pk.cells,fH]) (by rw[iF,hacc];simp only[iN,kW];omega) ?_;intro v7 h7 G7 O7 u7 g7 _;have e7:=e6.fresh u7 fp;have O5':=(O5.ext u6).upd u7 d5;have f7:dX h G7:=λb hb=>by
         rcases g7 b hb with x|x
         ·exact fp b x
         ·exact e6.none x
        have d7:∀b∈G5,b∉G7:=λb hb hm=>by
         rcases g7 b hm with x|x
         ·exact d5 b hb x
         ·exact(O5.ext u6).known b hb x
        have hdl:=aRW (t.drop (at'+1));have ga1:IntKind.i64.wrap (((at'+2:Nat):Int)+((19+dpN (t.drop (at'+1)):Nat):Int))=((at'+1+(19+dpN (t.drop (at'+1)))+1:Nat):Int):=by rw[eI (by omega) (by omega)];omega
        simp only[ce,if_true,ga,ga1,gi,cD,reduceIte,cJ,Nat.reduceAdd];have en:b0.toNat-(i+1)=n:=by omega
        refine⟨⟨i+1,at'+1+(19+dpN (t.drop (at'+1))),acc++[((y.toNat:Int),(oA (0,t.drop (at'+1))).1)],v5,v7,G5,G7,by omega,by omega,by rw[jK,hacc];rfl,rfl,?_,?_,f5,f7,d7,e7,?_⟩,by simp[fN,x11];omega⟩
        ·rw[wA];exact O5'
        ·rw[wA];exact O7
        ·rw[en];rw[eP] at hr ⊢;rw[pN] at hr;exact hr
    ·have q0:((oA (0,t.drop (at'+1))).2.1 !=0)=true:=bne_iff_ne.2 ce;have es:(if (y.toNat:Int)<1∨(g:Int)<(y.toNat:Int) then wL (oA (0,t.drop (at'+1))).2 5 else(oA (0,t.drop (at'+1))).2).1=(oA (0,t.drop (at'+1))).2.1:=by
      split
      ·unfold wL;exact if_neg ce
      ·rfl
     rw[aGn _ _ _ _ (by show(if _ then _ else _:gQ).1≠0;rw[es];exact ce)] at hr;simp only[dY,q0,cD,reduceIte,cJ,Nat.reduceAdd];exact bad _ (by rw[←hr];exact es) ce e3
  ·have g1:((i:Int)<(b0.toNat:Int))=False:=eq_false (by omega);have en:b0.toNat-i=0:=by omega
   rw[en] at hr;have hr:T=(acc,((0:Int),t.drop at')):=hr.symm;rw[hr] at hk;simp only[if_true] at hk;have dl:(t.drop at').length=t.length-at':=jE;simp only[i0,aGV,g1,cD,reduceIte,cJ,Nat.reduceAdd];have:=hk h' vk vp Gk Gp Ok Op fk fp w (λ_=>⟨by rw[dl,ll];omega,by
    rw[dl,ll,show t.length+1-(t.length-at')=at'+1 by omega];rfl⟩)
   rw[show(b0::t).length-(t.drop at').length=at'+1 by rw[dl,ll];omega] at this;exact this
end Go.Proofs.YtiohehjhlghikaaGreatDoor
