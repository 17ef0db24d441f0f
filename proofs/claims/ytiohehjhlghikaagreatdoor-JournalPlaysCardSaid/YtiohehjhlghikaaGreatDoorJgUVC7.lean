/- The texts of this claim, put together. -/
import Derived.Test.YtiohehjhlghikaaGreatDoorJgUVC6
set_option linter.all false
set_option maxRecDepth 100000
open Go.Instr (loadAt fieldAt indexAt extract buildSlice build)
namespace Go.Proofs.YtiohehjhlghikaaGreatDoor
section
open Go
def aXg{h:PH}{x y:Operand}(a b:UInt8):dH PG h (gV .eql eZ x y (.int .u8 (a.toNat:Int)) (.int .u8 (b.toNat:Int)))=some (.bool (decide (a=b))):=by
 rw[gX];congr 2;rw[yA];simp[UInt8.toNat_inj,Int.natCast_inj]
def jS(s:Tx):dE PG (Builtin.len_ #[aT] aR #[.string (tx s)])=some (.int .i64 (s.length:Int)):=by rw[vP aT.und,mF]
def aUX{h:PH}(s:Tx)(hs:s.length≤1000000){k:dI}(hk:∀n,n≤s.length->(∀x∈s.drop n,x=0)->(n=0∨s[n-1]?≠some 0)->k (.string (tx (s.take n))) h):bR PG zU #[.string (tx s),.int .u8 0] h k:=by
 apply xP.call;unfold xP;refine⟨λvs h'=>∃n:Nat,n≤s.length∧vs=[.string (tx (s.take n)),.int .u8 0]∧h'=h∧∀x∈s.drop n,x=0,λvs _=>(match vs with | .string b::_=>b.size|_=>0),⟨s.length,nQ _,by rw[zLJ],rfl,by simp⟩,?_⟩;rintro ρ h' ⟨n,hn,hvs,rfl,hz⟩;simp only[jF,kF,lT,and_true] at hvs;obtain⟨x0,x1⟩:=hvs;unfold aDU;rw[x0,x1];have hl:(s.take n).length=n:=by rw[mT];omega
 by_cases h0:n=0
 ·have g:((0:Int)<((s.take n).length:Int))=False:=eq_false (by omega);simp only[jS,g,dF,reduceIte,dM,Nat.reduceAdd];exact hk n hn hz (.inl h0)
 ·have g:((0:Int)<((s.take n).length:Int))=True:=eq_true (by omega);have gw:IntKind.i64.wrap (((s.take n).length:Int)-1)=((n-1:Nat):Int):=by rw[fW (by omega) (by omega)];omega
  obtain⟨b,hb⟩:∃b,(s.take n)[n-1]? =some b:=⟨_,lG (by omega)⟩;have hb':s[n-1]? =some b:=by rw[aEv,if_pos (by omega)] at hb;exact hb
  have ib:dE PG (Instr.index aT (.string (tx (s.take n))) (.int .i64 ((n-1:Nat):Int)))=some (.int .u8 b.toNat):=oZ aT.und hb;have e8:∀{x y:Operand},dH PG h' (gV .eql eZ x y (.int .u8 (b.toNat:Int)) (.int .u8 0))=some (.bool (decide (b=0))):=aXg b 0;by_cases hb0:b=0
  ·have c:dE PG (Instr.sliceAt aT (.string (tx (s.take n))) none (some (.int .i64 ((n-1:Nat):Int))) none)=some (.string (tx (s.take (n-1)))):=by
    have:=lE (P:=PG) (t:=aT) (l:=s.take n) (i:=0) (j:=n-1) (lo:=none) (hi:=some (.int .i64 ((n-1:Nat):Int))) aT.und (.inl ⟨rfl,rfl⟩) (.inr ⟨_,rfl⟩) (by omega) (by omega);rw[this,zLb,aJV,aGb (by omega)]
   simp only[jS,g,gw,ib,e8,hb0,decide_true,c,dF,reduceIte,dM,Nat.reduceAdd];refine⟨⟨n-1,by omega,rfl,by first|rfl|trivial,λx hx=>?_⟩,?_⟩
   ·have e:s.drop (n-1)=b::s.drop n:=by
     rw[aBE (show n-1<s.length by omega),show n-1+1=n by omega];have:s[n-1]=b:=by rw[lG (show n-1<s.length by omega)] at hb';simpa using hb'
     rw[this]
    rw[e] at hx;rcases jW.1 hx with rfl|hx
    ·exact hb0
    ·exact hz x hx
   ·simp only[jF,x0,mF,mT];omega
  ·simp only[jS,g,gw,ib,e8,hb0,decide_false,dF,reduceIte,dM,Nat.reduceAdd];exact hk n hn hz (.inr (by rw[hb'];simpa using hb0))
def aVa{h:PH}(s:Tx)(hs:s.length≤1000000){k:dI}(hk:∀n,n≤s.length->(∀x∈s.take n,x=0)->k (.string (tx (s.drop n))) h):bR PG aAT #[.string (tx s),.int .u8 0] h k:=by
 apply yT.call;unfold yT;refine⟨λvs h'=>∃n:Nat,n≤s.length∧vs=[.string (tx (s.drop n)),.int .u8 0]∧h'=h∧∀x∈s.take n,x=0,λvs _=>(match vs with | .string b::_=>b.size|_=>0),⟨0,mK _,rfl,rfl,by simp⟩,?_⟩;rintro ρ h' ⟨n,hn,hvs,rfl,hz⟩;simp only[jF,kF,lT,and_true] at hvs;obtain⟨x0,x1⟩:=hvs;unfold aD6;rw[x0,x1];have hl:(s.drop n).length=s.length-n:=kD;by_cases h0:n=s.length
 ·have g:((0:Int)<((s.drop n).length:Int))=False:=eq_false (by omega);simp only[jS,g,dF,reduceIte,dM,Nat.reduceAdd];exact hk n hn hz
 ·have g:((0:Int)<((s.drop n).length:Int))=True:=eq_true (by omega);obtain⟨b,hb⟩:∃b,s[n]? =some b:=⟨_,lG (show n<s.length by omega)⟩;have ib:dE PG (Instr.index aT (.string (tx (s.drop n))) (.int .i64 0))=some (.int .u8 b.toNat):=oZ (j:=0) aT.und (by rw[aJ4];exact hb);have e8:∀{x y:Operand},dH PG h' (gV .eql eZ x y (.int .u8 (b.toNat:Int)) (.int .u8 0))=some (.bool (decide (b=0))):=aXg b 0;by_cases hb0:b=0
  ·have c:dE PG (Instr.sliceAt aT (.string (tx (s.drop n))) (some (.int .i64 1)) none none)=some (.string (tx (s.drop (n+1)))):=by
    have:=lE (P:=PG) (t:=aT) (l:=s.drop n) (i:=1) (j:=(s.drop n).length) (lo:=some (.int .i64 1)) (hi:=none) aT.und (.inr ⟨_,rfl⟩) (.inl ⟨rfl,rfl⟩) (by omega) (by omega);rw[this,zLJ,rQ]
   simp only[jS,g,ib,e8,hb0,decide_true,c,dF,reduceIte,dM,Nat.reduceAdd];refine⟨⟨n+1,by omega,rfl,by first|rfl|trivial,λx hx=>?_⟩,?_⟩
   ·rw[zLR,hb] at hx;rcases wQ.1 hx with hx|hx
    ·exact hz x hx
    ·simp at hx;rw[hx];exact hb0
   ·simp only[jF,x0,mF,kD];omega
  ·simp only[jS,g,ib,e8,hb0,decide_false,dF,reduceIte,dM,Nat.reduceAdd];exact hk n hn hz
def aWW{h:PH}(s:Tx)(hs:s.length≤1000000){k:dI}(hk:∀t:Tx,(t=[]↔∀x∈s,x=0)->k (.string (tx t)) h):bR PG aFx #[.string (tx s),.string {data:=#[0]}] h k:=by
 apply aBx.call;unfold aBx;have e0:∀{x y:Operand} (l:Tx),dH PG h (gV .eql aT x y (.string (tx l)) (.string {data:=#[]}))=some (.bool (decide (l=[]))):=λl=>aFs l [];have e1:∀{x y:Operand},dH PG h (gV .eql aT x y (.string {data:=#[0]}) (.string {data:=#[]}))=some (.bool false):=by
  intro x y;have:=aFs (h:=h) (t:=aT) (x:=x) (y:=y) [0] [];exact this
 have l0:dE PG (Builtin.len_ #[aT] aR #[.string {data:=#[0]}])=some (.int .i64 1):=jS [0];have i0:dE PG (Instr.index aT (.string {data:=#[0]}) (.int .i64 0))=some (.int .u8 0):=oZ (l:=[0]) (j:=0) aT.und rfl;have q1:((1:Int)==1)=true:=rfl;have g128:((0:Int)<128)=True:=eq_true (by decide);by_cases c:s=[]
 ·simp only[e0,c,decide_true,dF,reduceIte,dM,Nat.reduceAdd];exact hk [] (by simp[c])
 ·simp only[e0,e1,c,decide_false,l0,gX,q1,i0,g128,dF,reduceIte,dM,Nat.reduceAdd];refine aUX s hs λn hn hz hl=>?_;refine aVa (s.take n) (by rw[mT];omega) λm hm hy=>?_;refine hk _ ⟨λe=>?_,λe=>?_⟩
  ·have hm2:m=(s.take n).length:=by
    have:=congrArg List.length e;rw[kD,lU] at this;omega
   rw[hm2,zLJ] at hy;intro x hx;rw[←zL6 n s] at hx;rcases wQ.1 hx with hx|hx
   ·exact hy x hx
   ·exact hz x hx
  ·rcases hl with hl|hl
   ·rw[hl];simp
   ·exfalso;cases hx:s[n-1]? with
    | none=>
     have hge:=List.getElem?_eq_none_iff.1 hx;have hn0:n≤s.length:=hn;have:s.length≠0:=λh=>c (zLN h);omega
    | some b=>
     rw[hx] at hl;exact hl (by rw[e b (wE hx)])
def aLM{h:PH}(size:Nat){k:dI}(hk:k (.bool (decide (iB size))) h):bR PG aBj #[.int .i64 (size:Int)] h k:=by
 apply aGv.call;unfold aGv;by_cases h1:64≤size
 ·have g1:((64:Int)≤(size:Int))=True:=eq_true (by omega);have e:decide ((size:Int)≤512)=decide (iB size):=by
   rw[yA,decide_eq_true_iff,decide_eq_true_iff];unfold iB;omega
  simp only[g1,dF,reduceIte,dM,Nat.reduceAdd];rw[e];exact hk
 ·have g1:((64:Int)≤(size:Int))=False:=eq_false (by omega);have e:decide (iB size)=false:=decide_eq_false (λx=>h1 x.1);rw[e] at hk;simp only[g1,dF,reduceIte,dM,Nat.reduceAdd];exact hk
def aIs{h:PH}(size n:Nat)(hn:n<1000000000000){k:dI}(hk:k (.int .i64 (fD size n:Int)) h):bR PG vA #[.int .i64 (size:Int),.int .i64 (n:Int)] h k:=by
 apply aGq.call;unfold aGq;refine aLM size ?_;unfold fD at hk;by_cases c:iB size
 ·have g0:((n:Int)<0)=False:=eq_false (by omega);by_cases c4:n≤4096
  ·have g4:((4096:Int)<(n:Int))=False:=eq_false (by omega);rw[if_pos ⟨c,c4⟩] at hk;have h64:=c.1;have h512:=c.2;have w1:IntKind.i64.wrap ((size:Int)-25)=((size-25:Nat):Int):=by rw[fW (by omega) (by omega)];omega
   have w2:IntKind.i64.wrap ((n:Int)+((size-25:Nat):Int))=((n+(size-25):Nat):Int):=by rw[fW (by omega) (by omega)];omega
   have w3:IntKind.i64.wrap (((n+(size-25):Nat):Int)-1)=((n+(size-25)-1:Nat):Int):=by rw[fW (by omega) (by omega)];omega
   have hq:((n+(size-25)-1:Nat):Int).tdiv ((size-25:Nat):Int)=(((n+(size-25)-1)/(size-25):Nat):Int):=by
    rw[Int.tdiv_eq_ediv_of_nonneg (by omega)];rfl
   have hqb:(n+(size-25)-1)/(size-25)≤n+(size-25)-1:=Nat.div_le_self _ _;obtain⟨Q,hQ⟩:∃Q,(n+(size-25)-1)/(size-25)=Q:=⟨_,rfl⟩;rw[hQ] at hq hqb hk;have q:dE PG (binOp .quo aR (.int .i64 ((n+(size-25)-1:Nat):Int)) (.int .i64 ((size-25:Nat):Int)))=some (.int .i64 (Q:Int)):=by
    rw[aLe (by omega),hq,fW (by omega) (by omega)]
   have m:(if (1:Int)<(Q:Int) then(Q:Int) else 1)=((max 1 Q:Nat):Int):=by
    split<;>omega
   simp only[c,decide_true,g0,g4,w1,w2,w3,q,aLp,m,dF,reduceIte,dM,Nat.reduceAdd];exact hk
  ·have g4:((4096:Int)<(n:Int))=True:=eq_true (by omega);rw[if_neg (λx=>c4 x.2)] at hk;simp only[c,decide_true,g0,g4,dF,reduceIte,dM,Nat.reduceAdd];exact hk
 ·rw[if_neg (λx=>c x.1)] at hk;simp only[c,decide_false,dF,reduceIte,dM,Nat.reduceAdd];exact hk
def lM.cells(f:lM):List Value:=[.int .u64 (f.gen:Int),.int .u64 (f.ser:Int),.int .i64 (f.part:Int),.int .i64 (f.parts:Int),.string (tx f.b)]
def lM.v(f:lM):Value:=.agg f.cells.toArray
def lM.isC(f:lM):∀v∈f.cells,gN v=true:=by simp[lM.cells,gN]
def vY:dE PG (build dZ #[])=some lM.zero.v:=by kernel_rfl
def aVX(a b c d:Int)(s:ByteArray):dE PG (build dZ #[(0,.int .u64 a),(1,.int .u64 b),(2,.int .i64 c),(3,.int .i64 d),(4,.string s)])=some (.agg #[.int .u64 a,.int .u64 b,.int .i64 c,.int .i64 d,.string s]):=by kernel_rfl
def aOu{h:PH}{r:Nat}{f:lM}(B:Bx h r f.cells):dH PG h (loadAt dZ (pT r 0))=some f.v:=dZ.agg B (by show 0+5≤5;decide)
def aVv{h:PH}{x y:Operand}(l:Tx):dH PG h (gV .neq aT x y (.string (tx l)) (.string {data:=#[82]}))=some (.bool (!decide (l=[82]))):=aKY l [82]
def aMP{h:PH}{x y:Operand}(l:Tx):dH PG h (gV .neq aT x y (.string (tx l)) (.string {data:=#[]}))=some (.bool (!decide (l=[]))):=aKY l []
def aXy{h:PH}{x y:Operand}(l:Tx):dH PG h (gV .eql aT x y (.string (tx l)) (.string {data:=#[]}))=some (.bool (decide (l=[]))):=aFs l []
def aOZ{st:iX}:(gO st 1).1<256:=wZ st 1
def aWy{h:PH}(size:Nat)(s:Tx)(hs:s.length≤1000000){k:dI}(hk:∀h',eM h h'->k (.tuple #[(hC size s).1.v,.int .i64 (hC size s).2]) h'):bR PG aHd #[.int .i64 (size:Int),.string (tx s)] h k:=by
 apply aD0.call;unfold aD0;intro r1 hr1
 try rw[dY]
 have Z1:=dZ.zbox (h:=h) (r:=r1);have u1:eM h (h.set r1 (.cells (eX PG dZ) dZ)):=eH.new hr1;generalize h.set r1 (.cells (eX PG dZ) dZ)=h1 at *;have f1:fX h [r1]:=fX.one hr1;have fin:∀{h':PH} (f:lM) (e:Int),hC size s=(f,e)->(∃cs:List Value,cs.length=5∧Bx h' r1 cs)->eM h h'->dT PG (dX dZ (pT r1 0) f.v) h' λ_ h8=>dA (dH PG h8 (loadAt dZ (pT r1 0))) λv9=>k (.tuple #[v9,.int .i64 e]) h8:=by
  intro h' f e hr ⟨cs,hcs,B⟩ w;refine dZ.put B (vs:=f.cells) (o:=0) rfl (by omega) f.isC λh2 B2 u2=>?_;rw[zLd,zLU,zO (by omega),zLQ] at B2;simp only[aOu B2,dF,reduceIte,dM,Nat.reduceAdd];have:=hk h2 (w.fresh u2 f1);rw[hr] at this;exact this
 have bad:∀{h':PH} (e:Int),hC size s=(lM.zero,e)->(∃cs:List Value,cs.length=5∧Bx h' r1 cs)->eM h h'->dT PG (dX dZ (pT r1 0) lM.zero.v) h' λ_ h8=>dA (dH PG h8 (loadAt dZ (pT r1 0))) λv9=>k (.tuple #[v9,.int .i64 e]) h8:=λe=>fin lM.zero e;refine aLM size ?_;by_cases ok:iB size
 ·have h64:=ok.1;have h512:=ok.2;simp only[ok,decide_true,jS,fZ,dF,reduceIte,dM,Nat.reduceAdd];by_cases hl:s.length=size
  ·have q:((s.length:Int) !=(size:Int))=false:=by simp[hl]
   simp only[q,dF,reduceIte,dM,Nat.reduceAdd];refine aQO s hs λh4 u4=>?_;cases hsl:pH s with
   | false=>
    have er:hC size s=(lM.zero,8):=by unfold hC;rw[if_neg (by simpa using ok),if_neg (by simpa using hl),if_pos hsl]
    simp only[vY,dF,reduceIte,dM,Nat.reduceAdd];exact bad 8 er ⟨_,rfl,Z1.ext u4⟩ (u1.trans u4)
   | true=>
    have e4:=u1.trans u4;obtain⟨s',hs'⟩:∃s',s.take (size-4)=s':=⟨_,rfl⟩;have hl':s'.length=size-4:=by rw[←hs',mT];omega
    have er:hC size s=if aIy s'∧aH2 size (aB1 s')∧aJC size (aB1 s') then(aB1 s',0) else(lM.zero,5):=by
     unfold hC;rw[if_neg (by simpa using ok),if_neg (by simpa using hl),if_neg (by simp[hsl]),hs']
    have w1:IntKind.i64.wrap ((size:Int)-4)=((size-4:Nat):Int):=by rw[fW (by omega) (by omega)];omega
    have w2:IntKind.i64.wrap ((size:Int)-25)=((size-25:Nat):Int):=by rw[fW (by omega) (by omega)];omega
    have c1:dE PG (Instr.sliceAt aT (.string (tx s)) none (some (.int .i64 ((size-4:Nat):Int))) none)=some (.string (tx s')):=by
     have:=lE (P:=PG) (t:=aT) (l:=s) (i:=0) (j:=size-4) (lo:=none) (hi:=some (.int .i64 ((size-4:Nat):Int))) aT.und (.inl ⟨rfl,rfl⟩) (.inr ⟨_,rfl⟩) (by omega) (by omega);rw[this,zLb,hs']
    simp only[w1,c1,dF,reduceIte,dM,Nat.reduceAdd];refine aIR s' λa h5 R5 u5 ha=>?_;have Z5:=(Z1.ext u4).ext u5;have n1a:r1≠a:=(Z1.ext u4).apart ha;have fa:fX h [a]:=fX.one (e4.none ha);have e5:=e4.trans u5;refine aNK R5 1 λh6 R6 u6=>?_;refine aCH R6 λh7 R7 u7=>?_;refine aCH R7 λh8 R8 u8=>?_;refine aBD R8 λh9 R9 u9=>?_;refine aBD R9 λh10 R10 u10=>?_;refine aQS R10 λh11 R11 u11=>?_;have R11:mC h11 a (zA s').2.1 (zA s').2.2:=R11;show dA (dE PG (build dZ #[(0,.int .u64 ((frG s').1:Int)),(1,.int .u64 ((frN s').1:Int)),(2,.int .i64 ((zD s').1:Int)),(3,.int .i64 ((xQ s').1:Int)),(4,.string (tx (zA s').1))])) _;have u11':=((((u6.trans u7).trans u8).trans u9).trans u10).trans u11;have Z11:=Z5.upd u11' (by simpa using n1a);have e11:=e5.fresh u11' fa;simp only[aVX,dF,reduceIte,dM,Nat.reduceAdd];intro r40 hr40
    try rw[dY]
    refine dZ.fill (vs:=(aB1 s').cells) hr40 rfl (aB1 s').isC λh12 B12 u12=>?_;have Z12:=Z11.ext u12;have n40a:r40≠a:=λe=>by
     have:=R11.here;rw[←e,hr40] at this;cases this
    have e12:=e11.trans u12;refine aPh (R11.ext u12) ?_;have eL:(if (zA s').2.1=0 then((zA s').2.2.length:Int) else 0)=((aKE (zA s').2:Nat):Int):=by
     unfold aKE;split<;>rfl
    rw[eL];refine aNK (R11.ext u12) _ λh13 R13 u13=>?_;have R13:mC h13 a (frZ s').2.1 (frZ s').2.2:=R13;have B13:=B12.upd u13 (by simpa using n40a);have Z13:=Z12.upd u13 (by simpa using n1a);have e13:=e12.fresh u13 fa;have b2:eA h13 ⟨r40,0+2,none⟩=some (.int .i64 ((zD s').1:Int)):=B13.cell 2;have b3:eA h13 ⟨r40,0+3,none⟩=some (.int .i64 ((xQ s').1:Int)):=B13.cell 3;have b4:eA h13 ⟨r40,0+4,none⟩=some (.string (tx (zA s').1)):=B13.cell 4;have kp:=aOZ (st:=(frN s').2);have kq:=aOZ (st:=(zD s').2);have kp:(zD s').1<256:=kp;have kq:(xQ s').1<256:=kq;have w3:IntKind.i64.wrap (((xQ s').1:Int)-1)=((xQ s').1:Int)-1:=fW (by omega) (by omega);have zl:(frZ s').1.length≤1000000:=by
     have:(frZ s').1.length≤s'.length:=by
      unfold frZ;have h1:=aKF (zA s').2 (aKE (zA s').2);have h2:aKE (zA s').2≤s'.length:=by
       have F:=aSV (size:=size) h64 hl';rw[F.t];unfold aKE;split
       ·split
        ·simp only[kD];omega
        ·exact mK _
       ·split
        ·rename_i h0;exact absurd h0 (by simp)
        ·exact mK _
      omega
     omega
    simp only[dZ.f2,dZ.f3,dZ.f4,aR.load,aT.load,b2,b3,w3,w2,gF.f0,gX,dF,reduceIte,dM,Nat.reduceAdd];refine aFC R13 ?_;have bad5:¬(aIy s'∧aH2 size (aB1 s')∧aJC size (aB1 s'))->hC size s=(lM.zero,5):=λh=>by rw[er,if_neg h]
    have Zx:∃cs:List Value,cs.length=5∧Bx h13 r1 cs:=⟨_,rfl,Z13⟩;by_cases c1:(frZ s').2.1=0
    ·have q1:((frZ s').2.1 !=0)=false:=by simp[c1]
     by_cases c2:(nM (0,s') 1).1=[82]
     ·have q2:decide ((nM (0,s') 1).1=[82])=true:=decide_eq_true c2;simp only[fZ,q1,aVv,q2,dF,reduceIte,dM,Nat.reduceAdd];refine aWW _ zl λt ht=>?_;by_cases c3:∀x∈(frZ s').1,x=0
      ·have q3:decide (t=[])=true:=decide_eq_true (ht.2 c3);by_cases c4:(zD s').1<(xQ s').1
       ·have q4:(((xQ s').1:Int)≤((zD s').1:Int))=False:=eq_false (by omega);have k1:aIy s':=⟨c1,c2,c3,c4⟩;have lB:dE PG (Builtin.len_ #[aT] aR #[.string (tx (zA s').1)])=some (.int .i64 ((zA s').1.length:Int)):=jS _;have hlen:(zA s').1.length≤65536:=by
         have F:=aSV (size:=size) h64 hl';rw[F.t];split
         ·show(nH s').length≤65536;unfold nH;rw[mT,kD];omega
         ·simp
        have hm:(zD s').1*(size-25)≤256*512:=Nat.mul_le_mul (by omega) (by omega);have w4:IntKind.i64.wrap (((zD s').1:Int)*((size-25:Nat):Int))=(((zD s').1*(size-25):Nat):Int):=by
         rw[←Int.natCast_mul,fW (by omega) (by omega)]
        have w5:IntKind.i64.wrap ((((zD s').1*(size-25):Nat):Int)+((zA s').1.length:Int))=(((zD s').1*(size-25)+(zA s').1.length:Nat):Int):=by
         rw[fW (by omega) (by omega)];omega
        by_cases k2:aH2 size (aB1 s')
        ·have three:((zD s').1+1=(xQ s').1∧1<(xQ s').1)∨((zD s').1+1=(xQ s').1∧¬1<(xQ s').1)∨(zD s').1+1≠(xQ s').1:=by omega
         rcases three with⟨cl,cm⟩|⟨cl,cm⟩|cl
         case' inl=>
          have ql:(((zD s').1:Int)==((xQ s').1:Int)-1)=true:=by
           rw[beq_iff_eq];omega
          have qm:((1:Int)<((xQ s').1:Int))=True:=eq_true (by omega);have cb:decide ((zA s').1=[])=false:=decide_eq_false (k2.2 cl cm);simp only[aMP,q3,q4,ql,dZ.f2,dZ.f3,dZ.f4,aR.load,aT.load,b2,b3,b4,qm,aXy,cb,oQ,w4,lB,w5,dF,reduceIte,dM,Nat.reduceAdd]
         case' inr.inl=>
          have ql:(((zD s').1:Int)==((xQ s').1:Int)-1)=true:=by
           rw[beq_iff_eq];omega
          have qm:((1:Int)<((xQ s').1:Int))=False:=eq_false (by omega);simp only[aMP,q3,q4,ql,dZ.f2,dZ.f3,dZ.f4,aR.load,aT.load,b2,b3,b4,qm,oQ,w4,lB,w5,dF,reduceIte,dM,Nat.reduceAdd]
         case' inr.inr=>
          have ql:(((zD s').1:Int)==((xQ s').1:Int)-1)=false:=by
           rw[beq_eq_false_iff_ne];omega
          have cr:(zA s').1.length=size-25:=k2.1 cl;have qr:(((zA s').1.length:Int) !=((size-25:Nat):Int))=false:=by simp[cr]
          simp only[aMP,q3,q4,ql,dZ.f2,dZ.f3,dZ.f4,aR.load,aT.load,b2,b3,b4,lB,fZ,qr,oQ,w4,w5,dF,reduceIte,dM,Nat.reduceAdd]
         all_goals
          refine aIs size _ (by omega) ?_;by_cases c5:fD size ((zD s').1*(size-25)+(zA s').1.length)=0
          ·have q5:(((fD size ((zD s').1*(size-25)+(zA s').1.length):Nat):Int)==0)=true:=by simp[c5]
           simp only[gX,q5,vY,dF,reduceIte,dM,Nat.reduceAdd];refine⟨by simp,?_⟩;exact bad 5 (bad5 λx=>x.2.2.1 c5) Zx e13
          ·have q5:(((fD size ((zD s').1*(size-25)+(zA s').1.length):Nat):Int)==0)=false:=by
            rw[beq_eq_false_iff_ne];omega
           simp only[gX,q5,dZ.f3,aR.load,b3,dF,reduceIte,dM,Nat.reduceAdd];refine aIs size 4096 (by decide) ?_;refine⟨λ_=>b3,?_⟩;by_cases c6:(xQ s').1≤fD size 4096
           ·have q6:(((fD size 4096:Nat):Int)<((xQ s').1:Int))=False:=eq_false (by omega);simp only[q6,aOu B13,dF,reduceIte,dM,Nat.reduceAdd];exact fin (aB1 s') 0 (by rw[er,if_pos ⟨k1,k2,c5,c6⟩]) Zx e13
           ·have q6:(((fD size 4096:Nat):Int)<((xQ s').1:Int))=True:=eq_true (by omega);simp only[q6,vY,dF,reduceIte,dM,Nat.reduceAdd];exact bad 5 (bad5 λx=>c6 x.2.2.2) Zx e13
        ·by_cases cl:(zD s').1+1=(xQ s').1
         ·have ql:(((zD s').1:Int)==((xQ s').1:Int)-1)=true:=by
           rw[beq_iff_eq];omega
          have cmb:1<(xQ s').1∧(zA s').1=[]:=by
           refine Classical.byContradiction λx=>k2 ⟨λh=>absurd cl h,λ_ h1 h2=>x ⟨h1,h2⟩⟩
          have qm:((1:Int)<((xQ s').1:Int))=True:=eq_true (by omega);have cb:decide ((zA s').1=[])=true:=decide_eq_true cmb.2;simp only[aMP,q3,q4,ql,dZ.f3,dZ.f4,aR.load,aT.load,b2,b3,b4,qm,aXy,cb,vY,dF,reduceIte,dM,Nat.reduceAdd];exact bad 5 (bad5 λx=>k2 x.2.1) Zx e13
         ·have ql:(((zD s').1:Int)==((xQ s').1:Int)-1)=false:=by
           rw[beq_eq_false_iff_ne];omega
          have cr:(zA s').1.length≠size-25:=λh=>k2 ⟨λ_=>h,λh=>absurd h cl⟩;have qr:(((zA s').1.length:Int) !=((size-25:Nat):Int))=true:=by
           rw[bne_iff_ne];omega
          simp only[aMP,q3,q4,ql,dZ.f2,dZ.f3,dZ.f4,aR.load,aT.load,b2,b3,b4,lB,fZ,qr,vY,dF,reduceIte,dM,Nat.reduceAdd];exact bad 5 (bad5 λx=>k2 x.2.1) Zx e13
       ·have q4:(((xQ s').1:Int)≤((zD s').1:Int))=True:=eq_true (by omega);simp only[q3,aMP,q4,dZ.f2,dZ.f3,aR.load,b2,b3,vY,dF,reduceIte,dM,Nat.reduceAdd];exact bad 5 (bad5 λx=>c4 x.1.2.2.2) Zx e13
      ·have q3:decide (t=[])=false:=decide_eq_false (λx=>c3 (ht.1 x));simp only[aMP,q3,vY,dF,reduceIte,dM,Nat.reduceAdd];exact bad 5 (bad5 λx=>c3 x.1.2.2.1) Zx e13
     ·have q2:decide ((nM (0,s') 1).1=[82])=false:=decide_eq_false c2;simp only[fZ,q1,aVv,q2,vY,dF,reduceIte,dM,Nat.reduceAdd];exact bad 5 (bad5 λx=>c2 x.1.2.1) Zx e13
    ·have q1:((frZ s').2.1 !=0)=true:=by simp[c1]
     simp only[fZ,q1,vY,dF,reduceIte,dM,Nat.reduceAdd];exact bad 5 (bad5 λx=>c1 x.1.1) Zx e13
  ·have q:((s.length:Int) !=(size:Int))=true:=by
    rw[bne_iff_ne];omega
   have er:hC size s=(lM.zero,6):=by unfold hC;rw[if_neg (by simpa using ok),if_pos hl]
   simp only[q,vY,dF,reduceIte,dM,Nat.reduceAdd];exact bad 6 er ⟨_,rfl,Z1⟩ u1
 ·have er:hC size s=(lM.zero,1):=by unfold hC;rw[if_pos ok]
  simp only[ok,decide_false,vY,dF,reduceIte,dM,Nat.reduceAdd];exact bad 1 er ⟨_,rfl,Z1⟩ u1
def aMT(size:Nat)(s:Tx):(hC size s).1.parts<256∧(hC size s).1.b.length≤s.length:=by
 rw[←aPU];have h0:lM.zero.parts<256∧lM.zero.b.length≤s.length:=⟨by decide,mK _⟩;unfold yI;split
 ·exact h0
 ·split
  ·exact h0
  ·split
   ·exact h0
   ·split
    ·exact h0
    ·split
     ·exact h0
     ·split
      ·exact h0
      ·refine⟨?_,?_⟩
       ·show jA s<256;unfold jA;have:=aJm ((s.drop 18).take 1);have h2:((s.drop 18).take 1).length≤1:=by rw[mT];omega
        have h3:256^((s.drop 18).take 1).length≤256^1:=aNb (by decide) h2;omega
       ·show(nH s).length≤s.length;unfold nH;rw[mT,kD];omega
def aPH{size:Nat}{xs:List Tx}(h:∀s∈xs,s.length=size){k:Nat}{x:Tx}(hx:xs[k]? =some x):(xs.flatten.take ((k+1)*size)).drop (k*size)=x:=by
 have hk:=(zLA.1 hx).1;rw[zLy,Nat.succ_mul,aCw,aRd h hk,aCz,hx];rfl
def aFX(size gen ser:Nat)(x:Tx)(xs:List Tx)(k parts:Nat)(text:Tx):kI size gen ser (x::xs) k parts text=if aHG gen ser k (if k=0 then(hC size x).1.parts else parts) (hC size x) then([],0) else if k+1=(hC size x).1.parts then(text++(hC size x).1.b,(hC size x).1.parts) else kI size gen ser xs (k+1) (if k=0 then(hC size x).1.parts else parts) (text++(hC size x).1.b):=rfl
def aTy{h:PH}{size gen ser:Nat}{xs:List Tx}(hsz:size≤1000)(h1:1≤size)(hx:∀s∈xs,s.length=size)(hl:xs.length≤5000){k:dI}
  (hk:∀h',eM h h'->k (.tuple #[.string (tx (kI size gen ser xs 0 0 []).1),.int .i64 ((kI size gen ser xs 0 0 []).2:Int)]) h'):bR PG aFb #[.int .i64 (size:Int),.int .u64 (gen:Int),.int .u64 (ser:Int),.string (tx xs.flatten)] h k:=by
 apply aB2.call;unfold aB2;obtain⟨T,hT⟩:∃T,kI size gen ser xs 0 0 []=T:=⟨_,rfl⟩;rw[hT] at hk;have fl:=aBK hx;have flb:xs.length*size≤5000*1000:=Nat.mul_le_mul hl hsz;refine⟨λvs h'=>∃(n parts:Nat) (t:Tx),n≤xs.length∧vs=[.int .i64 (size:Int),.int .u64 (gen:Int),.int .u64 (ser:Int),.string (tx xs.flatten),.string (tx t),.int .i64 (parts:Int),.int .i64 (n:Int)]∧eM h h'∧t.length≤n*1000∧T=kI size gen ser (xs.drop n) n parts t,gT xs.length 6,⟨0,0,[],by omega,rfl,eH.refl,by simp,hT.symm⟩,?_⟩;rintro ρ h' ⟨n,parts,t,hn,hvs,w,ht,hr⟩;simp only[jF,kF,lT,and_true] at hvs;obtain⟨x0,x1,x2,x3,x10,x11,x12⟩:=hvs;unfold aIz;rw[x0,x1,x2,x3,x10,x11,x12];have g1:=oM (i:=n) (by omega);have hm1:(n+1)*size≤5001*1000:=Nat.mul_le_mul (by omega) hsz;have hm0:n*size≤5001*1000:=Nat.mul_le_mul (by omega) hsz;have g2:IntKind.i64.wrap (((n+1:Nat):Int)*(size:Int))=(((n+1)*size:Nat):Int):=by rw[←Int.natCast_mul,fW (by omega) (by omega)]
 have g3:IntKind.i64.wrap ((n:Int)*(size:Int))=((n*size:Nat):Int):=by rw[←Int.natCast_mul,fW (by omega) (by omega)]
 by_cases hlt:n<xs.length
 ·have hle:(n+1)*size≤xs.length*size:=yE _ hlt;have gl:((((n+1)*size:Nat):Int)≤(xs.flatten.length:Int))=True:=eq_true (by omega);obtain⟨x,hxx⟩:∃x,xs[n]? =some x:=⟨_,lG hlt⟩;have hxl:=hx x (wE hxx);have hms:n*size≤(n+1)*size:=yE _ (Nat.le_succ _);have c:dE PG (Instr.sliceAt aT (.string (tx xs.flatten)) (some (.int .i64 ((n*size:Nat):Int))) (some (.int .i64 (((n+1)*size:Nat):Int))) none)=some (.string (tx x)):=by
   have:=lE (P:=PG) (t:=aT) (l:=xs.flatten) (i:=n*size) (j:=(n+1)*size) (lo:=some (.int .i64 ((n*size:Nat):Int))) (hi:=some (.int .i64 (((n+1)*size:Nat):Int))) aT.und (.inr ⟨_,rfl⟩) (.inr ⟨_,rfl⟩) hms (by omega);rw[this,aPH hx hxx]
  have ed:xs.drop n=x::xs.drop (n+1):=by
   rw[aBE hlt];have:xs[n]=x:=by rw[lG hlt] at hxx;simpa using hxx
   rw[this]
  rw[ed] at hr;obtain⟨rf1,rf2⟩:=aMT size x;simp only[g1,oQ,g2,jS,gl,g3,c,dF,reduceIte,dM,Nat.reduceAdd];refine aWy size x (by omega) λh2 u2=>?_;simp only[dF,reduceIte,dM,Nat.reduceAdd];intro r15 hr15
  try rw[dY]
  refine dZ.fill (vs:=(hC size x).1.cells) hr15 rfl (hC size x).1.isC λh3 B3 u3=>?_;have e3:=(w.trans u2).trans u3;have b0:eA h3 ⟨r15,0,none⟩=some (.int .u64 ((hC size x).1.gen:Int)):=B3.cell 0;have b1:eA h3 ⟨r15,0+1,none⟩=some (.int .u64 ((hC size x).1.ser:Int)):=B3.cell 1;have b2:eA h3 ⟨r15,0+2,none⟩=some (.int .i64 ((hC size x).1.part:Int)):=B3.cell 2;have b3:eA h3 ⟨r15,0+3,none⟩=some (.int .i64 ((hC size x).1.parts:Int)):=B3.cell 3;have b4:eA h3 ⟨r15,0+4,none⟩=some (.string (tx (hC size x).1.b)):=B3.cell 4;have tail:∀pp:Nat,pp=(if n=0 then(hC size x).1.parts else parts)->aCF k (λvs h'=>(∃(n parts:Nat) (t:Tx),n≤xs.length∧vs=[.int .i64 (size:Int),.int .u64 (gen:Int),.int .u64 (ser:Int),.string (tx xs.flatten),.string (tx t),.int .i64 (parts:Int),.int .i64 (n:Int)]∧eM h h'∧t.length≤n*1000∧T=kI size gen ser (xs.drop n) n parts t)∧gT xs.length 6 vs h'<gT xs.length 6 ([0,1,2,3,10,11,12].map ρ) h') (.int .i64 (size:Int)) (.int .u64 (gen:Int)) (.int .u64 (ser:Int)) (.string (tx xs.flatten)) (.string (tx t)) (.int .i64 (pp:Int)) (.int .i64 (n:Int)) (pT r15 0) (.int .i64 (hC size x).2) h3:=by
   intro pp hpp;rw[aFX,←hpp] at hr;unfold aCF;have nq:∀{a b:Nat},a=b->((a:Int) !=(b:Int))=false:=λe=>by simp[e]
   have nn:∀{a b:Nat},a≠b->((a:Int) !=(b:Int))=true:=λe=>by rw[bne_iff_ne];omega
   have fail:aHG gen ser n pp (hC size x)->k (.tuple #[.string {data:=#[]},.int .i64 0]) h3:=λhb=>by
    rw[if_pos hb] at hr;have:=hk h3 e3;rw[hr] at this;exact this
   by_cases c1:(hC size x).2=0
   ·have q1:((hC size x).2 !=0)=false:=by simp[c1]
    by_cases c2:(hC size x).1.gen=gen
    ·by_cases c3:(hC size x).1.ser=ser
     ·by_cases c4:(hC size x).1.part=n
      ·by_cases c5:(hC size x).1.parts=pp
       ·have ea:dE PG (binOp .add aT (.string (tx t)) (.string (tx (hC size x).1.b)))=some (.string (tx (t++(hC size x).1.b))):=kZ (by omega);have w5:IntKind.i64.wrap (((hC size x).1.parts:Int)-1)=((hC size x).1.parts:Int)-1:=fW (by omega) (by omega);rw[if_neg (λhb=>by
         rcases hb with a|a|a|a|a
         ·exact a c1
         ·exact a c2
         ·exact a c3
         ·exact a c4
         ·exact a c5)] at hr
        simp only[fZ,q1,dZ.f0,dZ.f1,dZ.f2,dZ.f3,dZ.f4,dN.load,aR.load,aT.load,b0,b1,b2,b3,b4,nq c2,nq c3,nq c4,nq c5,ea,w5,gX,dF,reduceIte,dM,Nat.reduceAdd];by_cases c6:n+1=(hC size x).1.parts
        ·have q6:((n:Int)==((hC size x).1.parts:Int)-1)=true:=by rw[beq_iff_eq];omega
         rw[if_pos c6] at hr;simp only[q6,dF,reduceIte,dM,Nat.reduceAdd];have:=hk h3 e3;rw[hr] at this;exact this
        ·have q6:((n:Int)==((hC size x).1.parts:Int)-1)=false:=by rw[beq_eq_false_iff_ne];omega
         rw[if_neg c6] at hr;simp only[q6,g1,dF,reduceIte,dM,Nat.reduceAdd];exact⟨⟨n+1,pp,_,by omega,rfl,e3,by rw[kO];omega,hr⟩,by simp[gT,x12];omega⟩
       ·simp only[fZ,q1,dZ.f0,dZ.f1,dZ.f2,dZ.f3,dN.load,aR.load,b0,b1,b2,b3,nq c2,nq c3,nq c4,nn c5,dF,reduceIte,dM,Nat.reduceAdd];exact fail (.inr (.inr (.inr (.inr c5))))
      ·simp only[fZ,q1,dZ.f0,dZ.f1,dZ.f2,dZ.f3,dN.load,aR.load,b0,b1,b2,b3,nq c2,nq c3,nn c4,dF,reduceIte,dM,Nat.reduceAdd];exact fail (.inr (.inr (.inr (.inl c4))))
     ·simp only[fZ,q1,dZ.f0,dZ.f1,dZ.f2,dZ.f3,dN.load,aR.load,b0,b1,b2,b3,nq c2,nn c3,dF,reduceIte,dM,Nat.reduceAdd];exact fail (.inr (.inr (.inl c3)))
    ·simp only[fZ,q1,dZ.f0,dZ.f1,dZ.f2,dZ.f3,dN.load,aR.load,b0,b1,b2,b3,nn c2,dF,reduceIte,dM,Nat.reduceAdd];exact fail (.inr (.inl c2))
   ·have q1:((hC size x).2 !=0)=true:=by simp[c1]
    simp only[fZ,q1,dF,reduceIte,dM,Nat.reduceAdd];exact fail (.inl c1)
  by_cases hn0:n=0
  ·have q0:((n:Int)==0)=true:=by simp[hn0]
   simp only[gX,q0,dZ.f3,aR.load,b3,dF,reduceIte,dM,Nat.reduceAdd];exact tail _ (by rw[if_pos hn0])
  ·have q0:((n:Int)==0)=false:=by rw[beq_eq_false_iff_ne];omega
   simp only[gX,q0,dF,reduceIte,dM,Nat.reduceAdd];exact tail _ (by rw[if_neg hn0])
 ·have gl:((((n+1)*size:Nat):Int)≤(xs.flatten.length:Int))=False:=by
   have:n=xs.length:=by omega
   have hms:(n+1)*size=n*size+size:=Nat.succ_mul _ _;rw[this] at hms;exact eq_false (by rw[this];omega)
  rw[zO (by omega)] at hr;simp only[g1,oQ,g2,jS,gl,dF,reduceIte,dM,Nat.reduceAdd];have:=hk h' w;rw[hr] at this;exact this
def aWT{h:PH}{size gen:Nat}{xs:List Tx}(ok:iB size)(hx:∀s∈xs,s.length=size)(hl:xs.length≤5000){k:dI}
  (hk:∀h' v F,fY h' aT 1 v ((lF size gen (xs.length+1) xs 0).1.map jX) F->fX h F->eM h h'->k (.tuple #[v,.int .i64 ((lF size gen (xs.length+1) xs 0).2:Int)]) h'):bR PG aHV #[.int .i64 (size:Int),.int .u64 (gen:Int),.string (tx xs.flatten)] h k:=by
 apply aIB.call;unfold aIB;obtain⟨T,hT⟩:∃T,lF size gen (xs.length+1) xs 0=T:=⟨_,rfl⟩;rw[hT] at hk;have h64:=ok.1;have h512:=ok.2;have fl:=aBK hx;have flb:xs.length*size≤5000*512:=Nat.mul_le_mul hl h512;refine aLM size ?_;simp only[ok,decide_true,dF,reduceIte,dM,Nat.reduceAdd];refine⟨λvs h'=>∃(used ser f:Nat) (v:Value) (out:List Tx) (F:List Nat),used≤xs.length∧ser≤used∧out.length=ser∧xs.length<f+used∧vs=[.int .i64 (size:Int),.int .u64 (gen:Int),.string (tx xs.flatten),v,.int .i64 (used:Int),.int .u64 (ser:Int)]∧fY h' aT 1 v (out.map jX) F∧fX h F∧eM h h'∧T=(out++(lF size gen f (xs.drop used) ser).1,used+(lF size gen f (xs.drop used) ser).2),gT xs.length 4,⟨0,0,xs.length+1,_,[],[],by omega,by omega,rfl,by omega,rfl,fY.nil,(λb hb=>by cases hb),eH.refl,by rw[←hT];simp⟩,?_⟩;rintro ρ h' ⟨used,ser,f,v,out,F,hu,hs,ho,hf,hvs,O,fF,w,hr⟩;simp only[jF,kF,lT,and_true] at hvs;obtain⟨x0,x1,x2,x8,x9,x10⟩:=hvs;unfold aKb;rw[x0,x1,x2,x8,x9,x10];have hm0:used*size≤xs.length*size:=yE _ hu;have g3:IntKind.i64.wrap ((used:Int)*(size:Int))=((used*size:Nat):Int):=by rw[←Int.natCast_mul,fW (by omega) (by omega)]
 have c:dE PG (Instr.sliceAt aT (.string (tx xs.flatten)) (some (.int .i64 ((used*size:Nat):Int))) none none)=some (.string (tx (xs.drop used).flatten)):=by
  have:=lE (P:=PG) (t:=aT) (l:=xs.flatten) (i:=used*size) (j:=xs.flatten.length) (lo:=some (.int .i64 ((used*size:Nat):Int))) (hi:=none) aT.und (.inr ⟨_,rfl⟩) (.inl ⟨rfl,rfl⟩) (by omega) (nQ _);rw[this,zLJ,aG8 hx]
 obtain⟨f,rfl⟩:∃g,f=g+1:=⟨f-1,by omega⟩;have hle:=aNV (size:=size) (gen:=gen) (ser:=ser) (xs.drop used) 0 0 [];rw[kD] at hle;simp only[oQ,g3,c,dF,reduceIte,dM,Nat.reduceAdd];refine aTy (by omega) (by omega) (λs hs=>hx s (List.mem_of_mem_drop hs)) (by rw[kD];omega) λh2 u2=>?_;unfold lF at hr;by_cases c0:(kI size gen ser (xs.drop used) 0 0 []).2=0
 ·rw[if_pos c0,zLQ,zLP] at hr;have q0:(((kI size gen ser (xs.drop used) 0 0 []).2:Int)==0)=true:=by simp[c0]
  simp only[gX,q0,dF,reduceIte,dM,Nat.reduceAdd];have:=hk h2 v F;have hr':T=(out,used):=hr;rw[hr'] at this;exact this (O.ext u2) fF (w.trans u2)
 ·rw[if_neg c0] at hr;have q0:(((kI size gen ser (xs.drop used) 0 0 []).2:Int)==0)=false:=by rw[beq_eq_false_iff_ne];omega
  simp only[gX,q0,aGo,dF,reduceIte,dM,Nat.reduceAdd];intro r13 hr13;refine jC ?_
  try rw[dY]
  have S1:=(aGi (h:=h2) (r:=r13) (kI size gen ser (xs.drop used) 0 0 []).1).slR;have u3:eM h2 (h2.set r13 (.cells #[.string (tx (kI size gen ser (xs.drop used) 0 0 []).1)] aT)):=eH.new hr13;refine mQ eB.und eB.und aT.info aT.size aT.bytes aT.zero rfl (by decide) ((O.ext u2).ext u3) S1 (by simp[gN]) (by simp only[jJ,jY,lU];omega) ?_;intro v4 h4 F4 O4 u4 g4 _;have O4:fY h4 aT 1 v4 ((out++[(kI size gen ser (xs.drop used) 0 0 []).1]).map jX) F4:=by rw[xX];exact O4
  have gu:IntKind.i64.wrap ((used:Int)+((kI size gen ser (xs.drop used) 0 0 []).2:Int))=((used+(kI size gen ser (xs.drop used) 0 0 []).2:Nat):Int):=by rw[fW (by omega) (by omega)];omega
  have gs:IntKind.u64.wrap ((ser:Int)+1)=((ser+1:Nat):Int):=by rw[lJ (by omega) (by omega)];omega
  have e3:=(w.trans u2).trans u3;simp only[gu,gs,dF,reduceIte,dM,Nat.reduceAdd];rw[rQ] at hr;refine⟨⟨used+(kI size gen ser (xs.drop used) 0 0 []).2,ser+1,f,v4,_,F4,by omega,by omega,by rw[kO,ho];rfl,by omega,rfl,O4,fF.grow e3 g4,e3.fresh u4 fF,?_⟩,by simp[gT,x9];omega⟩;rw[hr,xN,Nat.add_assoc];rfl
def Hd.cells(h:Hd):List Value:=[.int .u64 (h.gen:Int),.int .i64 (h.seg:Int)]
def Hd.v(h:Hd):Value:=.agg h.cells.toArray
def Hd.isC(h:Hd):∀v∈h.cells,gN v=true:=by simp[Hd.cells,gN]
def aCr:dE PG (build dR #[])=some Hd.zero.v:=by kernel_rfl
def aXe(a b:Int):dE PG (build dR #[(0,.int .u64 a),(1,.int .i64 b)])=some (.agg #[.int .u64 a,.int .i64 b]):=by kernel_rfl
def aRR(a:Int):dE PG (build dR #[(0,.int .u64 a)])=some (.agg #[.int .u64 a,.int .i64 0]):=by kernel_rfl
def wP{h:PH}{r:Nat}{x:Hd}(B:Bx h r x.cells):dH PG h (loadAt dR (pT r 0))=some x.v:=dR.agg B (by show 0+2≤2;decide)
def aY0{h:PH}{d:Nat}(q q':Hd):dH PG h (Op.equalIn (d+1+1) dR q.v q'.v)=some (decide (q=q')):=by
 unfold Hd.v;rw[aBJ dR.und (by kernel_rfl) (λf=>match f.offset with|0=>(q.gen:Int)==(q'.gen:Int)|_=>(q.seg:Int)==(q'.seg:Int))]
 ·congr 1;rw[yA];obtain⟨a,b⟩:=q;obtain⟨a',b'⟩:=q';simp;omega
 ·intro f hf;simp only[jW,zLg,or_false] at hf;rcases hf with rfl|rfl
  ·exact⟨by decide,_,_,jO dN.und rfl rfl,jO dN.und rfl rfl,sH dN.und⟩
  ·exact⟨by decide,_,_,jO aR.und rfl rfl,jO aR.und rfl rfl,sH aR.und⟩
def aSe{h:PH}{x y:Operand}(q q':Hd):dH PG h (gV .neq dR x y q.v q'.v)=some (.bool (!decide (q=q'))):=aKy (by kernel_rfl) (aY0 (d:=9998) q q')
def aOq{h:PH}(size:Nat){k:dI}(hk:k (.bool (decide (iB size))) h):bR PG aEg #[.int .i64 (size:Int)] h k:=by
 apply aHw.call;unfold aHw;by_cases h1:64≤size
 ·have g1:((64:Int)≤(size:Int))=True:=eq_true (by omega);have e:decide ((size:Int)≤512)=decide (iB size):=by
   rw[yA,decide_eq_true_iff,decide_eq_true_iff];unfold iB;omega
  simp only[g1,dF,reduceIte,dM,Nat.reduceAdd];rw[e];exact hk
 ·have g1:((64:Int)≤(size:Int))=False:=eq_false (by omega);have e:decide (iB size)=false:=decide_eq_false (λx=>h1 x.1);rw[e] at hk;simp only[g1,dF,reduceIte,dM,Nat.reduceAdd];exact hk
def aPs{h:PH}(size:Nat)(x:Hd)(hg:x.gen<18446744073709551616)(hs:x.seg<1000000){k:dI}(hk:∀h',eM h h'->k (.tuple #[.string (tx (gY size x).1),.int .i64 (gY size x).2]) h'):bR PG aEL #[.int .i64 (size:Int),x.v] h k:=by
 apply aKP.call;unfold aKP;intro r1 hr1
 try rw[dY]
 have u1:eM h (h.set r1 (.cells (Value.cells x.v) dR)):=eH.new hr1;have B1:Bx (h.set r1 (.cells (Value.cells x.v) dR)) r1 x.cells:=Bx.new;generalize h.set r1 (.cells (Value.cells x.v) dR)=h1 at *;have bad:(¬iB size∨x.gen=0∨1<x.seg)->k (.tuple #[.string {data:=#[]},.int .i64 1]) h1:=λc=>by
  have e:gY size x=([],1):=by unfold gY;rw[if_pos c]
  have:=hk h1 u1;rw[e] at this;exact this
 refine aOq size ?_;have b0:eA h1 ⟨r1,0,none⟩=some (.int .u64 (x.gen:Int)):=B1.cell 0;have b1:eA h1 ⟨r1,0+1,none⟩=some (.int .i64 (x.seg:Int)):=B1.cell 1;by_cases c1:iB size
 ·have h64:=c1.1;have h512:=c1.2;by_cases c2:x.gen=0
  ·have q2:((x.gen:Int)==0)=true:=by simp[c2]
   simp only[c1,decide_true,dR.f0,dN.load,b0,gX,q2,dF,reduceIte,dM,Nat.reduceAdd];exact bad (.inr (.inl c2))
  ·have q2:((x.gen:Int)==0)=false:=by rw[beq_eq_false_iff_ne];omega
   have g3:((x.seg:Int)<0)=False:=eq_false (by omega);by_cases c3:1<x.seg
   ·have g4:((1:Int)<(x.seg:Int))=True:=eq_true (by omega);simp only[c1,decide_true,dR.f0,dR.f1,dN.load,aR.load,b0,b1,gX,q2,g3,g4,dF,reduceIte,dM,Nat.reduceAdd];exact bad (.inr (.inr c3))
   ·have g4:((1:Int)<(x.seg:Int))=False:=eq_false (by omega);have w14:IntKind.i64.wrap ((size:Int)-14)=((size-14:Nat):Int):=by rw[fW (by omega) (by omega)];omega
    have e:gY size x=(oI (oY size x),0):=by unfold gY;rw[if_neg (by rintro(a|a|a);exact a c1;exact c2 a;exact c3 a)]
    rw[e] at hk;simp only[c1,decide_true,dR.f0,dR.f1,dN.load,aR.load,b0,b1,gX,q2,g3,g4,dF,reduceIte,dM,Nat.reduceAdd];intro r45 hr45
    try rw[dY]
    have S0:=WN.start hr45;have u2:eM h1 (h1.set r45 (.cells (eX PG gH) gH)):=eH.new hr45;generalize h1.set r45 (.cells (eX PG gH) gH)=h2 at *;refine aPA (ys:=[72]) S0 (by simp) (by simp) λh3 F3 x3 e3 S3 K3=>?_;have c0:eA h3 ⟨r1,0,none⟩=some (.int .u64 (x.gen:Int)):=(B1.ext S3.upd).cell 0;simp only[dR.f0,dN.load,c0,dF,reduceIte,dM,Nat.reduceAdd];refine aEy S3 (by rw[e3];simp) hg λh4 F4 x4 e4 S4 K4=>?_;have c1':eA h4 ⟨r1,0+1,none⟩=some (.int .i64 (x.seg:Int)):=(B1.ext S4.upd).cell 1;simp only[dR.f1,aR.load,c1',dF,reduceIte,dM,Nat.reduceAdd];refine aBm S4 (by rw[e4,e3];simp[zK,iZ]) (x.seg:Int) λh5 F5 x5 e5 S5 K5=>?_;have e5':x5=(0,[72]++(be x.gen 8++be x.seg 1)):=by
     rw[e5,e4,e3];unfold lQ zK;rw[if_pos ⟨by omega,by omega⟩];simp
    simp only[w14,dF,reduceIte,dM,Nat.reduceAdd];refine aLf (by omega) λh6 u6=>?_;refine aPA (WS.ext S5 u6) (by rw[e5'];simp[iZ]) (by simp;omega) λh7 F7 x7 e7 S7 K7=>?_;refine aMi S7.at_ λh8 u8=>?_;have e7':x7=(0,oY size x):=by
     rw[e7,e5'];unfold oY mD;simp only[xN]
    have eb:aEI (x7.1,x7.2)=(oY size x,0):=by
     rw[e7'];rfl
    rw[eb];have hl:(oY size x).length≤1000000:=by
     unfold oY;simp only[kO,iZ,xV,jY,lU];omega
    simp only[dF,reduceIte,dM,Nat.reduceAdd];refine aQ0 _ hl λh9 u9=>?_;exact hk h9 ((u1.trans (S7.upd.fresh u8 S7.fresh)).trans u9)
 ·simp only[c1,decide_false,dF,reduceIte,dM,Nat.reduceAdd];exact bad (.inl c1)
def aV9{h:PH}(size:Nat)(s:Tx)(hs:s.length≤1000000){k:dI}(hk:∀h',eM h h'->k (.tuple #[(iF size s).1.v,.int .i64 (iF size s).2]) h'):bR PG aJc #[.int .i64 (size:Int),.string (tx s)] h k:=by
 apply aJ7.call;unfold aJ7;intro r1 hr1
 try rw[dY]
 have Z1:=dR.zbox (h:=h) (r:=r1);have u1:eM h (h.set r1 (.cells (eX PG dR) dR)):=eH.new hr1;generalize h.set r1 (.cells (eX PG dR) dR)=h1 at *;have f1:fX h [r1]:=fX.one hr1;have fin:∀{h':PH} (f:Hd) (e:Int),iF size s=(f,e)->(∃cs:List Value,cs.length=2∧Bx h' r1 cs)->eM h h'->dT PG (dX dR (pT r1 0) f.v) h' λ_ h8=>dA (dH PG h8 (loadAt dR (pT r1 0))) λv9=>k (.tuple #[v9,.int .i64 e]) h8:=by
  intro h' f e hr ⟨cs,hcs,B⟩ w;refine dR.put B (vs:=f.cells) (o:=0) rfl (by omega) f.isC λh2 B2 u2=>?_;rw[zLd,zLU,zO (by omega),zLQ] at B2;simp only[wP B2,dF,reduceIte,dM,Nat.reduceAdd];have:=hk h2 (w.fresh u2 f1);rw[hr] at this;exact this
 have bad:∀{h':PH} (e:Int),iF size s=(Hd.zero,e)->(∃cs:List Value,cs.length=2∧Bx h' r1 cs)->eM h h'->dT PG (dX dR (pT r1 0) Hd.zero.v) h' λ_ h8=>dA (dH PG h8 (loadAt dR (pT r1 0))) λv9=>k (.tuple #[v9,.int .i64 e]) h8:=λe=>fin Hd.zero e;refine aOq size ?_;by_cases ok:iB size
 ·have h64:=ok.1;have h512:=ok.2;simp only[ok,decide_true,jS,fZ,dF,reduceIte,dM,Nat.reduceAdd];by_cases hl:s.length=size
  ·have q:((s.length:Int) !=(size:Int))=false:=by simp[hl]
   simp only[q,dF,reduceIte,dM,Nat.reduceAdd];refine aQO s hs λh4 u4=>?_;have e4:=u1.trans u4;cases hsl:pH s with
   | false=>
    have er:iF size s=(Hd.zero,8):=by unfold iF;rw[if_neg (by simpa using ok),if_neg (by simpa using hl),if_pos hsl]
    simp only[aCr,dF,reduceIte,dM,Nat.reduceAdd];exact bad 8 er ⟨_,rfl,Z1.ext u4⟩ e4
   | true=>
    have er:iF size s=if (gY size (wD s)).2=0∧(gY size (wD s)).1=s then(wD s,0) else(Hd.zero,5):=by
     unfold iF;rw[if_neg (by simpa using ok),if_neg (by simpa using hl),if_neg (by simp[hsl])]
    have c1:dE PG (Instr.sliceAt aT (.string (tx s)) (some (.int .i64 1)) none none)=some (.string (tx (s.drop 1))):=by
     have:=lE (P:=PG) (t:=aT) (l:=s) (i:=1) (j:=s.length) (lo:=some (.int .i64 1)) (hi:=none) aT.und (.inr ⟨_,rfl⟩) (.inl ⟨rfl,rfl⟩) (by omega) (nQ _);rw[this,zLJ]
    simp only[c1,dF,reduceIte,dM,Nat.reduceAdd];refine aIR (s.drop 1) λa h5 R5 u5 ha=>?_;have n1a:r1≠a:=(Z1.ext u4).apart ha;have fa:fX h [a]:=fX.one (e4.none ha);refine aCH R5 λh6 R6 u6=>?_;refine aBD R6 λh7 R7 u7=>?_;show dA (dE PG (build dR #[(0,.int .u64 ((wD s).gen:Int)),(1,.int .i64 ((wD s).seg:Int))])) _;have u67:=u6.trans u7;have Z7:=((Z1.ext u4).ext u5).upd u67 (by simpa using n1a);have e7:=(e4.trans u5).fresh u67 fa;simp only[aXe,dF,reduceIte,dM,Nat.reduceAdd];intro r31 hr31
    try rw[dY]
    refine dR.fill (vs:=(wD s).cells) hr31 rfl (wD s).isC λh8 B8 u8=>?_;have e8:=e7.trans u8;have lt1:(wD s).gen<18446744073709551616:=wZ (0,s.drop 1) 8;have lt2:(wD s).seg<256:=wZ (gO (0,s.drop 1) 8).2 1;simp only[wP B8,dF,reduceIte,dM,Nat.reduceAdd];refine aPs size (wD s) lt1 (by omega) λh9 u9=>?_;have Zx:∃cs:List Value,cs.length=2∧Bx h9 r1 cs:=⟨_,rfl,(Z7.ext u8).ext u9⟩;have e9:=e8.trans u9;by_cases c2:(gY size (wD s)).2=0
    ·have q2:((gY size (wD s)).2 !=0)=false:=by simp[c2]
     by_cases c3:(gY size (wD s)).1=s
     ·have q3:decide ((gY size (wD s)).1=s)=true:=decide_eq_true c3;simp only[fZ,q2,aKY,q3,wP (B8.ext u9),dF,reduceIte,dM,Nat.reduceAdd];exact fin (wD s) 0 (by rw[er,if_pos ⟨c2,c3⟩]) Zx e9
     ·have q3:decide ((gY size (wD s)).1=s)=false:=decide_eq_false c3;simp only[fZ,q2,aKY,q3,aCr,dF,reduceIte,dM,Nat.reduceAdd];exact bad 5 (by rw[er,if_neg (λx=>c3 x.2)]) Zx e9
    ·have q2:((gY size (wD s)).2 !=0)=true:=by simp[c2]
     simp only[fZ,q2,aCr,dF,reduceIte,dM,Nat.reduceAdd];exact bad 5 (by rw[er,if_neg (λx=>c2 x.1)]) Zx e9
  ·have q:((s.length:Int) !=(size:Int))=true:=by
    rw[bne_iff_ne];omega
   have er:iF size s=(Hd.zero,6):=by unfold iF;rw[if_neg (by simpa using ok),if_pos hl]
   simp only[q,aCr,dF,reduceIte,dM,Nat.reduceAdd];exact bad 6 er ⟨_,rfl,Z1⟩ u1
 ·have er:iF size s=(Hd.zero,1):=by unfold iF;rw[if_pos ok]
  simp only[ok,decide_false,aCr,dF,reduceIte,dM,Nat.reduceAdd];exact bad 1 er ⟨_,rfl,Z1⟩ u1
def aGV(size:Nat)(x y:Tx):Nat->Hd×Int
 | 0=>(Hd.zero,-1)
 | 1=>yR (Hd.zero,-1) 0 (iF size x).1
 | _=>oS size x y
def aTV{h:PH}{v:Value}(size:Nat)(x y:Tx)(S:jE h 1 v ([x,y].map jX))(hx:x.length≤1000000)(hy:y.length≤1000000){k:dI}(hk:∀h',eM h h'->k (.tuple #[(oS size x y).1.v,.int .i64 (oS size x y).2]) h'):bR PG aGj #[.int .i64 (size:Int),v] h k:=by
 apply aGt.call;unfold aGt;intro r1 hr1
 try rw[dY]
 have Z1:=dR.zbox (h:=h) (r:=r1);have u1:eM h (h.set r1 (.cells (eX PG dR) dR)):=eH.new hr1;generalize h.set r1 (.cells (eX PG dR) dR)=h1 at *;simp only[aCr,dF,reduceIte,dM,Nat.reduceAdd];intro r4 hr4
 try rw[dY]
 refine dR.fill (vs:=Hd.zero.cells) hr4 rfl Hd.zero.isC λh2 B2 u2=>?_;have Z2:=Z1.ext u2;have n14:r1≠r4:=Z1.apart hr4;have e2:=u1.trans u2;have f1:fX h [r1]:=fX.one hr1;have f4:fX h [r4]:=fX.one (u1.none hr4);have lv:dE PG (Builtin.len_ #[eB] aR #[v])=some (.int .i64 2):=uM S;simp only[lv,dF,reduceIte,dM,Nat.reduceAdd];refine⟨λvs h'=>∃i:Nat,i≤2∧vs=[.int .i64 (size:Int),pT r1 0,pT r4 0,.int .i64 (aGV size x y i).2,v,.int .i64 2,.int .i64 (i:Int)]∧Bx h' r4 (aGV size x y i).1.cells∧(∃cs:List Value,cs.length=2∧Bx h' r1 cs)∧eM h h',gT 2 6,⟨0,by omega,rfl,B2,⟨_,rfl,Z2⟩,e2⟩,?_⟩;rintro ρ h' ⟨i,hi,hvs,B,⟨cs,hcs,Zb⟩,w⟩;simp only[jF,kF,lT,and_true] at hvs;obtain⟨x0,x4,x6,x7,x13,x14,x15⟩:=hvs;unfold aJJ;rw[x0,x4,x6,x7,x13,x14,x15];by_cases hlt:i<2
 ·have g:((i:Int)<2)=True:=eq_true (by omega);have gi:=oM (i:=i) (by omega);obtain⟨s,hs⟩:∃s,[x,y][i]? =some s:=⟨_,lG (show i<[x,y].length from hlt)⟩;have hsl:s.length≤1000000:=by
   have:=wE hs;simp only[jW,zLg,or_false] at this;rcases this with rfl|rfl<;>assumption
  obtain⟨a,i1,i2⟩:=aGH (S.ext w) hs;have step:aGV size x y (i+1)=yR (aGV size x y i) (i:Int) (iF size s).1:=by
   have:i=0∨i=1:=by omega
   rcases this with rfl|rfl
   ·simp at hs;subst hs;rfl
   ·simp at hs;subst hs;rfl
  simp only[g,i1,i2,dF,reduceIte,dM,Nat.reduceAdd];refine aV9 size s hsl λh3 u3=>?_;simp only[dF,reduceIte,dM,Nat.reduceAdd];intro r18 hr18
  try rw[dY]
  refine dR.fill (vs:=(iF size s).1.cells) hr18 rfl (iF size s).1.isC λh5 B5 u5=>?_;have e5:=(w.trans u3).trans u5;have D4:=(B.ext u3).ext u5;have D1:=(Zb.ext u3).ext u5;have b0:eA h5 ⟨r18,0,none⟩=some (.int .u64 ((iF size s).1.gen:Int)):=B5.cell 0;have c0:eA h5 ⟨r4,0,none⟩=some (.int .u64 ((aGV size x y i).1.gen:Int)):=D4.cell 0;by_cases c1:(iF size s).1=Hd.zero
  ·have q1:decide ((iF size s).1=Hd.zero)=true:=decide_eq_true c1;have en:aGV size x y (i+1)=aGV size x y i:=by rw[step];exact if_neg (λz=>z.1 c1)
   simp only[wP B5,aCr,aSe,q1,dF,reduceIte,dM,Nat.reduceAdd];unfold aAZ aDL;simp only[gi,dF,reduceIte,dM,Nat.reduceAdd];rw[←en];rw[←en] at D4;exact⟨⟨i+1,by omega,rfl,D4,⟨cs,hcs,D1⟩,e5⟩,by simp[gT,x15];omega⟩
  ·have q1:decide ((iF size s).1=Hd.zero)=false:=decide_eq_false c1;by_cases c2:(aGV size x y i).1.gen<(iF size s).1.gen
   ·have g2:(((aGV size x y i).1.gen:Int)<((iF size s).1.gen:Int))=True:=eq_true (by omega);have en:aGV size x y (i+1)=((iF size s).1,(i:Int)):=by rw[step];exact if_pos ⟨c1,c2⟩
    simp only[wP B5,aCr,aSe,q1,dR.f0,dN.load,b0,c0,g2,dF,reduceIte,dM,Nat.reduceAdd];refine dR.put D4 (vs:=(iF size s).1.cells) (o:=0) rfl (by show 0+2≤2;decide) (iF size s).1.isC λh6 B6 u6=>?_;have B6:Bx h6 r4 (iF size s).1.cells:=B6;unfold aAZ aDL;simp only[gi,dF,reduceIte,dM,Nat.reduceAdd];exact⟨⟨i+1,by omega,by rw[en],by rw[en];exact B6,⟨cs,hcs,D1.upd u6 (by simpa using n14)⟩,e5.fresh u6 f4⟩,by simp[gT,x15];omega⟩
   ·have g2:(((aGV size x y i).1.gen:Int)<((iF size s).1.gen:Int))=False:=eq_false (by omega);have en:aGV size x y (i+1)=aGV size x y i:=by rw[step];exact if_neg (λz=>c2 z.2)
    simp only[wP B5,aCr,aSe,q1,dR.f0,dN.load,b0,c0,g2,dF,reduceIte,dM,Nat.reduceAdd];unfold aAZ aDL;simp only[gi,dF,reduceIte,dM,Nat.reduceAdd];rw[←en];rw[←en] at D4;exact⟨⟨i+1,by omega,rfl,D4,⟨cs,hcs,D1⟩,e5⟩,by simp[gT,x15];omega⟩
 ·have g:((i:Int)<2)=False:=eq_false (by omega);obtain rfl:i=2:=by omega
  have B:Bx h' r4 (oS size x y).1.cells:=B;simp only[g,wP B,dF,reduceIte,dM,Nat.reduceAdd];refine dR.put Zb (vs:=(oS size x y).1.cells) (o:=0) rfl (by omega) (oS size x y).1.isC λh6 B6 u6=>?_;rw[zLd,zLU,zO (by omega),zLQ] at B6;simp only[wP B6,dF,reduceIte,dM,Nat.reduceAdd];exact hk h6 (w.fresh u6 f1)
def aV8{h:PH}(x:Hd)(hg:x.gen<18446744073709551616){k:dI}(hk:∀h',eM h h'->k (.tuple #[(iQ x).1.v,.int .i64 (iQ x).2]) h'):bR PG aIi #[x.v] h k:=by
 apply aJG.call;unfold aJG;intro r1 hr1
 try rw[dY]
 have u1:eM h (h.set r1 (.cells (Value.cells x.v) dR)):=eH.new hr1;have B1:Bx (h.set r1 (.cells (Value.cells x.v) dR)) r1 x.cells:=Bx.new;generalize h.set r1 (.cells (Value.cells x.v) dR)=h1 at *;intro r3 hr3
 try rw[dY]
 have Z3:=dR.zbox (h:=h1) (r:=r3);have u3:eM h1 (h1.set r3 (.cells (eX PG dR) dR)):=eH.new hr3;have C1:=B1.ext u3;generalize h1.set r3 (.cells (eX PG dR) dR)=h3 at *;have e3:=u1.trans u3;have f3:fX h [r3]:=fX.one (u1.none hr3);have b0:eA h3 ⟨r1,0,none⟩=some (.int .u64 (x.gen:Int)):=C1.cell 0;have fin:∀{h':PH} (f:Hd) (e:Int),iQ x=(f,e)->(∃cs:List Value,cs.length=2∧Bx h' r3 cs)->eM h h'->dT PG (dX dR (pT r3 0) f.v) h' λ_ h8=>dA (dH PG h8 (loadAt dR (pT r3 0))) λv9=>k (.tuple #[v9,.int .i64 e]) h8:=by
  intro h' f e hr ⟨cs,hcs,B⟩ w;refine dR.put B (vs:=f.cells) (o:=0) rfl (by omega) f.isC λh2 B2 u2=>?_;rw[zLd,zLU,zO (by omega),zLQ] at B2;simp only[wP B2,dF,reduceIte,dM,Nat.reduceAdd];have:=hk h2 (w.fresh u2 f3);rw[hr] at this;exact this
 by_cases c:x.gen=18446744073709551615
 ·have q:((x.gen:Int)==18446744073709551615)=true:=by rw[beq_iff_eq];omega
  simp only[dR.f0,dN.load,b0,gX,q,aCr,dF,reduceIte,dM,Nat.reduceAdd];exact fin Hd.zero 12 (by unfold iQ;rw[if_pos c]) ⟨_,rfl,Z3⟩ e3
 ·have q:((x.gen:Int)==18446744073709551615)=false:=by rw[beq_eq_false_iff_ne];omega
  have wg:IntKind.u64.wrap ((x.gen:Int)+1)=((x.gen+1:Nat):Int):=by rw[lJ (by omega) (by omega)];omega
  simp only[dR.f0,dN.load,b0,gX,q,wg,aRR,dF,reduceIte,dM,Nat.reduceAdd];intro r16 hr16
  try rw[dY]
  refine dR.fill (vs:=Hd.cells ⟨x.gen+1,0⟩) hr16 rfl (Hd.isC _) λh5 B5 u5=>?_;have b1:eA h5 ⟨r1,0+1,none⟩=some (.int .i64 (x.seg:Int)):=(C1.ext u5).cell 1;have n316:r3≠r16:=Z3.apart hr16;have e5:=e3.trans u5;by_cases c2:x.seg=0
  ·have q2:((x.seg:Int)==0)=true:=by simp[c2]
   simp only[dR.f1,aR.load,b1,gX,q2,dF,reduceIte,dM,Nat.reduceAdd];refine aR.put (o:=1) B5 (by show 1<2;decide) rfl λh6 B6 u6=>?_;have B6:Bx h6 r16 (Hd.cells ⟨x.gen+1,1⟩):=B6;unfold aEj;simp only[wP B6,dF,reduceIte,dM,Nat.reduceAdd];exact fin ⟨x.gen+1,1⟩ 0 (by unfold iQ;rw[if_neg c,if_pos c2]) ⟨_,rfl,(Z3.ext u5).upd u6 (by simpa using n316)⟩ (e5.fresh u6 (fX.one (e3.none hr16)))
  ·have q2:((x.seg:Int)==0)=false:=by rw[beq_eq_false_iff_ne];omega
   simp only[dR.f1,aR.load,b1,gX,q2,dF,reduceIte,dM,Nat.reduceAdd];unfold aEj;simp only[wP B5,dF,reduceIte,dM,Nat.reduceAdd];exact fin ⟨x.gen+1,0⟩ 0 (by unfold iQ;rw[if_neg c,if_neg c2]) ⟨_,rfl,Z3.ext u5⟩ e5
structure SpJ(h0 h:PH)(l:Nat)(rec:Loop)(r1 r3 r5 r11 rm rs r17:Nat)(size gen ser parts:Nat)(t:Tx)(out:List Tx)(v:Value)(F:List Nat):Prop where
 loop:h l=some (.loop rec)
 b1:Bx h r1 [.int .i64 (size:Int)]
 b3:Bx h r3 [.int .u64 (gen:Int)]
 b5:Bx h r5 [.int .u64 (ser:Int)]
 b11:Bx h r11 [.int .i64 (parts:Int)]
 bm:Bx h rm [.int .i64 ((size-25:Nat):Int)]
 bs:Bx h rs [.string (tx t)]
 b17:Bx h r17 [v]
 own:fY h aT 1 v (out.map jX) F
 fresh:fX h0 F
 apart:∀b∈F,b∉[l,r1,r3,r5,r11,rm,rs,r17]
 ext:eM h0 h
 fl:h0 l=none
 f17:h0 r17=none
 fs:h0 rs=none
def iL{h:PH}{r:Nat}{v:Value}(B:Bx h r [v]):eA h ⟨r,0,none⟩=some v:=B.cell 0
def nd8{l r1 r3 r5 r11 rm rs r17:Nat}(hn: [l,r1,r3,r5,r11,rm,rs,r17].Nodup):(r1∉[l]∧r3∉[l]∧r5∉[l]∧r11∉[l]∧rm∉[l]∧rs∉[l]∧r17∉[l])∧(l∉[r17]∧r1∉[r17]∧r3∉[r17]∧r5∉[r17]∧r11∉[r17]∧rm∉[r17]∧rs∉[r17])∧(l∉[rs]∧r1∉[rs]∧r3∉[rs]∧r5∉[rs]∧r11∉[rs]∧rm∉[rs]∧r17∉[rs]):=by
 simp only[aGT,jW,zLg,or_false,not_or,List.nodup_nil,and_true] at hn;simp only[jI];obtain⟨⟨l1,l3,l5,l11,lm,ls,l17⟩,⟨a3,a5,a11,am,a_s,a17⟩,⟨c5,c11,cm,cs,c17⟩,⟨d11,dm,ds,d17⟩,⟨em,es,e17⟩,⟨fs,f17⟩,g17,-⟩:=hn;exact⟨⟨Ne.symm l1,Ne.symm l3,Ne.symm l5,Ne.symm l11,Ne.symm lm,Ne.symm ls,Ne.symm l17⟩,⟨l17,a17,c17,d17,e17,f17,g17⟩,⟨ls,a_s,cs,ds,es,fs,Ne.symm g17⟩⟩
def aUT{h0 h:PH}{l:Nat}{rec:Loop}{fn:FuncId}{tmps:Array Value}{D:Nat}{r1 r3 r5 r11 rm rs r17 size gen ser parts:Nat}{t:Tx}{out:List Tx}{v:Value}{F:List Nat}(ok:iB size)(g1:gen<18446744073709551616)(g2:ser<18446744073709551616)
  (hrec:rec= {state:=.ready,pending:=none,fn,tmps,params:=#[27,28],assign:=nR,body:=mU,defers:=D}) (hsz:tmps.size=57) (t4:tmps.getD 4 undef=pT r1 0) (t5:tmps.getD 5 undef=pT r3 0) (t6:tmps.getD 6 undef=pT r5 0) (t10:tmps.getD 10 undef=pT r11 0) (t11:tmps.getD 11 undef=pT r17 0)
  (hn: [l,r1,r3,r5,r11,rm,rs,r17].Nodup) (J:SpJ h0 h l rec r1 r3 r5 r11 rm rs r17 size gen ser parts t out v F) {i:Nat} {p:Tx} (hi:i<256) (hpa:parts<256) (hp:p.length+25≤size) (ho:out.length≤1000) {k:dI}
  (hk:∀h' v' F',SpJ h0 h' l rec r1 r3 r5 r11 rm rs r17 size gen ser parts t (out++[pJ size gen ser i parts p]) v' F'->k (.bool true) h'):
  aAK PG (aHI l) #[.int .i64 (i:Int),.string (tx p)] h k:=by
 have h64:=ok.1;have h512:=ok.2;obtain⟨⟨nl1,nl3,nl5,nl11,nlm,nls,nl17⟩,⟨m0,m1,m3,m5,m11,mm,ms⟩,⟨s0,s1,s3,s5,s11,sm,s17⟩⟩:=nd8 hn;refine aP6 J.loop (by rw[hrec];rfl) ?_;have e1:rec.assign=nR:=by rw[hrec]
 have e2:rec.body=mU:=by rw[hrec]
 have e3:(rec.params.zip #[.int .i64 (i:Int),.string (tx p)]).foldl (λtmps (t,a)=>tmps.setIfInBounds t a) rec.tmps=(tmps.setIfInBounds 27 (.int .i64 (i:Int))).setIfInBounds 28 (.string (tx p)):=by rw[hrec];simp
 rw[e1,e2,e3];refine uY.next (by simpa using hsz) ?_;have gd:∀j,j≠27->j≠28->((tmps.setIfInBounds 27 (.int .i64 (i:Int))).setIfInBounds 28 (.string (tx p))).getD j undef=tmps.getD j undef:=λj a b=>by
  simp[aFv,Array.getElem?_setIfInBounds,Ne.symm a,Ne.symm b]
 have t27:((tmps.setIfInBounds 27 (.int .i64 (i:Int))).setIfInBounds 28 (.string (tx p))).getD 27 undef= .int .i64 (i:Int):=by
  simp[aFv,Array.getElem?_setIfInBounds,hsz]
 have t28:((tmps.setIfInBounds 27 (.int .i64 (i:Int))).setIfInBounds 28 (.string (tx p))).getD 28 undef= .string (tx p):=by
  simp[aFv,Array.getElem?_setIfInBounds,hsz]
 rw[gd 4 (by decide) (by decide),gd 5 (by decide) (by decide),gd 6 (by decide) (by decide),gd 10 (by decide) (by decide),gd 11 (by decide) (by decide),t27,t28,t4,t5,t6,t10,t11];unfold uY;refine aPg J.loop (by rw[hrec]) ?_;have u1:eH [l] h (h.set l (.loop {rec with state:=.busy})):=eH.set (by simp);have bl1:(h.set l (.loop {rec with state:=.busy})) l=some (.loop {rec with state:=.busy}):=gB;generalize h.set l (.loop {rec with state:=.busy})=h1 at *;have B1:=J.b1.upd u1 nl1;have B3:=J.b3.upd u1 nl3;have B5:=J.b5.upd u1 nl5;have B11:=J.b11.upd u1 nl11;have Bm:=J.bm.upd u1 nlm;have Bs:=J.bs.upd u1 nls;have B17:=J.b17.upd u1 nl17;have apart:=J.apart;have O1:=J.own.upd u1 (λb hb hm=>apart b hb (by simp only[jI] at hm;simp[hm]));intro r24 hr24
 try rw[dY]
 have S0:=WN.start hr24;generalize h1.set r24 (.cells (eX PG gH) gH)=h2 at *;refine aPA (ys:=[82]) S0 (by simp) (by simp) λh3 F3 x3 e3 S3 K3=>?_;simp only[dN.load,iL (B3.ext S3.upd),dF,reduceIte,dM,Nat.reduceAdd];refine aEy S3 (by rw[e3];simp) g1 λh4 F4 x4 e4 S4 K4=>?_;simp only[dN.load,iL (B5.ext S4.upd),dF,reduceIte,dM,Nat.reduceAdd];refine aEy S4 (by rw[e4,e3];simp[zK,iZ]) g2 λh5 F5 x5 e5 S5 K5=>?_;refine aBm S5 (by rw[e5,e4,e3];simp[zK,iZ]) (i:Int) λh6 F6 x6 e6 S6 K6=>?_;have e6':x6=(0,[82]++(be gen 8++(be ser 8++be i 1))):=by
  rw[e6,e5,e4,e3];unfold lQ zK;rw[if_pos ⟨by omega,by omega⟩];simp
 simp only[aR.load,iL (B11.ext S6.upd),dF,reduceIte,dM,Nat.reduceAdd];refine aBm S6 (by rw[e6'];simp[iZ]) (parts:Int) λh7 F7 x7 e7 S7 K7=>?_;have e7':x7=(0,[82]++(be gen 8++(be ser 8++(be i 1++be parts 1)))):=by
  rw[e7,e6'];unfold lQ;rw[if_pos ⟨by omega,by omega⟩];simp
 refine aTi S7 (by rw[e7'];simp[iZ]) p λh8 F8 x8 e8 S8 K8=>?_;have e8':x8=(0,[82]++(be gen 8++(be ser 8++(be i 1++(be parts 1++(be p.length 2++p)))))):=by
  rw[e8,e7'];unfold aFY;rw[if_pos (by omega)];simp
 have w1:IntKind.i64.wrap ((size:Int)-25)=((size-25:Nat):Int):=by rw[fW (by omega) (by omega)];omega
 have w2:IntKind.i64.wrap (((size-25:Nat):Int)-(p.length:Int))=((size-25-p.length:Nat):Int):=by rw[fW (by omega) (by omega)];omega
 simp only[aR.load,iL (B1.ext S8.upd),w1,jS,w2,dF,reduceIte,dM,Nat.reduceAdd];refine aLf (by omega) λh9 u9=>?_;refine aPA (WS.ext S8 u9) (by rw[e8'];simp[iZ];omega) (by simp;omega) λh10 F10 x10 e10 S10 K10=>?_;refine aMi S10.at_ λh11 u11=>?_;have e10':x10=(0,oL size gen ser i parts p):=by
  rw[e10,e8'];unfold oL mD;simp only[xN]
 have eb:aEI (x10.1,x10.2)=(oL size gen ser i parts p,0):=by
  rw[e10'];rfl
 have w11:eM h1 h11:=S10.upd.fresh u11 S10.fresh;rw[eb];have hbl:=aGz (size:=size) (gen:=gen) (ser:=ser) (k:=i) (parts:=parts) hp;simp only[eB.load,iL (B17.ext w11),dF,reduceIte,dM,Nat.reduceAdd];refine aQ0 _ (by omega) λh12 u12=>?_;have w12:=w11.trans u12;refine⟨iL (B17.ext w12),?_⟩;simp only[aGo,dF,reduceIte,dM,Nat.reduceAdd];intro r56 hr56;refine jC ?_
 try rw[dY]
 have S1:=(aGi (h:=h12) (r:=r56) (oI (oL size gen ser i parts p))).slR;have u13:eM h12 (h12.set r56 (.cells #[.string (tx (oI (oL size gen ser i parts p)))] aT)):=eH.new hr56;generalize h12.set r56 (.cells #[.string (tx (oI (oL size gen ser i parts p)))] aT)=h13 at *;have w13:=w12.trans u13;have O13:=O1.ext w13;refine mQ eB.und eB.und aT.info aT.size aT.bytes aT.zero rfl (by decide) O13 S1 (by simp[gN]) (by simp only[jJ,jY,lU];omega) ?_;intro v14 h14 F14 O14 u14 g14 _;have O14:fY h14 aT 1 v14 ((out++[pJ size gen ser i parts p]).map jX) F14:=by rw[xX];exact O14
 have kn:∀b,h1 b≠none->h13 b≠none:=λb hb=>by
  cases e:h1 b with
  | none=>exact absurd e hb
  | some o=>rw[w13.get e];simp
 have notF:∀b∈[l,r1,r3,r5,r11,rm,rs,r17],b∉F14:=λb hb hm=>by
  rcases g14 b hm with h1'|h1'
  ·exact apart b h1' hb
  ·simp only[jW,zLg,or_false] at hb;rcases hb with rfl|rfl|rfl|rfl|rfl|rfl|rfl|rfl
   ·exact kn _ (by rw[bl1];simp) h1'
   ·exact kn _ B1.known h1'
   ·exact kn _ B3.known h1'
   ·exact kn _ B5.known h1'
   ·exact kn _ B11.known h1'
   ·exact kn _ Bm.known h1'
   ·exact kn _ Bs.known h1'
   ·exact kn _ B17.known h1'
 have aF:∀b∈[l,r1,r3,r5,r11,rm,rs,r17],b∉F:=λb hb hm=>apart b hm hb;have C:∀{r:Nat} {cs:List Value},r∈[l,r1,r3,r5,r11,rm,rs,r17]->Bx h1 r cs->Bx h14 r cs:=λhr B=>(B.ext w13).upd u14 (aF _ hr);have B17':=C (by simp) B17;refine eB.put B17' (o:=0) (by show 0<1;decide) O14.slR.isc λh15 B15 u15=>?_;have B15:Bx h15 r17 [v14]:=B15;have bl15:h15 l=some (.loop {rec with state:=.busy}):=u15.get (u14.get (w13.get bl1) (aF l (by simp))) m0;refine aUC bl15 ?_;have u16:eH [l] h15 (h15.set l (.loop {{rec with state:=.busy} with state:=if (none:Option Code).isNone then .ready else .done,pending:=none})):=eH.set (by simp);have bl16:(h15.set l (.loop {{rec with state:=.busy} with state:=if (none:Option Code).isNone then .ready else .done,pending:=none})) l=some (.loop rec):=by rw[gB,hrec];rfl
 generalize h15.set l (.loop {{rec with state:=.busy} with state:=if (none:Option Code).isNone then .ready else .done,pending:=none})=h16 at *;have D:∀{r:Nat} {cs:List Value},r∈[l,r1,r3,r5,r11,rm,rs,r17]->r∉[r17]->r∉[l]->Bx h1 r cs->Bx h16 r cs:=λhr h17 hl B=>((C hr B).upd u15 h17).upd u16 hl;have fF14:fX h0 F14:=λb hb=>by
  rcases g14 b hb with h2|h2
  ·exact J.fresh b h2
  ·cases e:h0 b with
   | none=>rfl
   | some o=>
    exfalso;have e1:=J.ext.get e;by_cases hbl:b=l
    ·exact notF l (by simp) (hbl▸hb)
    ·exact kn b (by rw[u1.get e1 (by simpa using hbl)];simp) h2
 refine hk h16 v14 F14 ⟨bl16,D (by simp) m1 nl1 B1,D (by simp) m3 nl3 B3,D (by simp) m5 nl5 B5,D (by simp) m11 nl11 B11,D (by simp) mm nlm Bm,D (by simp) ms nls Bs,B15.upd u16 nl17,(O14.upd u15 (λb hb hm=>by
  simp only[jI] at hm;exact notF r17 (by simp) (hm▸hb))).upd u16 (λb hb hm=>by
  simp only[jI] at hm;exact notF l (by simp) (hm▸hb)),fF14,λb hb hm=>notF b hm hb,((((J.ext.fresh u1 (fX.one J.fl)).trans w13).fresh u14 J.fresh).fresh u15 (fX.one J.f17)).fresh u16 (fX.one J.fl),J.fl,J.f17,J.fs⟩
def aWj{h0 h:PH}{l:Nat}{rec:Loop}{fn:FuncId}{tmps:Array Value}{D:Nat}{r1 r3 r5 r11 rm rs r17 size gen ser:Nat}{s:Tx}{v:Value}{F:List Nat}(ok:iB size)(hs:s.length≤4096)(g1:gen<18446744073709551616)(g2:ser<18446744073709551616)
  (hrec:rec= {state:=.ready,pending:=none,fn,tmps,params:=#[27,28],assign:=nR,body:=mU,defers:=D}) (hsz:tmps.size=57) (t4:tmps.getD 4 undef=pT r1 0) (t5:tmps.getD 5 undef=pT r3 0) (t6:tmps.getD 6 undef=pT r5 0) (t10:tmps.getD 10 undef=pT r11 0) (t11:tmps.getD 11 undef=pT r17 0)
  (hn: [l,r1,r3,r5,r11,rm,rs,r17].Nodup) (J:SpJ h0 h l rec r1 r3 r5 r11 rm rs r17 size gen ser (fD size s.length) s [] v F) {k:dI}
  (hk:∀h' v' F' t,SpJ h0 h' l rec r1 r3 r5 r11 rm rs r17 size gen ser (fD size s.length) t (hY size gen ser s) v' F'->k (.tuple #[]) h'):
  bR PG aDJ #[aHI l,pT rm 0,pT rs 0] h k:=by
 have h64:=ok.1;have h512:=ok.2;have h106:=aI5 (n:=s.length) ok;have hp1:=vZ (n:=s.length) ok hs;obtain⟨⟨nl1,nl3,nl5,nl11,nlm,nls,nl17⟩,⟨m0,m1,m3,m5,m11,mm,ms⟩,⟨s0,s1,s3,s5,s11,sm,s17⟩⟩:=nd8 hn;apply aFu.call;unfold aFu;refine⟨λvs h'=>∃(i:Nat) (v':Value) (F':List Nat),i<fD size s.length∧vs=[aHI l,pT rm 0,pT rs 0,.int .i64 (i:Int)]∧SpJ h0 h' l rec r1 r3 r5 r11 rm rs r17 size gen ser (fD size s.length) (s.drop (i*(size-25))) ((hY size gen ser s).take i) v' F',gT 200 3,⟨0,v,F,by omega,rfl,by simpa using J⟩,?_⟩;rintro ρ h' ⟨i,v',F',hi,hvs,J'⟩;simp only[jF,kF,lT,and_true] at hvs;obtain⟨x0,x1,x2,x4⟩:=hvs;unfold aJF;rw[x0,x1,x2,x4];obtain⟨pl1,pl2,pl3,pl4⟩:=aHM ok hs hi;have hmin:(if ((s.drop (i*(size-25))).length:Int)<((size-25:Nat):Int) then((s.drop (i*(size-25))).length:Int) else((size-25:Nat):Int))=(((kK (size-25) s i).length:Nat):Int):=by
  unfold kK;rw[mT];split<;>omega
 have hle:(kK (size-25) s i).length≤(s.drop (i*(size-25))).length:=by
  unfold kK;rw[mT];omega
 have c:dE PG (Instr.sliceAt aT (.string (tx (s.drop (i*(size-25))))) none (some (.int .i64 (((kK (size-25) s i).length:Nat):Int))) none)=some (.string (tx (kK (size-25) s i))):=by
  have:=lE (P:=PG) (t:=aT) (l:=s.drop (i*(size-25))) (i:=0) (j:=(kK (size-25) s i).length) (lo:=none) (hi:=some (.int .i64 (((kK (size-25) s i).length:Nat):Int))) aT.und (.inl ⟨rfl,rfl⟩) (.inr ⟨_,rfl⟩) (by omega) hle;rw[this,zLb];congr 3;unfold kK;rw[mT,Nat.min_comm];by_cases q:(s.drop (i*(size-25))).length≤size-25
  ·rw[aGb q,zLJ,sU q]
  ·rw[Nat.min_eq_right (by omega)]
 simp only[aR.load,aT.load,iL J'.bm,iL J'.bs,jS,aLv,hmin,c,dF,reduceIte,dM,Nat.reduceAdd];refine aUT ok g1 g2 hrec hsz t4 t5 t6 t10 t11 hn J' (i:=i) (p:=kK (size-25) s i) (by omega) (by omega) pl1 (by rw[mT];omega) λh2 v2 F2 J2=>?_;have et:(hY size gen ser s).take i++[pJ size gen ser i (fD size s.length) (kK (size-25) s i)]=(hY size gen ser s).take (i+1):=by
  rw[zLR];have:(hY size gen ser s)[i]? =some (pJ size gen ser i (fD size s.length) (kK (size-25) s i)):=by
   unfold hY;rw[xB,List.getElem?_range hi];rfl
  rw[this];rfl
 rw[et] at J2;have hdl:(s.drop (i*(size-25))).length=s.length-i*(size-25):=kD;have epl:(kK (size-25) s i).length=min (size-25) (s.length-i*(size-25)):=by
  unfold kK;rw[mT,hdl]
 have hm:(i+1)*(size-25)=i*(size-25)+(size-25):=Nat.succ_mul _ _;by_cases cl:i+1=fD size s.length
 ·have q:((((kK (size-25) s i).length:Nat):Int)==((s.drop (i*(size-25))).length:Int))=true:=by
   have:=(aD3 ok hs cl).1;rw[beq_iff_eq];omega
  simp only[aT.load,iL J2.bs,jS,gX,q,dF,reduceIte,dM,Nat.reduceAdd];rw[cl,sU (by rw[kQ];exact nQ _)] at J2;exact hk h2 v2 F2 _ J2
 ·have h3:=aDs (k:=i) ok hs (by omega);have q:((((kK (size-25) s i).length:Nat):Int)==((s.drop (i*(size-25))).length:Int))=false:=by
   rw[beq_eq_false_iff_ne];omega
  have ep:(kK (size-25) s i).length=size-25:=by omega
  have gi:=oM (i:=i) (by omega);have c2:dE PG (Instr.sliceAt aT (.string (tx (s.drop (i*(size-25))))) (some (.int .i64 (((kK (size-25) s i).length:Nat):Int))) none none)=some (.string (tx (s.drop ((i+1)*(size-25))))):=by
   have:=lE (P:=PG) (t:=aT) (l:=s.drop (i*(size-25))) (i:=(kK (size-25) s i).length) (j:=(s.drop (i*(size-25))).length) (lo:=some (.int .i64 (((kK (size-25) s i).length:Nat):Int))) (hi:=none) aT.und (.inr ⟨_,rfl⟩) (.inl ⟨rfl,rfl⟩) hle (nQ _);rw[this,zLJ,rQ,ep,hm]
  simp only[aT.load,iL J2.bs,jS,gX,q,c2,dF,reduceIte,dM,Nat.reduceAdd];refine aT.put J2.bs (o:=0) (by show 0<1;decide) rfl λh3 B3 u3=>?_;have B3:Bx h3 rs [.string (tx (s.drop ((i+1)*(size-25))))]:=B3;simp only[gi,dF,reduceIte,dM,Nat.reduceAdd];refine⟨⟨i+1,v2,F2,by omega,rfl,⟨u3.get J2.loop s0,J2.b1.upd u3 s1,J2.b3.upd u3 s3,J2.b5.upd u3 s5,J2.b11.upd u3 s11,J2.bm.upd u3 sm,B3,J2.b17.upd u3 s17,J2.own.upd u3 (λb hb hm=>by
   simp only[jI] at hm;exact J2.apart b hb (by simp[hm])),J2.fresh,J2.apart,J2.ext.fresh u3 (fX.one J2.fs),J2.fl,J2.f17,J2.fs⟩⟩,by simp[gT,x4];omega⟩
def aQA{h:PH}(size gen ser:Nat)(s:Tx)(ok:iB size)(g1:gen<18446744073709551616)(g2:ser<18446744073709551616)(hl:s.length≤1000000){k:dI}
  (hk:∀h' v F,fY h' aT 1 v ((hY size gen ser s).map jX) F->fX h F->eM h h'->k (.tuple #[v,.int .i64 (if fD size s.length=0 then 1 else 0)]) h'):bR PG aDn #[.int .i64 (size:Int),.int .u64 (gen:Int),.int .u64 (ser:Int),.string (tx s)] h k:=by
 have h64:=ok.1;have h512:=ok.2;apply yW.call;unfold yW;intro r1 hr1
 try rw[dY]
 have u1:eM h (h.set r1 (.cells (Value.cells (.int .i64 (size:Int))) aR)):=eH.new hr1;have B1:Bx (h.set r1 (.cells (Value.cells (.int .i64 (size:Int))) aR)) r1 [.int .i64 (size:Int)]:=Bx.new;generalize h.set r1 (.cells (Value.cells (.int .i64 (size:Int))) aR)=h1 at *;intro r3 hr3
 try rw[dY]
 have u3:eM h1 (h1.set r3 (.cells (Value.cells (.int .u64 (gen:Int))) dN)):=eH.new hr3;have B3:Bx (h1.set r3 (.cells (Value.cells (.int .u64 (gen:Int))) dN)) r3 [.int .u64 (gen:Int)]:=Bx.new;generalize h1.set r3 (.cells (Value.cells (.int .u64 (gen:Int))) dN)=h3 at *;intro r5 hr5
 try rw[dY]
 have u5:eM h3 (h3.set r5 (.cells (Value.cells (.int .u64 (ser:Int))) dN)):=eH.new hr5;have B5:Bx (h3.set r5 (.cells (Value.cells (.int .u64 (ser:Int))) dN)) r5 [.int .u64 (ser:Int)]:=Bx.new;generalize h3.set r5 (.cells (Value.cells (.int .u64 (ser:Int))) dN)=h5 at *;have e5:=(u1.trans u3).trans u5;have C1:=(B1.ext u3).ext u5;have C3:=B3.ext u5;simp only[aR.load,iL C1,jS,dF,reduceIte,dM,Nat.reduceAdd];refine aIs size s.length (by omega) ?_;intro r11 hr11
 try rw[dY]
 refine aR.fill hr11 rfl λh11 B11 u11=>?_;have e11:=e5.trans u11;by_cases c0:fD size s.length=0
 ·have q0:(((fD size s.length:Nat):Int)==0)=true:=by simp[c0]
  simp only[aR.load,iL B11,gX,q0,dF,reduceIte,dM,Nat.reduceAdd];have:=hk h11 (.slice none 0 0) [] (by
   have:hY size gen ser s=[]:=by unfold hY;rw[c0];rfl
   rw[this];exact fY.nil) (λb hb=>by cases hb) e11
  rw[if_pos c0] at this;exact this
 ·have q0:(((fD size s.length:Nat):Int)==0)=false:=by rw[beq_eq_false_iff_ne];omega
  have hs:s.length≤4096:=by
   have:=(yQ (n:=s.length) ok).2;omega
  simp only[aR.load,iL B11,gX,q0,dF,reduceIte,dM,Nat.reduceAdd];intro r17 hr17
  try rw[dY]
  have B17:=eB.zbox (h:=h11) (r:=r17);have u17:eM h11 (h11.set r17 (.cells (eX PG eB) eB)):=eH.new hr17;generalize h11.set r17 (.cells (eX PG eB) eB)=h17 at *;have B17:Bx h17 r17 [.slice none 0 0]:=B17;have D1:=(C1.ext u11).ext u17;have D3:=(C3.ext u11).ext u17;have D5:=(B5.ext u11).ext u17;have D11:=B11.ext u17;have e17:=e11.trans u17;have w1:IntKind.i64.wrap ((size:Int)-25)=((size-25:Nat):Int):=by rw[fW (by omega) (by omega)];omega
  simp only[aR.load,iL D1,w1,dF,reduceIte,dM,Nat.reduceAdd];apply aID.call;unfold aID;intro rs hrs
  try rw[dY]
  have us:eM h17 (h17.set rs (.cells (Value.cells (.string (tx s))) aT)):=eH.new hrs;have Bs:Bx (h17.set rs (.cells (Value.cells (.string (tx s))) aT)) rs [.string (tx s)]:=Bx.new;generalize h17.set rs (.cells (Value.cells (.string (tx s))) aT)=h18 at *;intro rm hrm
  try rw[dY]
  have um:eM h18 (h18.set rm (.cells (Value.cells (.int .i64 ((size-25:Nat):Int))) aR)):=eH.new hrm;have Bm:Bx (h18.set rm (.cells (Value.cells (.int .i64 ((size-25:Nat):Int))) aR)) rm [.int .i64 ((size-25:Nat):Int)]:=Bx.new;have Bs2:=Bs.ext um;generalize h18.set rm (.cells (Value.cells (.int .i64 ((size-25:Nat):Int))) aR)=h19 at *;have usm:=us.trans um;have e19:=e17.trans usm;simp only[aEQ,dF,reduceIte,dM,Nat.reduceAdd];unfold aEV;refine⟨by kernel_rfl,?_⟩;intro fn tmps l D hv hsz hl0;have t4:tmps.getD 4 undef=pT r1 0:=hv (4,_) (by simp);have t5:tmps.getD 5 undef=pT r3 0:=hv (5,_) (by simp);have t6:tmps.getD 6 undef=pT r5 0:=hv (6,_) (by simp);have t10:tmps.getD 10 undef=pT r11 0:=hv (10,_) (by simp);have t11:tmps.getD 11 undef=pT r17 0:=hv (11,_) (by simp);have ul:eM h19 (h19.set l (.loop {state:=.ready,pending:=none,fn,tmps,params:=#[27,28],assign:=nR,body:=mU,defers:=D})):=eH.new hl0;have bl:(h19.set l (.loop {state:=.ready,pending:=none,fn,tmps,params:=#[27,28],assign:=nR,body:=mU,defers:=D})) l=some (.loop {state:=.ready,pending:=none,fn,tmps,params:=#[27,28],assign:=nR,body:=mU,defers:=D}):=gB;obtain⟨rec,hrec⟩:∃rec:Loop,rec= {state:=.ready,pending:=none,fn,tmps,params:=#[27,28],assign:=nR,body:=mU,defers:=D}:=⟨_,rfl⟩;rw[←hrec] at ul bl ⊢;generalize h19.set l (.loop rec)=h20 at *;have e20:=e19.trans ul;have fresh_l:h l=none:=e19.none hl0;have f17:h r17=none:=e11.none hr17;have fs:h rs=none:=e17.none hrs;have n: [l,r1,r3,r5,r11,rm,rs,r17].Nodup:=by
   have a1:r1≠r3:=B1.apart hr3;have a2:r1≠r5:=(B1.ext u3).apart hr5;have a3:r3≠r5:=B3.apart hr5;have a4:r1≠r11:=C1.apart hr11;have a5:r3≠r11:=C3.apart hr11;have a6:r5≠r11:=B5.apart hr11;have a7:r1≠r17:=(C1.ext u11).apart hr17;have a8:r3≠r17:=(C3.ext u11).apart hr17;have a9:r5≠r17:=(B5.ext u11).apart hr17;have a10:r11≠r17:=B11.apart hr17;have b1:r1≠rs:=D1.apart hrs;have b2:r3≠rs:=D3.apart hrs;have b3:r5≠rs:=D5.apart hrs;have b4:r11≠rs:=D11.apart hrs;have b5:r17≠rs:=B17.apart hrs;have c1:r1≠rm:=(D1.ext us).apart hrm;have c2:r3≠rm:=(D3.ext us).apart hrm;have c3:r5≠rm:=(D5.ext us).apart hrm;have c4:r11≠rm:=(D11.ext us).apart hrm;have c5:r17≠rm:=(B17.ext us).apart hrm;have c6:rs≠rm:=Bs.apart hrm;have d1:r1≠l:=(D1.ext usm).apart hl0;have d2:r3≠l:=(D3.ext usm).apart hl0;have d3:r5≠l:=(D5.ext usm).apart hl0;have d4:r11≠l:=(D11.ext usm).apart hl0;have d5:r17≠l:=(B17.ext usm).apart hl0;have d6:rs≠l:=Bs2.apart hl0;have d7:rm≠l:=Bm.apart hl0;simp only[aGT,jW,zLg,or_false,not_or,List.nodup_nil,and_true];exact⟨⟨d1.symm,d2.symm,d3.symm,d4.symm,d7.symm,d6.symm,d5.symm⟩,⟨a1,a2,a4,c1,b1,a7⟩,⟨a3,a5,c2,b2,a8⟩,⟨a6,c3,b3,a9⟩,⟨c4,b4,a10⟩,⟨c6.symm,c5.symm⟩,b5.symm,not_false⟩
  have um2:=usm.trans ul;show bR PG aDJ #[aHI l,pT rm 0,pT rs 0] h20 _;refine aWj ok hs g1 g2 hrec hsz t4 t5 t6 t10 t11 n ⟨bl,D1.ext um2,D3.ext um2,D5.ext um2,D11.ext um2,Bm.ext ul,Bs2.ext ul,B17.ext um2,fY.nil,(λb hb=>by cases hb),(λb hb=>by cases hb),e20,fresh_l,f17,fs⟩ λh21 v' F' t J=>?_;refine aNH J.loop (by rw[hrec];exact .inl rfl) ?_;have ep:rec.pending=none:=by rw[hrec]
  have hn':=(nd8 n).1.2.2.2.2.2.2;have u22:eH [l] h21 (h21.set l (.loop {rec with state:=.exhausted})):=eH.set (by simp);generalize h21.set l (.loop {rec with state:=.exhausted})=h22 at *;rw[ep];show dA _ _;have B22:=J.b17.upd u22 hn';simp only[eB.load,iL B22,dF,reduceIte,dM,Nat.reduceAdd];have:=hk h22 v' F' (J.own.upd u22 (λb hb hm=>by
   simp only[jI] at hm;exact J.apart b hb (by simp[hm]))) J.fresh (J.ext.fresh u22 (fX.one fresh_l))
  rw[if_neg c0] at this;exact this
def tI(w:Nat×Tx):List Value:=[.int .i64 (w.1:Int),.string (tx w.2)]
def tI.isC(w:Nat×Tx):∀v∈tI w,gN v=true:=by simp[tI,gN]
structure pD(a:Nat)(d:Dk)(h:PH)(F:List Nat):Prop where
 here:∃sv bv Fs Fb,F=a::(Fs++Fb)∧Bx h a [.int .i64 (d.size:Int),.int .i64 (d.sectors:Int),sv,bv,.int .i64 (d.arm:Int)]∧fY h aT 1 sv (d.st.map jX) Fs∧fY h fP 2 bv (d.buf.map tI) Fb∧a∉Fs∧a∉Fb∧∀b∈Fs,b∉Fb
 ok:d.Ok
 arm:d.arm<9223372036854775808
def pD.known{a:Nat}{d:Dk}{h:PH}{F:List Nat}(H:pD a d h F):∀b∈F,h b≠none:=by
 obtain⟨sv,bv,Fs,Fb,rfl,B,S,W,-⟩:=H.here;intro b hb;simp only[jW,wQ] at hb;rcases hb with rfl|hb|hb
 ·exact B.known
 ·exact S.known b hb
 ·exact W.known b hb
def pD.upd{a:Nat}{d:Dk}{h h':PH}{F K:List Nat}(H:pD a d h F)(u:eH K h h')(hK:∀b∈F,b∉K):pD a d h' F:=by
 obtain⟨sv,bv,Fs,Fb,rfl,B,S,W,n1,n2,n3⟩:=H.here;exact⟨⟨sv,bv,Fs,Fb,rfl,B.upd u (hK a (by simp)),S.upd u (λb hb=>hK b (by simp[hb])),W.upd u (λb hb=>hK b (by simp[hb])),n1,n2,n3⟩,H.ok,H.arm⟩
def pD.good(a:Nat)(d:Dk):aIu (pD a d):=⟨λH=>H.known,λH u hK=>H.upd u hK⟩
def pD.ext{a:Nat}{d:Dk}{h h':PH}{F:List Nat}(H:pD a d h F)(u:eM h h'):pD a d h' F:=(pD.good a d).ext H u
def aN6{h:PH}{v:Value}{rows:List (List Value)}{F:List Nat}(O:fY h aT 1 v rows F){i:Nat}(hi:i<rows.length){x:Value}(hx:gN x=true):
  ∃b o,dE PG (indexAt eB v (.int .i64 (i:Int)))=some (pT b o)∧∀{k:dI},(∀h',fY h' aT 1 v (rows.set i [x]) F->eH F h h'->k undef h')->dT PG (dX aT (pT b o) x) h k:=by
 have S:=O.slR;rcases O.here with⟨-,e,-⟩|⟨b,cap,cs,rfl,rfl,hb,hle,hm,hsz,ht⟩
 ·rw[e] at hi;exact absurd hi (by simp)
 ·have ea:dE PG (indexAt eB (.slice (some ⟨b,0,none⟩) rows.length cap) (.int .i64 (i:Int)))=some (pT b i):=by
   have:=aHW (P:=PG) (t:=eB) (b:=b) (o:=0) (len:=rows.length) (cap:=cap) (k:=.i64) (j:=(i:Int)) eB.und aT.info aT.size (by omega) (by omega);rw[this];simp
  refine⟨b,i,ea,λhk=>?_⟩;refine lX aT.und rfl hb (by omega) hx aT.info aT.size ?_;refine hk _ ?_ (eH.set (by simp));have hr:Rows 1 (rows.set i [x]):=λr hr=>by
   rcases List.mem_or_eq_of_mem_set hr with e|e
   ·exact O.ok r e
   ·rw[e];rfl
  have hl:(rows.set i [x]).length=rows.length:=List.length_set;have:=fY.mk' (h:=h.set b (.cells (cs.setIfInBounds i x) aT (0,0))) (e:=aT) (b:=b) (cap:=cap) (size:=1) (cs:=cs.setIfInBounds i x) hr gB (by omega) hm (by simpa using hsz) (by
   rw[hl,Nat.mul_one,Array.toList_setIfInBounds];rw[Nat.mul_one] at ht;have fl1:∀{l:List (List Value)},Rows 1 l->∀j:Nat,l.flatten[j]? =(l[j]?).bind (λr:List Value=>r[0]?):=by
    intro l hl;induction l with
    | nil=>intro j;rfl
    | cons y l ih=>
     intro j;have hy:=hl y (by simp);obtain⟨z,rfl⟩:∃z,y=[z]:=by
      cases y with
      | nil=>cases hy
      | cons z t=>cases t with
       | nil=>exact⟨z,rfl⟩
       | cons _ _=>simp at hy
     have ih:=ih (λr hr=>hl r (by simp[hr]));cases j with
     | zero=>rfl
     | succ j=>
      show l.flatten[j]? =_;rw[ih j];rfl
   apply aMR;intro j;rw[fl1 hr,aEv,List.getElem?_set,List.getElem?_set];have htj:(cs.toList.take rows.length)[j]? =rows.flatten[j]?:=by rw[ht]
   rw[fl1 O.ok,aEv] at htj;have hcl:cs.toList.length=cs.size:=by simp
   by_cases c:i=j
   ·subst c;rw[if_pos hi,if_pos rfl,if_pos rfl,if_pos hi,if_pos (by rw[hcl];omega)];rfl
   ·rw[if_neg c,if_neg c];exact htj)
  rw[hl] at this;exact this
def aFh(d:Dk):Value:=.agg #[.int .i64 (d.size:Int),.int .i64 (d.sectors:Int)]
def aFF{h:PH}(d:Dk){k:dI}(hk:∀h',eM h h'->k (.int .i64 (d.size:Int)) h'):bR PG lK #[aFh d] h k:=by
 apply aAk.call;unfold aAk;intro r1 hr1
 try rw[dY]
 have u1:eM h (h.set r1 (.cells (Value.cells (aFh d)) fR)):=eH.new hr1;have B1:Bx (h.set r1 (.cells (Value.cells (aFh d)) fR)) r1 [.int .i64 (d.size:Int),.int .i64 (d.sectors:Int)]:=Bx.new;generalize h.set r1 (.cells (Value.cells (aFh d)) fR)=h1 at *;have c0:eA h1 ⟨r1,0,none⟩=some (.int .i64 (d.size:Int)):=B1.cell 0;simp only[fR.f0,aR.load,c0,dF,reduceIte,dM,Nat.reduceAdd];exact hk h1 u1
def aMs{h:PH}(d:Dk){k:dI}(hk:∀h',eM h h'->k (.int .i64 (d.sectors:Int)) h'):bR PG tS #[aFh d] h k:=by
 apply xH.call;unfold xH;intro r1 hr1
 try rw[dY]
 have u1:eM h (h.set r1 (.cells (Value.cells (aFh d)) fR)):=eH.new hr1;have B1:Bx (h.set r1 (.cells (Value.cells (aFh d)) fR)) r1 [.int .i64 (d.size:Int),.int .i64 (d.sectors:Int)]:=Bx.new;generalize h.set r1 (.cells (Value.cells (aFh d)) fR)=h1 at *;have c0:eA h1 ⟨r1,0+1,none⟩=some (.int .i64 (d.sectors:Int)):=B1.cell 1;simp only[fR.f1,aR.load,c0,dF,reduceIte,dM,Nat.reduceAdd];exact hk h1 u1
def aPI{h:PH}(d:Dk)(n:Int){k:dI}(hk:∀h',eM h h'->k (.bool (decide (0≤n∧n<(d.sectors:Int)))) h'):bR PG vU #[aFh d,.int .i64 n] h k:=by
 apply aAE.call;unfold aAE;intro r1 hr1
 try rw[dY]
 have u1:eM h (h.set r1 (.cells (Value.cells (aFh d)) fR)):=eH.new hr1;have B1:Bx (h.set r1 (.cells (Value.cells (aFh d)) fR)) r1 [.int .i64 (d.size:Int),.int .i64 (d.sectors:Int)]:=Bx.new;generalize h.set r1 (.cells (Value.cells (aFh d)) fR)=h1 at *;have c0:eA h1 ⟨r1,0+1,none⟩=some (.int .i64 (d.sectors:Int)):=B1.cell 1;have hk:=hk h1 u1;by_cases c:0≤n
 ·have g:((0:Int)≤n)=True:=eq_true c;have e:decide (n<(d.sectors:Int))=decide (0≤n∧n<(d.sectors:Int)):=by
   rw[yA,decide_eq_true_iff,decide_eq_true_iff];exact⟨λh=>⟨c,h⟩,λh=>h.2⟩
  simp only[g,fR.f1,aR.load,c0,dF,reduceIte,dM,Nat.reduceAdd];rw[e];exact hk
 ·have g:((0:Int)≤n)=False:=eq_false c;have e:decide (0≤n∧n<(d.sectors:Int))=false:=decide_eq_false (λh=>c h.1);rw[e] at hk;simp only[g,dF,reduceIte,dM,Nat.reduceAdd];exact hk
structure DkB(a:Nat)(d:Dk)(h:PH)(sv bv:Value):Prop where
 geo:dH PG h (loadAt fR (pT a 0))=some (aFh d)
 size:eA h ⟨a,0,none⟩=some (.int .i64 (d.size:Int))
 st:eA h ⟨a,0+2,none⟩=some sv
 buf:eA h ⟨a,0+3,none⟩=some bv
 arm:eA h ⟨a,0+4,none⟩=some (.int .i64 (d.arm:Int))
def DkB.of{a:Nat}{d:Dk}{h:PH}{sv bv:Value}(B:Bx h a [.int .i64 (d.size:Int),.int .i64 (d.sectors:Int),sv,bv,.int .i64 (d.arm:Int)]):DkB a d h sv bv:=⟨fR.agg B (by show 0+2≤5;decide),B.cell 0,B.cell 2,B.cell 3,B.cell 4⟩
def aPu{h:PH}{a:Nat}{d:Dk}{F:List Nat}(D:pD a d h F){k:dI}(hk:∀h',pD a d.tick h' F->eH F h h'->k (.bool (decide (d.arm=1))) h'):bR PG aAs #[pT a 0] h k:=by
 apply aDC.call;unfold aDC;have ha:=D.arm;obtain⟨sv,bv,Fs,Fb,rfl,B,S,W,n1,n2,n3⟩:=D.here;have L:=DkB.of B;by_cases c:d.arm=0
 ·have q:((d.arm:Int)==0)=true:=by simp[c]
  have e:decide (d.arm=1)=false:=by rw[c];rfl
  have et:d.tick=d:=by
   unfold Dk.tick;rw[c];obtain⟨x1,x2,x3,x4,x5⟩:=d;simp only at c;subst c;rfl
  rw[e,et] at hk;simp only[fM.f3,aR.load,L.arm,gX,q,dF,reduceIte,dM,Nat.reduceAdd];exact hk h D eH.refl
 ·have q:((d.arm:Int)==0)=false:=by rw[beq_eq_false_iff_ne];omega
  have w:IntKind.i64.wrap ((d.arm:Int)-1)=((d.arm-1:Nat):Int):=by rw[fW (by omega) (by omega)];omega
  simp only[fM.f3,aR.load,L.arm,gX,q,w,dF,reduceIte,dM,Nat.reduceAdd];refine aR.put B (o:=4) (by show 4<5;decide) rfl λh2 B2 u2=>?_;have B2:Bx h2 a [.int .i64 (d.tick.size:Int),.int .i64 (d.tick.sectors:Int),sv,bv,.int .i64 (d.tick.arm:Int)]:=B2;have L2:=DkB.of B2;have e:(((d.arm-1:Nat):Int)==0)=decide (d.arm=1):=by
   rw[yA,beq_iff_eq,decide_eq_true_iff];omega
  have c4:eA h2 ⟨a,0+4,none⟩=some (.int .i64 ((d.arm-1:Nat):Int)):=B2.cell 4;simp only[fM.f3,aR.load,c4,gX,e,dF,reduceIte,dM,Nat.reduceAdd];refine hk h2 ⟨⟨sv,bv,Fs,Fb,rfl,B2,S.upd u2 (λb hb hm=>?_),W.upd u2 (λb hb hm=>?_),n1,n2,n3⟩,D.ok.tick,by show d.arm-1<_;omega⟩ (u2.mono λb hb=>.inl (by simp only[jI] at hb;simp[hb]))
  ·simp only[jI] at hm;exact n1 (hm▸hb)
  ·simp only[jI] at hm;exact n2 (hm▸hb)
def aYG(n:Int)(s:ByteArray):dE PG (build fP #[(0,.int .i64 n),(1,.string s)])=some (.agg #[.int .i64 n,.string s]):=by kernel_rfl
def aYS(n:Int)(s:ByteArray):lH PG (buildSlice fS 1 #[(0,.agg #[.int .i64 n,.string s])])=some (.cells #[.int .i64 n,.string s] fP,λr=>pure (.slice (some ⟨r,0,none⟩) 1 1)):=by kernel_rfl
def aT7{h:PH}{a:Nat}{d:Dk}{F:List Nat}(D:pD a d h F)(n:Int)(s:Tx)(hb:d.buf.length≤1000000){k:dI}(hk:∀h' F',pD a (d.wr n s).1 h' F'->fT h F h' F'->k (.int .i64 (d.wr n s).2) h'):bR PG aDf #[pT a 0,.int .i64 n,.string (tx s)] h k:=by
 apply aDF.call;unfold aDF;obtain⟨sv,bv,Fs,Fb,eF,B,S,W,n1,n2,n3⟩:=id D.here;have L:=DkB.of B;have hok:=D.ok.wr n s;unfold Dk.wr at hk hok;simp only[fM.f0,L.geo,dF,reduceIte,dM,Nat.reduceAdd];refine aPI d n λh1 u1=>?_;have D1:=D.ext u1;have L1:=DkB.of (B.ext u1);by_cases c1:0≤n∧n<(d.sectors:Int)
 ·by_cases c2:s.length=d.size
  ·have q2:((s.length:Int) !=(d.size:Int))=false:=by simp[c2]
   rw[if_neg (by omega)] at hk hok;simp only[c1,decide_true,and_self,jS,fM.f0,fR.f0,aR.load,L1.size,fZ,q2,dF,reduceIte,dM,Nat.reduceAdd];refine aPu D1 λh2 D2 u2=>?_;have st2:fT h F h2 F:=(fT.ext u1).trans ⟨u2,λb hb=>.inl hb⟩;by_cases c3:d.arm=1
   ·rw[if_pos c3] at hk;simp only[c3,decide_true,dF,reduceIte,dM,Nat.reduceAdd];exact hk h2 F D2 st2
   ·rw[if_neg c3] at hk hok;obtain⟨sv,bv,Fs,Fb,eF,B2,S2,W2,n1,n2,n3⟩:=D2.here;have L2:=DkB.of B2;simp only[c3,decide_false,fM.f2,fS.load,L2.buf,aYG,aYS,dF,reduceIte,dM,Nat.reduceAdd];intro r44 hr44;refine jC ?_
    try rw[dY]
    have Sl:jE (h2.set r44 (.cells #[.int .i64 n,.string (tx s)] fP)) 2 (.slice (some ⟨r44,0,none⟩) 1 1) [[.int .i64 n,.string (tx s)]]:=(fY.lit (e:=fP) (size:=2) (rows:=[[.int .i64 n,.string (tx s)]]) (n:=1) (λr hr=>by simp only[jI] at hr;rw[hr];rfl) gB rfl (by decide) rfl).slR;have u3:eM h2 (h2.set r44 (.cells #[.int .i64 n,.string (tx s)] fP)):=eH.new hr44;generalize h2.set r44 (.cells #[.int .i64 n,.string (tx s)] fP)=h3 at *;have bl:(d.tick.buf.map tI).length=d.buf.length:=by rw[jJ];rfl
    refine mQ fS.und fS.und fP.info fP.size fP.bytes fP.zero rfl (by decide) (W2.ext u3) Sl (by simp[gN]) (by rw[bl];simp only[jY,lU];omega) ?_;intro v4 h4 F4 O4 u4 g4 _;have B4:=(B2.ext u3).upd u4 n2;have en:n=((n.toNat:Nat):Int):=by omega
    have O4:fY h4 fP 2 v4 ((d.buf++[(n.toNat,s)]).map tI) F4:=by
     rw[xX];have:tI (n.toNat,s)=[.int .i64 n,.string (tx s)]:=by unfold tI;simp only;rw[←en]
     rw[jF,kF,this];exact O4
    have S4:=(S2.ext u3).upd u4 n3;have k3:∀b,h2 b≠none->h3 b≠none:=λb hb=>by
     cases e:h2 b with
     | none=>exact absurd e hb
     | some o=>rw[u3.get e];simp
    have na4:a∉F4:=λhm=>by
     rcases g4 a hm with e|e
     ·exact n2 e
     ·exact k3 a B2.known e
    have ns4:∀b∈Fs,b∉F4:=λb hb hm=>by
     rcases g4 b hm with e|e
     ·exact n3 b hb e
     ·exact k3 b (S2.known b hb) e
    refine fS.put B4 (o:=3) (by show 3<5;decide) O4.slR.isc λh5 B5 u5=>?_;have B5:Bx h5 a [.int .i64 (d.size:Int),.int .i64 (d.sectors:Int),sv,v4,.int .i64 ((d.arm-1:Nat):Int)]:=B5;have ha:=D.arm;refine hk h5 (a::(Fs++F4)) ⟨⟨sv,v4,Fs,F4,rfl,B5,S4.upd u5 (λb hb hm=>?_),O4.upd u5 (λb hb hm=>?_),n1,na4,ns4⟩,hok,by show d.arm-1<_;omega⟩ (st2.trans ⟨?_,?_⟩)
    ·simp only[jI] at hm;exact n1 (hm▸hb)
    ·simp only[jI] at hm;exact na4 (hm▸hb)
    ·rw[eF];intro b o hbo hnm;simp only[jW,wQ,not_or] at hnm;exact u5.get (u4.get (u3.get hbo) hnm.2.2) (by simp only[jI];exact hnm.1)
    ·intro b hb;rw[eF];simp only[jW,wQ] at hb ⊢;rcases hb with rfl|hb|hb
     ·exact .inl (.inl rfl)
     ·exact .inl (.inr (.inl hb))
     ·rcases g4 b hb with e|e
      ·exact .inl (.inr (.inr e))
      ·right;cases e2:h2 b with
       | none=>rfl
       | some o=>rw[u3.get e2] at e;cases e
  ·have q2:((s.length:Int) !=(d.size:Int))=true:=by rw[bne_iff_ne];omega
   rw[if_pos (by omega)] at hk;simp only[c1,decide_true,and_self,jS,fM.f0,fR.f0,aR.load,L1.size,fZ,q2,dF,reduceIte,dM,Nat.reduceAdd];exact hk h1 F D1 (fT.ext u1)
 ·rw[if_pos (by omega)] at hk;simp only[c1,decide_false,dF,reduceIte,dM,Nat.reduceAdd];exact hk h1 F D1 (fT.ext u1)
def aSa{h:PH}{v:Value}{l:List (Nat×Tx)}(S:jE h 2 v (l.map tI)){i:Nat}{w:Nat×Tx}(hx:l[i]? =some w):∃a,dE PG (indexAt fS v (.int .i64 (i:Int)))=some (.pointer (some a))∧dH PG h (loadAt fP (.pointer (some a)))=some (.agg (tI w).toArray):=
 S.loadAgg (t:=fS) (k:=.i64) (j:=(i:Int)) fS.und fP.info fP.size fP.und rfl (by omega) (by rw[xZ,xB,hx];rfl)
def aLb{h:PH}{v:Value}{l:List (Nat×Tx)}(S:jE h 2 v (l.map tI)):dE PG (Builtin.len_ #[fS] aR #[v])=some (.int .i64 l.length):=by
 have:=S.len (t':=aR) fS.und;rw[jJ] at this;exact this
def aJZ{st:List Tx}{l:List (Nat×Tx)}{i:Nat}{w:Nat×Tx}(hx:l[i]? =some w):mV st (l.take (i+1))=(mV st (l.take i)).set w.1 w.2:=by
 rw[zLR,hx];exact aJU _ _ _
def aLN(l:List Tx)(i:Nat)(x:Tx):(l.map jX).set i [.string (tx x)]=(l.set i x).map jX:=by rw[List.map_set];rfl
def aQT{h:PH}{a:Nat}{d:Dk}{F:List Nat}(D:pD a d h F)(hb:d.buf.length≤1000000){k:dI}(hk:∀h' F',pD a d.fl.1 h' F'->fT h F h' F'->k (.int .i64 d.fl.2) h'):bR PG aAh #[pT a 0] h k:=by
 apply wJ.call;unfold wJ;have hok:=D.ok.fl;unfold Dk.fl at hk hok;refine aPu D λh1 D1 u1=>?_;have st1:fT h F h1 F:=⟨u1,λb hb=>.inl hb⟩;by_cases c:d.arm=1
 ·rw[if_pos c] at hk;simp only[c,decide_true,dF,reduceIte,dM,Nat.reduceAdd];exact hk h1 F D1 st1
 ·rw[if_neg c] at hk hok;obtain⟨sv,bv,Fs,Fb,eF,B,S,W,n1,n2,n3⟩:=D1.here;have L:=DkB.of B;have B:Bx h1 a [.int .i64 (d.size:Int),.int .i64 (d.sectors:Int),sv,bv,.int .i64 ((d.arm-1:Nat):Int)]:=B;have S:fY h1 aT 1 sv (d.st.map jX) Fs:=S;have W:fY h1 fP 2 bv (d.buf.map tI) Fb:=W;simp only[c,decide_false,fM.f2,fS.load,L.buf,aLb W.slR,dF,reduceIte,dM,Nat.reduceAdd];refine⟨λvs h'=>∃i:Nat,i≤d.buf.length∧vs=[pT a 0,bv,.int .i64 (d.buf.length:Int),.int .i64 (i:Int)]∧fY h' aT 1 sv ((mV d.st (d.buf.take i)).map jX) Fs∧eH Fs h1 h',gT d.buf.length 3,⟨0,by omega,rfl,S,eH.refl⟩,?_⟩;rintro ρ h' ⟨i,hi,hvs,S2,w⟩;simp only[jF,kF,lT,and_true] at hvs;obtain⟨x0,x10,x11,x12⟩:=hvs;unfold aHE;rw[x0,x10,x11,x12];have B2:=B.upd w n1;have W2:=W.upd w (λb hb hm=>n3 b hm hb);by_cases hlt:i<d.buf.length
  ·have g:((i:Int)<(d.buf.length:Int))=True:=eq_true (by omega);have gi:=oM (i:=i) (by omega);obtain⟨x,hx⟩:∃x,d.buf[i]? =some x:=⟨_,lG hlt⟩;have hxb:=D.ok.buf x (wE hx);obtain⟨p,i1,i2⟩:=aSa W2.slR hx;simp only[g,i1,i2,dF,reduceIte,dM,Nat.reduceAdd];intro r12 hr12
   try rw[dY]
   refine fP.fill (vs:=tI x) hr12 rfl (tI.isC x) λh3 B3 u3=>?_;have c0:eA h3 ⟨r12,0,none⟩=some (.int .i64 (x.1:Int)):=B3.cell 0;have c1:eA h3 ⟨r12,0+1,none⟩=some (.string (tx x.2)):=B3.cell 1;have cs:eA h3 ⟨a,0+2,none⟩=some sv:=(B2.ext u3).cell 2;have hx1:x.1<((mV d.st (d.buf.take i)).map jX).length:=by rw[jJ,aA2,D.ok.len];exact hxb.1
   obtain⟨b,o,j1,j2⟩:=aN6 (S2.ext u3) hx1 (x:=.string (tx x.2)) rfl;simp only[fM.f1,eB.load,cs,fP.f0,fP.f1,aR.load,aT.load,c0,c1,j1,dF,reduceIte,dM,Nat.reduceAdd];refine j2 λh4 S4 u4=>?_;simp only[gi,dF,reduceIte,dM,Nat.reduceAdd];refine⟨⟨i+1,by omega,rfl,?_,(w.trans u3.upd).trans u4⟩,by simp[gT,x12];omega⟩;rw[aJZ hx,←aLN];exact S4
  ·have g:((i:Int)<(d.buf.length:Int))=False:=eq_false (by omega);have ei:d.buf.take i=d.buf:=sU (by omega);rw[ei] at S2;simp only[g,fM.f2,dF,reduceIte,dM,Nat.reduceAdd];refine fS.put B2 (o:=3) (by show 3<5;decide) rfl λh3 B3 u3=>?_;have B3:Bx h3 a [.int .i64 (d.size:Int),.int .i64 (d.sectors:Int),sv,.slice none 0 0,.int .i64 ((d.arm-1:Nat):Int)]:=B3;have ha:=D.arm;refine hk h3 (a::(Fs++[])) ⟨⟨sv,.slice none 0 0,Fs,[],rfl,B3,S2.upd u3 (λb hb hm=>?_),fY.nil,n1,by simp,by simp⟩,hok,by show d.arm-1<_;omega⟩ (st1.trans ⟨?_,?_⟩)
   ·simp only[jI] at hm;exact n1 (hm▸hb)
   ·rw[eF];exact(w.mono λb hb=>.inl (by simp[hb])).trans (u3.mono λb hb=>.inl (by simp only[jI] at hb;simp[hb]))
   ·intro b hb;rw[eF];simp only[zLQ,jW,wQ] at hb ⊢;rcases hb with rfl|hb
    ·exact .inl (.inl rfl)
    ·exact .inl (.inr (.inl hb))
def aW1{d:Dk}(H:d.Ok){n:Nat}(hn:n<d.sectors){i:Nat}{w:Nat×Tx}(hx:d.buf[i]? =some w):(mV d.st (d.buf.take (i+1))).getD n []=if w.1=n then w.2 else(mV d.st (d.buf.take i)).getD n []:=by
 rw[aJZ hx,aCz,aCz,List.getElem?_set];have hl:(mV d.st (d.buf.take i)).length=d.sectors:=by rw[aA2,H.len]
 by_cases c:w.1=n
 ·rw[if_pos c,if_pos c,if_pos (by omega)];rfl
 ·rw[if_neg c,if_neg c]
def aUW{h:PH}{a:Nat}{d:Dk}{F:List Nat}(D:pD a d h F)(n:Int)(hb:d.buf.length≤1000000){k:dI}(hk:∀h',eM h h'->k (.tuple #[.string (tx (d.rd n).1),.int .i64 (d.rd n).2]) h'):bR PG aEB #[pT a 0,.int .i64 n] h k:=by
 apply aDk.call;unfold aDk;obtain⟨sv,bv,Fs,Fb,eF,B,S,W,n1,n2,n3⟩:=id D.here;have L:=DkB.of B;unfold Dk.rd at hk;simp only[fM.f0,L.geo,dF,reduceIte,dM,Nat.reduceAdd];refine aPI d n λh1 u1=>?_;have B1:=B.ext u1;have S1:=S.ext u1;have W1:=W.ext u1;have L1:=DkB.of B1;by_cases c1:0≤n∧n<(d.sectors:Int)
 ·rw[if_neg (by omega)] at hk;have en:n=((n.toNat:Nat):Int):=by omega
  have hn:n.toNat<d.sectors:=by omega
  obtain⟨m,hm⟩:∃m,n.toNat=m:=⟨_,rfl⟩;rw[hm] at en hn hk;obtain⟨x,hx⟩:∃x,d.st[m]? =some x:=⟨_,lG (by rw[D.ok.len];exact hn)⟩;obtain⟨p,i1,i2⟩:=aGH S1.slR hx;subst en;simp only[c1,and_self,decide_true,fM.f1,fM.f2,eB.load,fS.load,L1.st,L1.buf,i1,i2,aLb W1.slR,dF,reduceIte,dM,Nat.reduceAdd];refine⟨λvs h'=>∃i:Nat,i≤d.buf.length∧vs=[.int .i64 (m:Int),.string (tx ((mV d.st (d.buf.take i)).getD m [])),bv,.int .i64 (d.buf.length:Int),.int .i64 (i:Int)]∧eM h h',gT d.buf.length 4,⟨0,by omega,?_,u1⟩,?_⟩
  ·have:(mV d.st (d.buf.take 0)).getD m []=x:=by
    rw[zLd,aCz];show(d.st[m]?).getD []=x;rw[hx];rfl
   rw[this];rfl
  rintro ρ h' ⟨i,hi,hvs,w⟩;simp only[jF,kF,lT,and_true] at hvs;obtain⟨x1,x6,x26,x27,x28⟩:=hvs;unfold aHH;rw[x1,x6,x26,x27,x28];by_cases hlt:i<d.buf.length
  ·have g:((i:Int)<(d.buf.length:Int))=True:=eq_true (by omega);have gi:=oM (i:=i) (by omega);obtain⟨y,hy⟩:∃y,d.buf[i]? =some y:=⟨_,lG hlt⟩;obtain⟨q,j1,j2⟩:=aSa (W.ext w).slR hy;simp only[g,j1,j2,dF,reduceIte,dM,Nat.reduceAdd];intro r21 hr21
   try rw[dY]
   refine fP.fill (vs:=tI y) hr21 rfl (tI.isC y) λh3 B3 u3=>?_;have c0:eA h3 ⟨r21,0,none⟩=some (.int .i64 (y.1:Int)):=B3.cell 0;have c1:eA h3 ⟨r21,0+1,none⟩=some (.string (tx y.2)):=B3.cell 1;have st:=aW1 D.ok hn hy;by_cases c:y.1=m
   ·have q0:((y.1:Int)==(m:Int))=true:=by simp[c]
    rw[if_pos c] at st;simp only[fP.f0,fP.f1,aR.load,aT.load,c0,c1,gX,q0,aAY,aDd,gi,dF,reduceIte,dM,Nat.reduceAdd];refine⟨⟨i+1,by omega,?_,w.trans u3⟩,by simp[gT,x28];omega⟩;rw[st]
   ·have q0:((y.1:Int)==(m:Int))=false:=by rw[beq_eq_false_iff_ne];omega
    rw[if_neg c] at st;simp only[fP.f0,aR.load,c0,gX,q0,aAY,aDd,gi,dF,reduceIte,dM,Nat.reduceAdd];refine⟨⟨i+1,by omega,?_,w.trans u3⟩,by simp[gT,x28];omega⟩;rw[st]
  ·have g:((i:Int)<(d.buf.length:Int))=False:=eq_false (by omega);have ei:d.buf.take i=d.buf:=sU (by omega);simp only[g,ei,dF,reduceIte,dM,Nat.reduceAdd];exact hk h' w
 ·rw[if_pos (by omega)] at hk;simp only[c1,decide_false,dF,reduceIte,dM,Nat.reduceAdd];exact hk h1 u1
def Dk.armed(d:Dk)(n:Int):Dk:=⟨d.size,d.sectors,d.st,d.buf,n.toNat⟩
def Dk.Ok.armed{d:Dk}(H:d.Ok)(n:Int):(d.armed n).Ok:=⟨H.len,H.size,H.one,H.many,H.each,H.buf⟩
def aXA{h:PH}{a:Nat}{d:Dk}{F:List Nat}(D:pD a d h F)(n:Int)(hn:n<9223372036854775808){k:dI}(hk:∀h',pD a (d.armed n) h' F->eH F h h'->k (.tuple #[]) h'):bR PG aEz #[pT a 0,.int .i64 n] h k:=by
 apply aEl.call;unfold aEl;obtain⟨sv,bv,Fs,Fb,rfl,B,S,W,n1,n2,n3⟩:=id D.here;have em:dE PG (Builtin.max_ #[aR,aR] aR #[.int .i64 0,.int .i64 n])=some (.int .i64 ((n.toNat:Nat):Int)):=by
  have e:((n.toNat:Nat):Int)=if 0<n then n else 0:=by split<;>omega
  rw[e];exact aLp
 simp only[em,fM.f3,dF,reduceIte,dM,Nat.reduceAdd];refine aR.put B (o:=4) (by show 4<5;decide) rfl λh2 B2 u2=>?_;refine hk h2 ⟨⟨sv,bv,Fs,Fb,rfl,B2,S.upd u2 (λb hb hm=>?_),W.upd u2 (λb hb hm=>?_),n1,n2,n3⟩,D.ok.armed n,by show n.toNat<_;omega⟩ (u2.mono λb hb=>.inl (by simp only[jI] at hb;simp[hb]))
 ·simp only[jI] at hm;exact n1 (hm▸hb)
 ·simp only[jI] at hm;exact n2 (hm▸hb)
def aQf{h:PH}{a:Nat}{d:Dk}{F:List Nat}(D:pD a d h F){k:dI}(hk:k (.int .i64 (d.buf.length:Int)) h):bR PG aBp #[pT a 0] h k:=by
 apply aA3.call;unfold aA3;obtain⟨sv,bv,Fs,Fb,rfl,B,S,W,n1,n2,n3⟩:=id D.here;have L:=DkB.of B;simp only[fM.f2,fS.load,L.buf,aLb W.slR,dF,reduceIte,dM,Nat.reduceAdd];exact hk
def aO6{size:Nat}{xs:List Tx}(h:∀s∈xs,s.length=size)(i:Nat)(hi:i≤xs.length):((xs.take i).flatten).length=i*size:=by
 rw[aBK (λs hs=>h s (List.mem_of_mem_take hs)),mT,aGb hi]
def aJk{xs:List Tx}{i:Nat}{x:Tx}(hx:xs[i]? =some x):(xs.take (i+1)).flatten=(xs.take i).flatten++x:=by
 rw[zLR,hx,zLG];simp
def aWp{h:PH}{v:Value}{size:Nat}{l:List Tx}(S:jE h 1 v (l.map jX))(hx:∀s∈l,s.length=size)(h0:1≤size)(hs:l.length*size≤1000000){k:dI}(hk:∀h',eM h h'->k (.string (tx l.flatten)) h'):bR PG aFc #[v,.string (tx [])] h k:=by
 apply aBg.call;unfold aBg;have hll:l.length*1≤l.length*size:=Nat.mul_le_mul_left _ h0;by_cases c0:l.length=0
 ·have q0:((l.length:Int)==0)=true:=by simp[c0]
  simp only[uM S,gX,q0,dF,reduceIte,dM,Nat.reduceAdd];have:=hk h eH.refl;rw[zLN c0] at this;exact this
 ·have q0:((l.length:Int)==0)=false:=by rw[beq_eq_false_iff_ne];omega
  obtain⟨x0,hx0⟩:∃x,l[0]? =some x:=⟨_,lG (by omega)⟩;have hl0:=hx x0 (wE hx0);by_cases c1:l.length=1
  ·have q1:((l.length:Int)==1)=true:=by simp[c1]
   obtain⟨p,i1,i2⟩:=aGH S hx0;have i1:dE PG (indexAt eB v (.int .i64 0))=some (.pointer (some p)):=i1;simp only[uM S,gX,q0,q1,i1,i2,dF,reduceIte,dM,Nat.reduceAdd];have:=hk h eH.refl;have e:l.flatten=x0:=by
    obtain⟨y,rfl⟩:∃y,l=[y]:=List.length_eq_one_iff.1 c1;simp only[zLK,zL4] at hx0;subst hx0;simp
   rw[e] at this;exact this
  ·have q1:((l.length:Int)==1)=false:=by rw[beq_eq_false_iff_ne];omega
   have lz:dE PG (Builtin.len_ #[aT] aR #[.string (tx [])])=some (.int .i64 0):=jS [];have g0:((0:Int)<0)=False:=eq_false (by decide);simp only[uM S,gX,q0,q1,lz,g0,dF,reduceIte,dM,Nat.reduceAdd];unfold aEn;simp only[uM S,dF,reduceIte,dM,Nat.reduceAdd];refine⟨λvs h'=>∃i:Nat,i≤l.length∧vs=[v,.string (tx []),.int .i64 ((i*size:Nat):Int),v,.int .i64 (l.length:Int),.int .i64 (i:Int)]∧h'=h,gT l.length 5,⟨0,by omega,by rw[Nat.zero_mul];rfl,rfl⟩,?_⟩;rintro ρ h' ⟨i,hi,hvs,rfl⟩;simp only[jF,kF,lT,and_true] at hvs;obtain⟨y0,y1,y5,y39,y40,y41⟩:=hvs;unfold aIr;rw[y0,y1,y5,y39,y40,y41];have him:i*size≤l.length*size:=yE _ hi;by_cases hlt:i<l.length
   ·have g:((i:Int)<(l.length:Int))=True:=eq_true (by omega);have gi:=oM (i:=i) (by omega);obtain⟨x,hxx⟩:∃x,l[i]? =some x:=⟨_,lG hlt⟩;have hxl:=hx x (wE hxx);obtain⟨p,i1,i2⟩:=aGH S hxx;have him1:(i+1)*size≤l.length*size:=yE _ hlt;have hsm:(i+1)*size=i*size+size:=Nat.succ_mul _ _;have w1:IntKind.i64.wrap ((9223372036854775807:Int)-((i*size:Nat):Int))=(9223372036854775807:Int)-((i*size:Nat):Int):=fW (by omega) (by omega);have g2:((9223372036854775807:Int)-((i*size:Nat):Int)<(x.length:Int))=False:=eq_false (by omega);have w2:IntKind.i64.wrap (((i*size:Nat):Int)+(x.length:Int))=(((i+1)*size:Nat):Int):=by rw[fW (by omega) (by omega)];omega
    simp only[g,i1,i2,jS,w1,g2,aIq,w2,gi,dF,reduceIte,dM,Nat.reduceAdd];exact⟨⟨i+1,by omega,rfl,trivial⟩,by simp[gT,y41];omega⟩
   ·have g:((i:Int)<(l.length:Int))=False:=eq_false (by omega);obtain rfl:i=l.length:=by omega
    simp only[g,dF,reduceIte,dM,Nat.reduceAdd];rw[zB];intro r hr
    try rw[dY]
    have u1:eM h' (h'.set r (.cells #[.pointer none,.slice none 0 0] eI)):=eH.new hr;have a1:(h'.set r (.cells #[.pointer none,.slice none 0 0] eI)) r=some (.cells #[.pointer none,.slice none 0 0] eI (0,0)):=gB;generalize h'.set r (.cells #[.pointer none,.slice none 0 0] eI)=h1 at *;refine aRM a1 (n:=l.length*size) (by omega) (by omega) λh2 gg cap hF hcap u2 hg=>?_;have ug:eH [r,gg] h' h2:=(u1.upd.trans (u2.mono λb hb=>.inl (by simp at hb;simp[hb])));have hgn:h' gg=none:=u1.none hg;have fin:∀h2,eH [r,gg] h' h2->eM h' h2:=λh2 u b o hb _=>u b o hb (by
     simp only[jW,zLg,or_false,not_or];exact⟨(λe=>by rw[e,hr] at hb;cases hb),(λe=>by rw[e,hgn] at hb;cases hb)⟩)
    obtain⟨p,i1,i2⟩:=aGH (S.ext (fin h2 ug)) hx0;have i1:dE PG (indexAt eB v (.int .i64 0))=some (.pointer (some p)):=i1;simp only[i1,i2,dF,reduceIte,dM,Nat.reduceAdd];have hll1:1*size≤l.length*size:=yE _ (by omega);refine FB.write hF (ys:=x0) (by simp only[lU];omega) (by simp only[lU];omega) λv5 h3 F3 u3=>?_;have e3:=ug.trans u3;obtain⟨vr,j1,Sr,-⟩:=(S.ext (fin h3 e3)).cut (t:=eB) (lo:=some (.int .i64 1)) (hi:=none) (l:=1) (m:=(l.map jX).length) eB.und aT.info aT.size (.inr ⟨_,rfl⟩) (.inl ⟨rfl,rfl⟩) (by rw[jJ];omega) (nQ _);rw[zLJ,←List.map_drop] at Sr;have ld:(l.drop 1).length=l.length-1:=kD;simp only[j1,uM Sr,dF,reduceIte,dM,Nat.reduceAdd];have Sr0:=Sr;have e1:(l.take (0+1)).flatten=[]++x0:=by rw[aJk hx0];simp
    refine⟨λvs h4=>∃i:Nat,i+1≤l.length∧vs=[.string (tx []),pT r 0,vr,.int .i64 ((l.drop 1).length:Int),.int .i64 (i:Int)]∧FB h4 r gg cap (l.take (i+1)).flatten∧eH [r,gg] h3 h4,gT l.length 4,⟨0,by omega,rfl,by rw[e1];exact F3,eH.refl⟩,?_⟩;rintro σ h4 ⟨i,hi,hvs,F4,w⟩;simp only[jF,kF,lT,and_true] at hvs;obtain⟨yj1,yj8,yj63,yj64,yj65⟩:=hvs;unfold aIY;rw[yj1,yj8,yj63,yj64,yj65];have w4:=e3.trans w;have lt:=aO6 hx (i+1) hi;have hmi:(i+1)*size≤l.length*size:=yE _ hi;by_cases hlt2:i<(l.drop 1).length
    ·have g3:((i:Int)<((l.drop 1).length:Int))=True:=eq_true (by omega);have gi:=oM (i:=i) (by omega);obtain⟨x,hxx⟩:∃x,l[i+1]? =some x:=⟨_,lG (by omega)⟩;have hxd:(l.drop 1)[i]? =some x:=by rw[aJ4,Nat.add_comm];exact hxx
     have hxl:=hx x (wE hxx);have hm2:(i+1+1)*size≤l.length*size:=yE _ (by omega);have hsm:(i+1+1)*size=(i+1)*size+size:=Nat.succ_mul _ _;have Sx:jE h4 1 vr ((l.drop 1).map jX):=by
      obtain⟨vr',j1',Sr',-⟩:=(S.ext (fin h4 w4)).cut (t:=eB) (lo:=some (.int .i64 1)) (hi:=none) (l:=1) (m:=(l.map jX).length) eB.und aT.info aT.size (.inr ⟨_,rfl⟩) (.inl ⟨rfl,rfl⟩) (by rw[jJ];omega) (nQ _);rw[zLJ,←List.map_drop] at Sr';rw[j1] at j1';cases j1';exact Sr'
     obtain⟨p,k1,k2⟩:=aGH Sx hxd;simp only[g3,k1,k2,dF,reduceIte,dM,Nat.reduceAdd];refine FB.write F4 (ys:=[]) (by simp only[lU];omega) (by simp only[lU];omega) λv6 h5 F5 u5=>?_;refine FB.write F5 (ys:=x) (by simp only[zLQ];omega) (by simp only[zLQ];omega) λv7 h6 F6 u6=>?_;simp only[gi,dF,reduceIte,dM,Nat.reduceAdd];rw[zLQ,←aJk hxx] at F6;exact⟨⟨i+1,by omega,rfl,F6,(w.trans u5).trans u6⟩,by simp[gT,yj65];omega⟩
    ·have g3:((i:Int)<((l.drop 1).length:Int))=False:=eq_false (by omega);have et:l.take (i+1)=l:=sU (by omega);rw[et] at F4 lt;simp only[g3,dF,reduceIte,dM,Nat.reduceAdd];have hmz:1*size≤(i+1)*size:=yE _ (by omega);refine FB.string F4 (by intro e;rw[e] at lt;simp only[lU] at lt;omega) λh5 F5 u5=>?_;exact hk h5 (fin h5 (w4.trans (u5.mono λb hb=>.inl (by simp at hb;simp[hb]))))
def Dk.stable(d:Dk):Tx:=d.st.flatten
def aS0{h:PH}{a:Nat}{d:Dk}{F:List Nat}(D:pD a d h F)(hs:d.sectors≤1000){k:dI}(hk:∀h',eM h h'->k (.string (tx d.stable)) h'):bR PG aCs #[pT a 0] h k:=by
 apply aCN.call;unfold aCN;obtain⟨sv,bv,Fs,Fb,rfl,B,S,W,n1,n2,n3⟩:=id D.here;have L:=DkB.of B;have ok:=D.ok.size;unfold iB at ok;have hm:d.sectors*d.size≤1000*512:=Nat.mul_le_mul hs ok.2;simp only[fM.f1,eB.load,L.st,dF,reduceIte,dM,Nat.reduceAdd];refine aWp S.slR D.ok.each (by omega) (by rw[D.ok.len];omega) λh' u=>?_;exact hk h' u
def Dk.new(size sectors:Nat):Dk:=⟨size,sectors,List.replicate sectors (mD size),[],0⟩
def Dk.new_ok{size sectors:Nat}(ok:iB size)(h1:1≤sectors)(h2:sectors≤4096):(Dk.new size sectors).Ok:=⟨aHT,ok,h1,h2,λs hs=>by rw[List.eq_of_mem_replicate hs];exact xV _,by simp[Dk.new]⟩
def aYw(a b:Int):dE PG (build fR #[(0,.int .i64 a),(1,.int .i64 b)])=some (.agg #[.int .i64 a,.int .i64 b]):=by kernel_rfl
def aYq(a b:Int)(r n m:Nat):dE PG (build fM #[(0,.agg #[.int .i64 a,.int .i64 b]),(1,.slice (some ⟨r,0,none⟩) n m)])=some (.agg #[.int .i64 a,.int .i64 b,.slice (some ⟨r,0,none⟩) n m,.slice none 0 0,.int .i64 0]):=by kernel_rfl
def aEh(size n i:Nat):List Tx:=List.replicate i (mD size)++List.replicate (n-i) []
def aUF{size n i:Nat}(hi:i<n):(aEh size n i).set i (mD size)=aEh size n (i+1):=by
 unfold aEh;obtain⟨m,rfl⟩:∃m,n=i+(m+1):=⟨n-i-1,by omega⟩;rw[List.set_append_right _ _ (by rw[aHT];exact nQ _),aHT,aJS,aCw,show i+(m+1)-(i+1)=m from by omega,List.replicate_succ,List.set_cons_zero];rw[List.replicate_succ',xN];rfl
def aLL(size n i:Nat)(hi:i≤n):(aEh size n i).length=n:=by unfold aEh;rw[kO,aHT,aHT];omega
def aWv{h:PH}(size sectors:Nat)(ok:iB size)(h1:1≤sectors)(h2:sectors≤4096){k:dI}(hk:∀h' a F,pD a (Dk.new size sectors) h' F->fX h F->eM h h'->k (.tuple #[pT a 0,.int .i64 0]) h'):bR PG aJa #[.int .i64 (size:Int),.int .i64 (sectors:Int)] h k:=by
 apply aGd.call;unfold aGd;have h64:=ok.1;have h512:=ok.2;have g1:((size:Int)<64)=False:=eq_false (by omega);have g2:((512:Int)<(size:Int))=False:=eq_false (by omega);have g3:((sectors:Int)<1)=False:=eq_false (by omega);have g4:((4096:Int)<(sectors:Int))=False:=eq_false (by omega);obtain⟨zs,hm,hzz⟩:=aFf (P:=PG) (n:=sectors) eB.und aT.info aT.size aT.bytes aT.zero rfl (by decide) (by omega) (by omega);simp only[g1,g2,g3,g4,aYw,hm,dF,reduceIte,dM,Nat.reduceAdd];intro r27 hr27;refine jC ?_
 try rw[dY]
 have O1:fY (h.set r27 (.cells zs aT (0,0))) aT 1 (.slice (some ⟨r27,0,none⟩) sectors sectors) ((aEh size sectors 0).map jX) [r27]:=fY.lit (e:=aT) (size:=1) (rows:=(aEh size sectors 0).map jX) (n:=sectors) (λr hr=>by obtain⟨m,_,rfl⟩:=rS.1 hr;rfl) gB (by rw[jJ,aLL _ _ _ (by omega)]) (zLE h2 (by decide)) (by
  rw[hzz];unfold aEh;rw[List.replicate_zero,zLU,Nat.sub_zero,List.map_replicate];rfl)
 have u1:eM h (h.set r27 (.cells zs aT (0,0))):=eH.new hr27;generalize h.set r27 (.cells zs aT (0,0))=h2 at *;simp only[aYq,dF,reduceIte,dM,Nat.reduceAdd];intro r32 hr32
 try rw[dY]
 have u2:eM h2 (h2.set r32 (.cells (Value.cells (.agg #[.int .i64 (size:Int),.int .i64 (sectors:Int),.slice (some ⟨r27,0,none⟩) sectors sectors,.slice none 0 0,.int .i64 0])) fM)):=eH.new hr32;have B2:Bx (h2.set r32 (.cells (Value.cells (.agg #[.int .i64 (size:Int),.int .i64 (sectors:Int),.slice (some ⟨r27,0,none⟩) sectors sectors,.slice none 0 0,.int .i64 0])) fM)) r32 [.int .i64 (size:Int),.int .i64 (sectors:Int),.slice (some ⟨r27,0,none⟩) sectors sectors,.slice none 0 0,.int .i64 0]:=Bx.new;generalize h2.set r32 (.cells (Value.cells (.agg #[.int .i64 (size:Int),.int .i64 (sectors:Int),.slice (some ⟨r27,0,none⟩) sectors sectors,.slice none 0 0,.int .i64 0])) fM)=h3 at *;have O3:=O1.ext u2;have e3:=u1.trans u2;have n1:r32≠r27:=λe=>O1.known r27 (by simp) (e▸hr32);have f1:fX h [r27]:=fX.one hr27;have f2:h r32=none:=u1.none hr32;have c2:eA h3 ⟨r32,0+2,none⟩=some (.slice (some ⟨r27,0,none⟩) sectors sectors):=B2.cell 2;have ln:dE PG (Builtin.len_ #[eB] aR #[.slice (some ⟨r27,0,none⟩) sectors sectors])=some (.int .i64 (sectors:Int)):=by
  have:=uM O1.slR;rw[aLL _ _ _ (by omega)] at this;exact this
 simp only[fM.f1,eB.load,c2,ln,dF,reduceIte,dM,Nat.reduceAdd];refine⟨λvs h'=>∃i:Nat,i≤sectors∧vs=[.int .i64 (size:Int),pT r32 0,.int .i64 (sectors:Int),.int .i64 (i:Int)]∧fY h' aT 1 (.slice (some ⟨r27,0,none⟩) sectors sectors) ((aEh size sectors i).map jX) [r27]∧eH [r27] h3 h',gT sectors 3,⟨0,by omega,rfl,O3,eH.refl⟩,?_⟩;rintro ρ h' ⟨i,hi,hvs,O,w⟩;simp only[jF,kF,lT,and_true] at hvs;obtain⟨x0,x6,x33,x34⟩:=hvs;unfold aLK;rw[x0,x6,x33,x34];have B:=B2.upd w (by simpa using n1);by_cases hlt:i<sectors
 ·have g:((i:Int)<(sectors:Int))=True:=eq_true (by omega);have gi:=oM (i:=i) (by omega);have c3:eA h' ⟨r32,0+2,none⟩=some (.slice (some ⟨r27,0,none⟩) sectors sectors):=B.cell 2;simp only[g,fM.f1,eB.load,c3,dF,reduceIte,dM,Nat.reduceAdd];refine aLf (by omega) λh4 u4=>?_;have c4:eA h4 ⟨r32,0+2,none⟩=some (.slice (some ⟨r27,0,none⟩) sectors sectors):=(B.ext u4).cell 2;have hin:i<((aEh size sectors i).map jX).length:=by rw[jJ,aLL _ _ _ hi];exact hlt
  obtain⟨b,o,j1,j2⟩:=aN6 (O.ext u4) hin (x:=.string (tx (mD size))) rfl;refine⟨c4,?_⟩;simp only[j1,dF,reduceIte,dM,Nat.reduceAdd];refine j2 λh5 O5 u5=>?_;simp only[gi,dF,reduceIte,dM,Nat.reduceAdd];rw[aLN,aUF hlt] at O5;exact⟨⟨i+1,by omega,rfl,O5,(w.trans u4.upd).trans u5⟩,by simp[gT,x34];omega⟩
 ·have g:((i:Int)<(sectors:Int))=False:=eq_false (by omega);obtain rfl:i=sectors:=by omega
  have en:aEh size i i=(Dk.new size i).st:=by unfold aEh;rw[aJS];simp[Dk.new]
  rw[en] at O;simp only[g,dF,reduceIte,dM,Nat.reduceAdd];refine hk h' r32 (r32::([r27]++[])) ⟨⟨_,_,[r27],[],rfl,B,O,fY.nil,by simpa using n1,by simp,by simp⟩,Dk.new_ok ok h1 h2,by show 0<_;omega⟩ (λb hb=>?_) (e3.fresh w f1);simp only[zLQ,jW,zLg,or_false] at hb;rcases hb with rfl|rfl
  ·exact f2
  ·exact hr27
end
section
open Go
open Bld
def sY(a:Nat):Value:=.agg #[pT a 0]
def pD.geo{a:Nat}{d:Dk}{h:PH}{F:List Nat}(D:pD a d h F):dH PG h (loadAt fR (pT a 0))=some (aFh d):=by
 obtain⟨sv,bv,Fs,Fb,rfl,B,-⟩:=D.here;exact(DkB.of B).geo
def aH7{h:PH}{a:Nat}{d:Dk}{F:List Nat}(D:pD a d h F)(h2:2≤d.sectors){k:dI}(hk:∀h',eM h h'->k (.int .i64 (d.segs:Int)) h'):bR PG qZ #[sY a] h k:=by
 apply aBS.call;unfold aBS;have hm:=D.ok.many;intro r1 hr1
 try rw[dY]
 have u1:eM h (h.set r1 (.cells (Value.cells (sY a)) fQ)):=eH.new hr1;have B1:Bx (h.set r1 (.cells (Value.cells (sY a)) fQ)) r1 [pT a 0]:=Bx.new;generalize h.set r1 (.cells (Value.cells (sY a)) fQ)=h1 at *;have D1:=D.ext u1;have w1:IntKind.i64.wrap ((d.sectors:Int)-2)=((d.sectors-2:Nat):Int):=by rw[fW (by omega) (by omega)];omega
 have w2:dE PG (binOp .quo aR (.int .i64 ((d.sectors-2:Nat):Int)) (.int .i64 2))=some (.int .i64 (d.segs:Int)):=by
  have e:Int.tdiv ((d.sectors-2:Nat):Int) 2=(d.segs:Int):=rfl;have e2:IntKind.i64.wrap (d.segs:Int)=(d.segs:Int):=fW (by omega) (by unfold Dk.segs;omega);rw[aLe (by decide),e,e2]
 simp only[fQ.f0,hZ.load,iL B1,fM.f0,D1.geo,dF,reduceIte,dM,Nat.reduceAdd];refine aMs d λh3 u3=>?_;simp only[w1,w2,dF,reduceIte,dM,Nat.reduceAdd];exact hk h3 (u1.trans u3)
def aNy{h:PH}{a:Nat}{d:Dk}{F:List Nat}(D:pD a d h F)(h2:2≤d.sectors)(seg:Nat)(hs:seg≤1){k:dI}(hk:∀h',eM h h'->k (.int .i64 (d.base seg:Int)) h'):bR PG yC #[sY a,.int .i64 (seg:Int)] h k:=by
 apply aDt.call;unfold aDt;have hm:=D.ok.many;intro r1 hr1
 try rw[dY]
 have u1:eM h (h.set r1 (.cells (Value.cells (sY a)) fQ)):=eH.new hr1;have B1:Bx (h.set r1 (.cells (Value.cells (sY a)) fQ)) r1 [pT a 0]:=Bx.new;generalize h.set r1 (.cells (Value.cells (sY a)) fQ)=h1 at *;have D1:=D.ext u1;have l1:dH PG h1 (loadAt fQ (pT r1 0))=some (sY a):=fQ.agg B1 (by show 0+1≤1;decide);have hsg:d.segs≤4096:=by unfold Dk.segs;omega
 have hsm:seg*d.segs≤1*d.segs:=yE _ hs;have w1:IntKind.i64.wrap ((seg:Int)*(d.segs:Int))=((seg*d.segs:Nat):Int):=by rw[←Int.natCast_mul,fW (by omega) (by omega)]
 have w2:IntKind.i64.wrap ((2:Int)+((seg*d.segs:Nat):Int))=(d.base seg:Int):=by
  rw[fW (by omega) (by omega)];unfold Dk.base;omega
 simp only[l1,dF,reduceIte,dM,Nat.reduceAdd];refine aH7 D1 h2 λh3 u3=>?_;simp only[oQ,w1,w2,dF,reduceIte,dM,Nat.reduceAdd];exact hk h3 (u1.trans u3)
def aOA(d:Dk)(n i:Nat):(d.secs n (i+1)).flatten=(d.secs n i).flatten++d.at (n+i):=by
 unfold Dk.secs;rw[List.range_succ,xX,zLG];simp
def aHF{d:Dk}(H:d.Ok){n k:Nat}(h:n+k≤d.sectors):∀s∈d.secs n k,s.length=d.size:=by
 intro s hs;unfold Dk.secs at hs;obtain⟨i,hi,rfl⟩:=rS.1 hs;rw[aHY] at hi;exact H.at_len (by omega)
def aMN{h:PH}{a:Nat}{d:Dk}{F:List Nat}(D:pD a d h F)(n m:Nat)(hnm:n+m≤d.sectors)(hb:d.buf.length≤1000000){k:dI}(hk:∀h',eM h h'->k (.string (tx (d.secs n m).flatten)) h'):bR PG yD #[sY a,.int .i64 (n:Int),.int .i64 (m:Int)] h k:=by
 apply aDw.call;unfold aDw;have hm:=D.ok.many;have hz:=D.ok.size;unfold iB at hz;intro r1 hr1
 try rw[dY]
 have u1:eM h (h.set r1 (.cells (Value.cells (sY a)) fQ)):=eH.new hr1;have B1:Bx (h.set r1 (.cells (Value.cells (sY a)) fQ)) r1 [pT a 0]:=Bx.new;generalize h.set r1 (.cells (Value.cells (sY a)) fQ)=h1 at *;rw[zB];intro r3 hr3
 try rw[dY]
 have u3:eM h1 (h1.set r3 (.cells #[.pointer none,.slice none 0 0] eI)):=eH.new hr3;have b3:BAt (h1.set r3 (.cells #[.pointer none,.slice none 0 0] eI)) r3 [] [r3]:=BAt.zero gB;have hne:r1≠r3:=B1.apart hr3;have B3:=B1.ext u3;generalize h1.set r3 (.cells #[.pointer none,.slice none 0 0] eI)=h3 at *;have e3:=u1.trans u3;have f3:h r3=none:=u1.none hr3;refine⟨λvs h'=>∃(i:Nat) (G:List Nat),i≤m∧vs=[.int .i64 (n:Int),pT r1 0,pT r3 0,.int .i64 (m:Int),.int .i64 (i:Int)]∧Bx h' r1 [pT a 0]∧BAt h' r3 (d.secs n i).flatten G∧fX h G∧r1∉G∧eM h h',gT m 4,⟨0,[r3],by omega,rfl,B3,b3,fX.one f3,by simpa using hne,e3⟩,?_⟩;rintro ρ h' ⟨i,G,hi,hvs,B,b,fG,nG,w⟩;simp only[jF,kF,lT,and_true] at hvs;obtain⟨x1,x3,x7,x11,x12⟩:=hvs;unfold aHn;rw[x1,x3,x7,x11,x12];have hfl:(d.secs n i).flatten.length=i*d.size:=by rw[aBK (aHF D.ok (by omega)),Dk.secs_len]
 have him:i*d.size≤4096*512:=Nat.mul_le_mul (by omega) hz.2;by_cases hlt:i<m
 ·have g:((i:Int)<(m:Int))=True:=eq_true (by omega);have gi:=oM (i:=i) (by omega);have gn:IntKind.i64.wrap ((n:Int)+(i:Int))=((n+i:Nat):Int):=by rw[fW (by omega) (by omega)];omega
  have erd:d.rd ((n+i:Nat):Int)=(d.at (n+i),0):=by
   unfold Dk.rd;rw[if_neg (by omega)];rfl
  have hal:=D.ok.at_len (n:=n+i) (by omega);simp only[g,fQ.f0,hZ.load,iL B,gn,dF,reduceIte,dM,Nat.reduceAdd];refine aUW (D.ext w) _ hb λh5 u5=>?_;rw[erd];simp only[dF,reduceIte,dM,Nat.reduceAdd];refine Bld.WriteString_ok (b.ext u5) (by omega) λh6 G6 b6 u6 g6=>?_;simp only[gi,dF,reduceIte,dM,Nat.reduceAdd];have w5:=w.trans u5;refine⟨⟨i+1,G6,by omega,rfl,(B.ext u5).upd u6 nG,by rw[aOA];exact b6,λx hx=>?_,λhx=>?_,w5.fresh u6 fG⟩,by simp[gT,x12];omega⟩
  ·rcases g6 x hx with e|e
   ·exact fG x e
   ·exact w5.none e
  ·rcases g6 r1 hx with e|e
   ·exact nG e
   ·exact(B.ext u5).known e
 ·have g:((i:Int)<(m:Int))=False:=eq_false (by omega);obtain rfl:i=m:=by omega
  simp only[g,dF,reduceIte,dM,Nat.reduceAdd];refine Bld.String_ok b λh5 u5=>?_;exact hk h5 (w.fresh u5 fG)
def fY.step{h h':PH}{e:TypeId}{n:Nat}{v:Value}{rows:List (List Value)}{F F' G:List Nat}(O:fY h e n v rows G)(s:fT h F h' F')(hd:∀b∈G,b∉F):fY h' e n v rows G∧∀b∈G,b∉F':=
 ⟨O.upd s.upd hd,λb hb hm=>by
  rcases s.grow b hm with e1|e1
  ·exact hd b hb e1
  ·exact O.known b hb e1⟩
def Bx.step{h h':PH}{r:Nat}{cs:List Value}{F F':List Nat}(B:Bx h r cs)(s:fT h F h' F')(hd:r∉F):Bx h' r cs∧r∉F':=
 ⟨B.upd s.upd hd,λhm=>by
  rcases s.grow r hm with e1|e1
  ·exact hd e1
  ·exact B.known e1⟩
def aLO(d:Dk)(n:Nat)(s:Tx)(l:List Tx):jZ d n (s::l)=if (d.wr (n:Int) s).2≠0 then((d.wr (n:Int) s).1,(d.wr (n:Int) s).2) else jZ (d.wr (n:Int) s).1 (n+1) l:=rfl
def aQH(d:Dk)(n:Int)(s:Tx):(d.wr n s).1.buf.length≤d.buf.length+1:=by
 unfold Dk.wr;split
 ·simp
 ·split
  ·show d.buf.length≤_;omega
  ·simp
def aLi{h:PH}{a:Nat}{d:Dk}{F G:List Nat}{v:Value}{l:List Tx}(D:pD a d h F)(n:Nat)(hn:n≤1000000)(O:fY h aT 1 v (l.map jX) G)(hd:∀b∈G,b∉F)(hb:d.buf.length+l.length≤1000000){k:dI}(hk:∀h' F',pD a (jZ d n l).1 h' F'->fT h F h' F'->k (.int .i64 (jZ d n l).2) h'):bR PG uZ #[sY a,.int .i64 (n:Int),v] h k:=by
 apply aEY.call;unfold aEY;obtain⟨T,hT⟩:∃T,jZ d n l=T:=⟨_,rfl⟩;rw[hT] at hk;intro r1 hr1
 try rw[dY]
 have u1:eM h (h.set r1 (.cells (Value.cells (sY a)) fQ)):=eH.new hr1;have B1:Bx (h.set r1 (.cells (Value.cells (sY a)) fQ)) r1 [pT a 0]:=Bx.new;generalize h.set r1 (.cells (Value.cells (sY a)) fQ)=h1 at *;have D1:=D.ext u1;have n1:r1∉F:=λhm=>D.known r1 hm hr1;simp only[uM O.slR,dF,reduceIte,dM,Nat.reduceAdd];refine⟨λvs h'=>∃(i:Nat) (d':Dk) (F':List Nat),i≤l.length∧vs=[.int .i64 (n:Int),pT r1 0,v,.int .i64 (l.length:Int),.int .i64 (i:Int)]∧Bx h' r1 [pT a 0]∧r1∉F'∧pD a d' h' F'∧fY h' aT 1 v (l.map jX) G∧(∀b∈G,b∉F')∧T=jZ d' (n+i) (l.drop i)∧d'.buf.length≤d.buf.length+i∧fT h F h' F',gT l.length 4,⟨0,d,F,by omega,rfl,B1,n1,D1,O.ext u1,hd,hT.symm,by omega,fT.ext u1⟩,?_⟩;rintro ρ h' ⟨i,d',F',hi,hvs,B,nB,D',O',hd',hT',hb',st⟩;simp only[jF,kF,lT,and_true] at hvs;obtain⟨x1,x3,x10,x11,x12⟩:=hvs;unfold aIk;rw[x1,x3,x10,x11,x12];by_cases hlt:i<l.length
 ·have g:((i:Int)<(l.length:Int))=True:=eq_true (by omega);have gi:=oM (i:=i) (by omega);have gn:IntKind.i64.wrap ((n:Int)+(i:Int))=((n+i:Nat):Int):=by rw[fW (by omega) (by omega)];omega
  obtain⟨x,hx⟩:∃x,l[i]? =some x:=⟨_,lG hlt⟩;have ed:l.drop i=x::l.drop (i+1):=by
   rw[aBE hlt];have:l[i]=x:=by rw[lG hlt] at hx;simpa using hx
   rw[this]
  rw[ed,aLO] at hT';obtain⟨p,i1,i2⟩:=aGH O'.slR hx;simp only[g,i1,i2,fQ.f0,hZ.load,iL B,gn,dF,reduceIte,dM,Nat.reduceAdd];refine aT7 D' _ x (by omega) λh5 F5 D5 s5=>?_;have st5:=st.trans s5;by_cases c:(d'.wr ((n+i:Nat):Int) x).2=0
  ·have q:((d'.wr ((n+i:Nat):Int) x).2 !=0)=false:=by rw[c];rfl
   rw[if_neg (λe=>e c)] at hT';simp only[fZ,q,gi,dF,reduceIte,dM,Nat.reduceAdd];obtain⟨B5,nB5⟩:=B.step s5 nB;obtain⟨O5,hd5⟩:=O'.step s5 hd';have:=aQH d' ((n+i:Nat):Int) x;exact⟨⟨i+1,_,F5,by omega,rfl,B5,nB5,D5,O5,hd5,by rw[←Nat.add_assoc];exact hT',by omega,st5⟩,by simp[gT,x12];omega⟩
  ·have q:((d'.wr ((n+i:Nat):Int) x).2 !=0)=true:=bne_iff_ne.2 c;rw[if_pos c] at hT';simp only[fZ,q,dF,reduceIte,dM,Nat.reduceAdd];subst hT';exact hk h5 F5 D5 st5
 ·have g:((i:Int)<(l.length:Int))=False:=eq_false (by omega);have ed:l.drop i=[]:=zO (by omega);rw[ed] at hT';have hT':T=d'.fl:=hT';simp only[g,fQ.f0,hZ.load,iL B,dF,reduceIte,dM,Nat.reduceAdd];refine aQT D' (by omega) λh5 F5 D5 s5=>?_;subst hT';exact hk h5 F5 D5 (st.trans s5)
end
section
open Go
def aJH(room:Int)(st:Dm×Int)(x:Rc):Dm×Int:=if st.2=0 then mS st.1 room x else st
def wlk(room:Int)(x:Rc)(l:List Rc):Dm×Int:=l.foldl (aJH room) (x.s,chk x.s room)
def Rg(x:Rc):Prop:=zJ x∧x.wf
def aU8{room:Int}{x:Rc}(g:Rg x)(st:Dm×Int):nS room st x.bs=aJH room st x:=by
 unfold nS aJH;rw[aNF g.1 g.2];simp
def aJW{room:Int}:∀(l:List Rc) {st:Dm×Int},st.2≠0->l.foldl (aJH room) st=st
 | [],_,_=>rfl
 | x::l,st,h=>by
  rw[zLt,show aJH room st x=st from if_neg h];exact aJW l h
def aRJ{room:Int}:∀{l:List Rc} (_:∀x∈l,Rg x) (st:Dm×Int),(l.map Rc.bs).foldl (nS room) st=l.foldl (aJH room) st
 | [],_,_=>rfl
 | x::l,h,st=>by
  rw[jF,zLt,zLt,aU8 (h x (by simp))];exact aRJ (λy hy=>h y (by simp[hy])) _
def aPO{room:Int}{x:Rc}{l:List Rc}(h:∀y∈x::l,Rg y)(k1:x.k=1):zS room ((x::l).map Rc.bs)=if (wlk room x l).2≠0 then(Dm.zero,(wlk room x l).2) else wlk room x l:=by
 have gx:=h x (by simp);have gl:=λy hy=>h y (aJ2 _ hy);rw[jF];unfold zS;simp only[aRJ gl];have e:mW room x.bs=if chk x.s room≠0 then(Dm.zero,chk x.s room) else(x.s,0):=by
  unfold mW;rw[aNF gx.1 gx.2];simp[k1]
 rw[e];unfold wlk;by_cases c:chk x.s room=0
 ·simp only[c,ne_eq,not_true_eq_false,if_false]
 ·rw[if_pos c,aJW l (st:=(Dm.zero,chk x.s room)) c,aJW l (st:=(x.s,chk x.s room)) c];simp[c]
structure Jn where
 w:Wl
 room:Int
 s:Dm
def Jn.zero:Jn:=⟨Wl.zero,0,Dm.zero⟩
def nX(d:Dm):Rc:=⟨1,d,0,Pl.zero,[]⟩
def mA(d:Dm):Tx:=(nX d).bytes.1
def iN(ch:Int)(q:Pl)(ns:List Nt):Rc:=⟨2,Dm.zero,ch,q,ns⟩
def mH(room:Int)(s0:Dm)(l:List Tx):Dm×Int:=if l=[] then(s0,0) else zS room l
def jP(d:Dk)(room:Int)(p q:Pl):Dk×Jn×Int:=
 if chk ⟨p,q,[]⟩ room≠0 then(d,Jn.zero,chk ⟨p,q,[]⟩ room)
 else if (gQ d).2.2≠0 then((gQ d).1,Jn.zero,(gQ d).2.2)
 else if (mH room ⟨p,q,[]⟩ (gQ d).2.1.2).2≠0 then((gQ d).1,Jn.zero,(mH room ⟨p,q,[]⟩ (gQ d).2.1.2).2)
 else if (iE (gQ d).1 (gQ d).2.1.1 (mA (mH room ⟨p,q,[]⟩ (gQ d).2.1.2).1)).2.2≠0 then
  ((iE (gQ d).1 (gQ d).2.1.1 (mA (mH room ⟨p,q,[]⟩ (gQ d).2.1.2).1)).1,Jn.zero,(iE (gQ d).1 (gQ d).2.1.1 (mA (mH room ⟨p,q,[]⟩ (gQ d).2.1.2).1)).2.2)
 else((iE (gQ d).1 (gQ d).2.1.1 (mA (mH room ⟨p,q,[]⟩ (gQ d).2.1.2).1)).1,⟨(iE (gQ d).1 (gQ d).2.1.1 (mA (mH room ⟨p,q,[]⟩ (gQ d).2.1.2).1)).2.1,room,(mH room ⟨p,q,[]⟩ (gQ d).2.1.2).1⟩,0)
def xY(d:Dk)(j:Jn)(r:Rc)(next:Dm):Dk×Wl×Int:=if fits d j.w r.bytes.1.length then jM d j.w r.bytes.1 else iE d j.w (mA next)
def pK(d:Dk)(j:Jn)(ch:Int)(q:Pl)(ns:List Nt):Dk×Jn×Int:=
 if j.w.broken then(d,j,14)
 else if (mS j.s j.room (iN ch q ns)).2≠0 then(d,j,(mS j.s j.room (iN ch q ns)).2)
 else((xY d j (iN ch q ns) (mS j.s j.room (iN ch q ns)).1).1,⟨(xY d j (iN ch q ns) (mS j.s j.room (iN ch q ns)).1).2.1,j.room,if (xY d j (iN ch q ns) (mS j.s j.room (iN ch q ns)).1).2.2=0 then(mS j.s j.room (iN ch q ns)).1 else j.s⟩,(xY d j (iN ch q ns) (mS j.s j.room (iN ch q ns)).1).2.2)
def aTc{L:List It}(h:∀x∈L,x.p.wf){n:Nt}(hn:n.p.wf)(room:Int):∀x∈rP L room n,x.p.wf:=by
 have key:∀i:It,i.p.wf->∀x∈rL L i,x.p.wf:=λi hi x hx=>by
  rcases aQ9 hx with rfl|hx
  ·exact hi
  ·exact h x hx
 have keyp:∀i:It,i.p.wf->∀x∈tH L room i,x.p.wf:=λi hi=>by
  unfold tH;split
  ·exact h
  ·exact key i hi
 unfold rP;split
 ·exact h
 ·split
  ·split
   ·exact h
   ·exact keyp _ hn
  ·split
   ·split
    ·rename_i x hx;exact key _ (h x (aBB hx).1)
    ·exact keyp _ hn
   ·intro x hx;unfold sI at hx;exact h x (zLY.1 hx).1
def aRX{room:Int}:∀(l:List Nt) {L:List It} (_:∀x∈L,x.p.wf) (_:∀n∈l,n.p.wf),∀x∈(mY room L l).1,x.p.wf
 | [],L,h,_=>h
 | n::l,L,h,hl=>by
  unfold mY;split
  ·exact aTc h (hl n (by simp)) room
  ·exact aRX l (aTc h (hl n (by simp)) room) λm hm=>hl m (by simp[hm])
def aJp{d:Dm}{room:Int}{r:Rc}(h:(mS d room r).2=0)(hd:d.wf)(hr:r.wf):(mS d room r).1.wf:=by
 obtain⟨-,-,-,c⟩:=aEp h;rcases c with⟨-,e⟩|⟨-,-,-,e⟩
 ·rw[e];exact hr.s
 ·rw[e];refine⟨?_,?_,aRX r.ns hd.i hr.n⟩
  ·show(if r.ch=0 then r.pl else d.p0).wf;exact aPx hr.pl hd.a
  ·show(if r.ch=0 then d.p1 else r.pl).wf;exact aPx hd.b hr.pl
def aU7{i:It}(h:i.right=true):aEq i:=by
 unfold It.right at h;simp only[tM,aHb,decide_eq_true_eq] at h;exact⟨by omega,by omega,h.2⟩
def aEm{s:Dm}{room:Int}(H:OkD s room):zJ (nX s):=by
 refine⟨?_,λ_=>⟨H.p0,H.p1,λi hi=>aU7 (H.ar i hi)⟩,λh=>by cases h⟩;unfold Rc.plain;rw[if_pos (by rfl)];have:=H.len;have:=H.r2;simp only[tM,decide_eq_true_eq];exact⟨⟨⟨rfl,rfl⟩,rfl⟩,by show s.its.length≤40;omega⟩
def aMV{s:Dm}(w:s.wf):(nX s).wf:=⟨w,Pl.wf_zero,by simp[nX]⟩
def aQD{s:Dm}{room:Int}(H:OkD s room):mA s=(nX s).bs:=by
 unfold mA;rcases aAd (nX s) with⟨-,b⟩|⟨a,-⟩
 ·rw[b]
 ·exact absurd (aEm H) a
def aIm{r:Rc}(h:zJ r):r.bs.length≤4096:=by
 unfold Rc.bs;split
 case isTrue k1=>
  obtain⟨-,-,-,h40⟩:=yG h.plain k1;have:=aMZ (l:=r.s.its.map It.x) (by simp only[aJe,aPe];exact(h.a k1).2.2);simp only[Pl.bs,tP,kO,iZ,jJ] at *;omega
 case isFalse k1=>
  obtain⟨k2,-,-,h16⟩:=tA h.plain k1;have:=aMZ (l:=r.ns.map Nt.x) (by simp only[aJe,aPa];exact(h.b k2).2);simp only[Pl.bs,tP,kO,iZ,jJ] at *;omega
structure aE1(d:Dk)(j:Jn):Prop where
 log:∃s0 rs,Log d j.w ((nX s0::rs).map Rc.bs)∧(∀y∈nX s0::rs,Rg y)∧wlk j.room (nX s0) rs=(j.s,0)
 ready:j.w.ready=true
 ok:OkD j.s j.room
 wf:j.s.wf
def aE1.broken{d:Dk}{j:Jn}(H:aE1 d j):j.w.broken=false:=by
 obtain⟨_,_,L,-⟩:=H.log;exact L.broken
def aTl{w:Wl}(h:w.broken=false){e:Int}(he:e≠13):w.brk e=w:=by
 obtain⟨a,b,c,d,f,g⟩:=w;simp only at h;subst h;unfold Wl.brk;simp[he]
def aLS{d:Dk}{w:Wl}{l:List Tx}(L:Log d w l)(hg:w.hd.gen<18446744073709551614){s:Dm}{room:Int}(ok:OkD s room)(wf:s.wf):
  (∃d' w',iE d w (mA s)=(d',w',0)∧aE1 d' ⟨w',room,s⟩∧w'.hd.gen=w.hd.gen+1∧d'.size=d.size∧d'.sectors=d.sectors)∨iE d w (mA s)=(d,w,2):=by
 have hw:=aEm ok;have hs:=aIm hw;rw[aQD ok];by_cases c:fD d.size (nX s).bs.length≤d.segs
 ·left;obtain⟨d',w',e,L',r,g,z1,z2⟩:=aO1 L hs c hg;refine⟨d',w',e,⟨⟨s,[],L',?_,?_⟩,r,ok,wf⟩,g,z1,z2⟩
  ·intro y hy;simp only[jI] at hy;rw[hy];exact⟨hw,aMV wf⟩
  ·show(s,chk s room)=(s,0);rw[aEN.2 ok]
 ·right;have h1:=vZ (n:=(nX s).bs.length) L.ok.size hs;unfold iE;rw[if_neg (by rw[L.broken];simp),if_neg (by omega),if_pos (by omega),aTl L.broken (by decide)]
def aU2{d:Dk}{j:Jn}(H:aE1 d j)(hg:j.w.hd.gen<18446744073709551614){ch:Int}{q:Pl}{ns:List Nt}(wf:(iN ch q ns).wf):
  ∃d' j' e,pK d j ch q ns=(d',j',e)∧aE1 d' j'∧j'.w.hd.gen≤j.w.hd.gen+1∧j'.room=j.room∧d'.size=d.size∧d'.sectors=d.sectors∧
   ((mS j.s j.room (iN ch q ns)).2≠0->e=(mS j.s j.room (iN ch q ns)).2∧j'.s=j.s)∧
   ((mS j.s j.room (iN ch q ns)).2=0->(e=0∧j'.s=(mS j.s j.room (iN ch q ns)).1)∨(e=2∧j'.s=j.s)):=by
 unfold pK;rw[if_neg (by rw[H.broken];simp)];by_cases c:(mS j.s j.room (iN ch q ns)).2=0
 ·rw[if_neg (by simp[c])];obtain⟨-,hr,ho,-⟩:=aEp c;have hw:=aJp c H.wf wf;obtain⟨s0,rs,L,rg,wk⟩:=H.log;have eb:(iN ch q ns).bytes.1=(iN ch q ns).bs:=by
   rcases aAd (iN ch q ns) with⟨-,b⟩|⟨a,-⟩
   ·rw[b]
   ·exact absurd hr a
  unfold xY;rw[eb];cases hf:fits d j.w (iN ch q ns).bs.length with
  | true=>
   rw[if_pos rfl];obtain⟨d',w',e,L',r,g,z1,z2⟩:=aNP L H.ready (aIm hr) hf;rw[e];refine⟨d',_,0,rfl,⟨⟨s0,rs++[iN ch q ns],?_,?_,?_⟩,r,?_,?_⟩,by show w'.hd.gen≤_;omega,rfl,z1,z2,λh=>absurd c h,λ_=>.inl ⟨rfl,show(if (0:Int)=0 then(mS j.s j.room (iN ch q ns)).1 else j.s)=_ from if_pos rfl⟩⟩
   ·rw[←zLT,xX];exact L'
   ·intro y hy;rw[←zLT] at hy;rcases wQ.1 hy with hy|hy
    ·exact rg y hy
    ·simp only[jI] at hy;rw[hy];exact⟨hr,wf⟩
   ·show wlk j.room (nX s0) (rs++[iN ch q ns])=(if (0:Int)=0 then(mS j.s j.room (iN ch q ns)).1 else j.s,0);rw[if_pos rfl];unfold wlk at wk ⊢;rw[List.foldl_append,wk];show aJH j.room (j.s,0) (iN ch q ns)=_;unfold aJH;rw[if_pos rfl];simp only;rw[←c]
   ·show OkD (if (0:Int)=0 then(mS j.s j.room (iN ch q ns)).1 else j.s) j.room;rw[if_pos rfl];exact ho
   ·show(if (0:Int)=0 then(mS j.s j.room (iN ch q ns)).1 else j.s).wf;rw[if_pos rfl];exact hw
  | false=>
   rw[if_neg (by simp)];rcases aLS L hg ho hw with⟨d',w',e,I,g,z1,z2⟩|e
   ·rw[e];refine⟨d',_,0,rfl,?_,by show w'.hd.gen≤_;omega,rfl,z1,z2,λh=>absurd c h,λ_=>.inl ⟨rfl,show(if (0:Int)=0 then(mS j.s j.room (iN ch q ns)).1 else j.s)=_ from if_pos rfl⟩⟩;show aE1 d' ⟨w',j.room,if (0:Int)=0 then(mS j.s j.room (iN ch q ns)).1 else j.s⟩;rw[if_pos rfl];exact I
   ·rw[e];refine⟨d,_,2,rfl,?_,by show j.w.hd.gen≤_;omega,rfl,rfl,rfl,λh=>absurd c h,λ_=>.inr ⟨rfl,show(if (2:Int)=0 then(mS j.s j.room (iN ch q ns)).1 else j.s)=_ from if_neg (by decide)⟩⟩;show aE1 d ⟨j.w,j.room,if (2:Int)=0 then(mS j.s j.room (iN ch q ns)).1 else j.s⟩;rw[if_neg (by decide)];exact H
 ·rw[if_pos c];exact⟨d,j,_,rfl,H,by omega,rfl,rfl,rfl,λ_=>⟨rfl,rfl⟩,λh=>absurd h c⟩
def aR2{d:Dk}{j:Jn}(H:aE1 d j)(hg:j.w.hd.gen<18446744073709551614){p q:Pl}(hc:chk ⟨p,q,[]⟩ j.room=0):
  (∃d' w',jP d j.room p q=(d',⟨w',j.room,j.s⟩,0)∧aE1 d' ⟨w',j.room,j.s⟩∧w'.hd.gen=j.w.hd.gen+1∧d'.size=d.size∧d'.sectors=d.sectors)∨(jP d j.room p q).2.2=2:=by
 obtain⟨s0,rs,L,rg,wk⟩:=H.log;have eo:=aQI L;have es:mH j.room ⟨p,q,[]⟩ ((nX s0::rs).map Rc.bs)=(j.s,0):=by
  unfold mH;rw[if_neg (by simp),aPO rg rfl,wk];simp
 have L':Log d ⟨j.w.hd,j.w.slot,j.w.used,j.w.ser,false,false⟩ ((nX s0::rs).map Rc.bs):=⟨L.ok,L.arm,L.buf,L.four,L.g1,L.g2,L.seg,L.slot,L.head,L.other,L.used,L.fits,L.ser,L.recs,L.short,L.rest,L.all,rfl⟩;unfold jP;rw[if_neg (by simp[hc]),eo];simp only;rw[if_neg (by simp),es];simp only;rw[if_neg (by simp)];rcases aLS L' hg H.ok H.wf with⟨d',w',e,I,g,z1,z2⟩|e
 ·left;rw[e];simp only;rw[if_neg (by simp)];exact⟨d',w',rfl,I,g,z1,z2⟩
 ·right;rw[e];simp only;rw[if_pos (by decide)]
def aXM(e:Int):Prop:=e≠13∧e≠14
instance (e:Int):Decidable (aXM e):=by unfold aXM;infer_instance
def aT9{d:Dk}{j:Jn}(H:d.Ok)(r:Rc)(next:Dm):(xY d j r next).1.Ok∧(xY d j r next).1.size=d.size∧(xY d j r next).1.sectors=d.sectors:=by
 have ha:∀s,(jM d j.w s).1.Ok∧(jM d j.w s).1.size=d.size∧(jM d j.w s).1.sectors=d.sectors:=λs=>by
  obtain⟨a,b,c,-⟩:=qV (hY d.size j.w.hd.gen j.w.ser s) H (d.base j.w.hd.seg+j.w.used);unfold jM;split
  ·exact⟨H,rfl,rfl⟩
  ·split
   ·exact⟨H,rfl,rfl⟩
   ·split
    ·exact⟨H,rfl,rfl⟩
    ·split
     ·exact⟨H,rfl,rfl⟩
     ·split<;>exact⟨a,b,c⟩
 have hc:∀s,(iE d j.w s).1.Ok∧(iE d j.w s).1.size=d.size∧(iE d j.w s).1.sectors=d.sectors:=λs=>by
  obtain⟨a,b,c,-⟩:=qV (hY d.size (iQ j.w.hd).1.gen 0 s) H (d.base (iQ j.w.hd).1.seg);obtain⟨a',b',c',-⟩:=qV [(gY d.size (iQ j.w.hd).1).1] a (1-j.w.slot);unfold iE;split
  ·exact⟨H,rfl,rfl⟩
  ·split
   ·exact⟨H,rfl,rfl⟩
   ·split
    ·exact⟨H,rfl,rfl⟩
    ·split
     ·exact⟨H,rfl,rfl⟩
     ·split
      ·exact⟨a,b,c⟩
      ·split<;>exact⟨a',b'.trans b,c'.trans c⟩
 unfold xY;split
 ·exact ha _
 ·exact hc _
def aVF{d:Dk}{j:Jn}(H:d.Ok)(ch:Int)(q:Pl)(ns:List Nt):(pK d j ch q ns).1.Ok∧(pK d j ch q ns).1.size=d.size∧(pK d j ch q ns).1.sectors=d.sectors:=by
 unfold pK;split
 ·exact⟨H,rfl,rfl⟩
 ·split
  ·exact⟨H,rfl,rfl⟩
  ·exact aT9 H _ _
def aIM{d d':Dk}(h:d'.sectors=d.sectors):d'.segs=d.segs:=by unfold Dk.segs;rw[h]
def WOk.brk{d:Dk}{w:Wl}(H:WOk d w)(e:Int):WOk d (w.brk e):=⟨H.ok,H.four,H.seg,H.slot,H.used⟩
def WOk.to{d d':Dk}{w:Wl}(H:WOk d w)(ok:d'.Ok)(h:d'.sectors=d.sectors):WOk d' w:=⟨ok,by rw[h];exact H.four,H.seg,H.slot,by rw[aIM h];exact H.used⟩
def WOk.append{d:Dk}{w:Wl}(H:WOk d w)(s:Tx):WOk (jM d w s).1 (jM d w s).2.1∧(jM d w s).1.size=d.size∧(jM d w s).1.sectors=d.sectors:=by
 obtain⟨a,b,c,-⟩:=qV (hY d.size w.hd.gen w.ser s) H.ok (d.base w.hd.seg+w.used);unfold jM;split
 ·exact⟨H,rfl,rfl⟩
 ·split
  ·exact⟨H.brk _,rfl,rfl⟩
  ·split
   ·exact⟨H.brk _,rfl,rfl⟩
   ·split
    ·exact⟨H.brk _,rfl,rfl⟩
    ·rename_i hf;split
     ·exact⟨(H.brk _).to a c,b,c⟩
     ·have hf:fits d w s.length=true:=by simpa using hf
      unfold fits at hf;rw[decide_eq_true_eq] at hf;refine⟨⟨a,by show 4≤(vB d w s).1.sectors;unfold vB;rw[c];exact H.four,H.seg,H.slot,?_⟩,b,c⟩;show w.used+fD d.size s.length≤(vB d w s).1.segs;have:=aIM (d:=d) (d':=(vB d w s).1) c;omega
def WOk.check{d:Dk}{w:Wl}(H:WOk d w)(s:Tx):WOk (iE d w s).1 (iE d w s).2.1∧(iE d w s).1.size=d.size∧(iE d w s).1.sectors=d.sectors:=by
 obtain⟨a,b,c,-⟩:=qV (hY d.size (iQ w.hd).1.gen 0 s) H.ok (d.base (iQ w.hd).1.seg);obtain⟨a',b',c',-⟩:=qV [(gY d.size (iQ w.hd).1).1] a (1-w.slot);unfold iE;split
 ·exact⟨H,rfl,rfl⟩
 ·split
  ·exact⟨H.brk _,rfl,rfl⟩
  ·split
   ·exact⟨H.brk _,rfl,rfl⟩
   ·rename_i hp;split
    ·exact⟨H.brk _,rfl,rfl⟩
    ·split
     ·exact⟨(H.brk _).to a c,b,c⟩
     ·have e2:(jZ (nI d (iQ w.hd).1 s).1 (1-w.slot) [(gY d.size (iQ w.hd).1).1]).1.sectors=d.sectors:=c'.trans c;split
      ·exact⟨(H.brk _).to a' e2,b'.trans b,e2⟩
      ·refine⟨⟨a',by show 4≤(jZ _ _ _).1.sectors;rw[e2];exact H.four,aKM _,by show 1-w.slot≤1;omega,?_⟩,b'.trans b,e2⟩;show fD d.size s.length≤(jZ (nI d (iQ w.hd).1 s).1 (1-w.slot) [(gY d.size (iQ w.hd).1).1]).1.segs;rw[aIM e2];omega
def aUe{d:Dk}(H:d.Ok)(room:Int)(p q:Pl):(jP d room p q).1.Ok∧(jP d room p q).1.size=d.size∧(jP d room p q).1.sectors=d.sectors∧((jP d room p q).2.2=0->WOk (jP d room p q).1 (jP d room p q).2.1.w∧(jP d room p q).2.1.room=room):=by
 obtain⟨a,b,c,e⟩:=aNJ H;unfold jP;split
 ·rename_i h;exact⟨H,rfl,rfl,λx=>absurd x h⟩
 ·split
  ·rename_i h;exact⟨a,b,c,λx=>absurd x h⟩
  ·rename_i h;have hw:=e (Classical.not_not.1 h);split
   ·rename_i h;exact⟨a,b,c,λx=>absurd x h⟩
   ·obtain⟨k1,k2,k3⟩:=hw.check (mA (mH room ⟨p,q,[]⟩ (gQ d).2.1.2).1);split
    ·rename_i h;exact⟨k1.ok,k2.trans b,k3.trans c,λx=>absurd x h⟩
    ·exact⟨k1.ok,k2.trans b,k3.trans c,λ_=>⟨k1,rfl⟩⟩
def Wl.cells(a:Nat)(x:Wl):List Value:=[pT a 0,.int .u64 (x.hd.gen:Int),.int .i64 (x.hd.seg:Int),.int .i64 (x.slot:Int),.int .i64 (x.used:Int),.int .u64 (x.ser:Int),.bool x.ready,.bool x.broken]
structure yZ(a w:Nat)(d:Dk)(x:Wl)(h:PH)(F:List Nat):Prop where
 here:∃Fd,F=w::Fd∧Bx h w (x.cells a)∧pD a d h Fd∧w∉Fd
 ok:WOk d x
 ser:x.ser≤x.used
 gen:x.hd.gen<18446744073709551616
def yZ.upd{a w:Nat}{d:Dk}{x:Wl}{h h':PH}{F K:List Nat}(H:yZ a w d x h F)(u:eH K h h')(hK:∀b∈F,b∉K):yZ a w d x h' F:=by
 obtain⟨Fd,rfl,B,D,n⟩:=H.here;exact⟨⟨Fd,rfl,B.upd u (hK w (by simp)),D.upd u (λb hb=>hK b (by simp[hb])),n⟩,H.ok,H.ser,H.gen⟩
def yZ.known{a w:Nat}{d:Dk}{x:Wl}{h:PH}{F:List Nat}(H:yZ a w d x h F):∀b∈F,h b≠none:=by
 obtain⟨Fd,rfl,B,D,n⟩:=H.here;intro b hb;rcases jW.1 hb with rfl|hb
 ·exact B.known
 ·exact D.known b hb
def yZ.good(a w:Nat)(d:Dk)(x:Wl):aIu (yZ a w d x):=⟨λH=>H.known,λH u hK=>H.upd u hK⟩
def yZ.ext{a w:Nat}{d:Dk}{x:Wl}{h h':PH}{F:List Nat}(H:yZ a w d x h F)(u:eM h h'):yZ a w d x h' F:=(yZ.good a w d x).ext H u
structure uJ(a w:Nat)(x:Wl)(h:PH):Prop where
 st:dH PG h (loadAt fQ (pT w 0))=some (sY a)
 disk:eA h ⟨w,0,none⟩=some (pT a 0)
 head:dH PG h (loadAt dR (pT w (0+1)))=some x.hd.v
 gen:eA h ⟨w,0+1,none⟩=some (.int .u64 (x.hd.gen:Int))
 seg:eA h ⟨w,0+1+1,none⟩=some (.int .i64 (x.hd.seg:Int))
 slot:eA h ⟨w,0+3,none⟩=some (.int .i64 (x.slot:Int))
 used:eA h ⟨w,0+4,none⟩=some (.int .i64 (x.used:Int))
 ser:eA h ⟨w,0+5,none⟩=some (.int .u64 (x.ser:Int))
 ready:eA h ⟨w,0+6,none⟩=some (.bool x.ready)
 broken:eA h ⟨w,0+7,none⟩=some (.bool x.broken)
def uJ.of{a w:Nat}{x:Wl}{h:PH}(B:Bx h w (x.cells a)):uJ a w x h:=
 ⟨fQ.agg B (by show 0+1≤8;decide),B.cell 0,dR.agg B (by show 0+1+2≤8;decide),B.cell 1,B.cell 2,B.cell 3,B.cell 4,B.cell 5,B.cell 6,B.cell 7⟩
def aTW{h:PH}{a w:Nat}{x:Wl}(B:uJ a w x h){k:dI}(hk:k (.bool x.broken) h):bR PG aEC #[pT w 0] h k:=by
 apply aDv.call;unfold aDv;simp only[fH.f6,iI.load,B.broken,dF,reduceIte,dM,Nat.reduceAdd];exact hk
def aXd{h:PH}{a w:Nat}{x:Wl}(B:uJ a w x h){k:dI}(hk:k (.int .u64 (x.hd.gen:Int)) h):bR PG aGe #[pT w 0] h k:=by
 apply aGk.call;unfold aGk;simp only[fH.f1,dR.f0,dN.load,B.gen,dF,reduceIte,dM,Nat.reduceAdd];exact hk
def aW7{h:PH}{a w:Nat}{x:Wl}(B:uJ a w x h){k:dI}(hk:k (.int .i64 (x.used:Int)) h):bR PG aFo #[pT w 0] h k:=by
 apply aF7.call;unfold aF7;simp only[fH.f3,aR.load,B.used,dF,reduceIte,dM,Nat.reduceAdd];exact hk
def aRO{h:PH}{a w:Nat}{d:Dk}{x:Wl}{F:List Nat}(H:yZ a w d x h F)(n:Nat)(hn:n<1000000000000){k:dI}(hk:∀h',eM h h'->k (.bool (fits d x n)) h'):bR PG aC5 #[pT w 0,.int .i64 (n:Int)] h k:=by
 apply aBn.call;unfold aBn;obtain⟨Fd,eF,B,D,n1⟩:=id H.here;have L:=uJ.of B;have hm:=H.ok.ok.many;have h4:=H.ok.four;have hu:=H.ok.used;have hsg:d.segs≤4096:=by unfold Dk.segs;omega
 simp only[fH.f0,fQ.f0,hZ.load,L.disk,fM.f0,D.geo,dF,reduceIte,dM,Nat.reduceAdd];refine aFF d λh1 u1=>?_;refine aIs d.size n hn ?_;have L1:=uJ.of (B.ext u1);by_cases c:fD d.size n=0
 ·have g:((0:Int)<(fD d.size n:Int))=False:=eq_false (by omega);have e:fits d x n=false:=by unfold fits;exact decide_eq_false (λh=>h.1 c)
  simp only[g,dF,reduceIte,dM,Nat.reduceAdd];have:=hk h1 u1;rw[e] at this;exact⟨λh=>absurd h (by decide),this⟩
 ·have g:((0:Int)<(fD d.size n:Int))=True:=eq_true (by omega);have w1:IntKind.i64.wrap ((d.segs:Int)-(x.used:Int))=(d.segs:Int)-(x.used:Int):=fW (by omega) (by omega);have e:decide ((fD d.size n:Int)≤(d.segs:Int)-(x.used:Int))=fits d x n:=by
   unfold fits;rw[yA,decide_eq_true_iff,decide_eq_true_iff];omega
  simp only[g,fH.f0,fH.f3,aR.load,L1.st,L1.used,dF,reduceIte,dM,Nat.reduceAdd];refine aH7 (D.ext u1) (by omega) λh2 u2=>?_;have L2:=uJ.of ((B.ext u1).ext u2);simp only[L2.used,w1,dF,reduceIte,dM,Nat.reduceAdd];rw[e];exact⟨λh=>h,hk h2 (u1.trans u2)⟩
def aXQ(a:Nat):dE PG (build fQ #[(0,pT a 0)])=some (sY a):=by kernel_rfl
def aXF(a:Nat):dE PG (build fH #[(0,sY a)])=some (.agg (Wl.cells a Wl.zero).toArray):=by kernel_rfl
def aV1(a b:ByteArray):lH PG (buildSlice eB 2 #[(0,.string a),(1,.string b)])=some (.cells #[.string a,.string b] aT,λr=>pure (.slice (some ⟨r,0,none⟩) 2 2)):=by kernel_rfl
def aQM{h:PH}{r:Nat}(s t:Tx):fY (h.set r (.cells #[.string (tx s),.string (tx t)] aT)) aT 1 (.slice (some ⟨r,0,none⟩) 2 2) ([s,t].map jX) [r]:=fY.lit (n:=2) (λr hr=>by
 obtain⟨m,_,rfl⟩:=rS.1 hr;rfl) gB rfl (by decide) rfl
def aG7{h:PH}{r:Nat}(s:Tx):fY (h.set r (.cells #[.string (tx s)] aT)) aT 1 (.slice (some ⟨r,0,none⟩) 1 1) ([s].map jX) [r]:=aGi s
def fT.none{h h':PH}{F F':List Nat}(s:fT h F h' F'){b:Nat}(hb:h' b=none):b∈F∨h b=none:=by
 by_cases c:b∈F
 ·exact .inl c
 ·cases e:h b with
  | none=>exact .inr rfl
  | some o=>have:=s.upd b o e c;rw[hb] at this;cases this
def lL{F:List Nat}{w:Nat}(n:w∉F):∀b∈F,b∉[w]:=λb hb hm=>by
 simp only[jI] at hm;exact n (hm▸hb)
def aPZ{h0 h:PH}{a w:Nat}{d:Dk}{hd:Hd}{slot us se:Nat}{F0 F:List Nat}(B:Bx h w (Wl.cells a ⟨hd,slot,us,se,false,false⟩))(D:pD a d h F)(n1:w∉F)(h4:4≤d.sectors)(hs:hd.seg≤1)(h1:slot≤1)(hg:hd.gen<18446744073709551616)(hb:d.buf.length≤1000000)(st:fT h0 F0 h F)(fw:h0 w=none){k:dI}
  (hk:∀h' F' v G,yZ a w d (aA7 d hd slot).1 h' F'->fY h' aT 1 v ((aA7 d hd slot).2.map jX) G->(∀b∈G,b∉F')->fT h0 F0 h' (F'++G)->k (.tuple #[pT w 0,v,.int .i64 0]) h'):aGC k (pT a 0) (pT w 0) h:=by
 unfold aGC;have L:=uJ.of B;have hm:=D.ok.many;have fit:=zH d h4 hs;simp only[fM.f0,D.geo,fH.f0,fH.f1,dR.f0,dR.f1,dN.load,aR.load,L.gen,L.seg,L.st,dF,reduceIte,dM,Nat.reduceAdd];refine aFF d λh2 u2=>?_;have L2:=uJ.of (B.ext u2);refine⟨L2.st,L2.seg,L2.st,L2.st,L2.gen,?_⟩;refine aNy (D.ext u2) (by omega) hd.seg hs λh3 u3=>?_;have e3:=u2.trans u3;have L3:=uJ.of (B.ext e3);refine⟨L3.st,L3.st,L3.gen,?_⟩;refine aH7 (D.ext e3) (by omega) λh5 u5=>?_;have e5:=e3.trans u5;have L5:=uJ.of (B.ext e5);refine⟨L5.st,L5.gen,?_⟩;refine aMN (D.ext e5) (d.base hd.seg) d.segs (by omega) hb λh6 u6=>?_;have e6:=e5.trans u6;have L6:=uJ.of (B.ext e6);refine⟨L6.gen,?_⟩;have hsg:d.segs≤4096:=by unfold Dk.segs;omega
 have sl:=Dk.secs_len d (d.base hd.seg) d.segs;refine aWT D.ok.size (aHF D.ok (by omega)) (by omega) λh7 v G O7 f7 u7=>?_;have e7:=e6.trans u7;rw[sl] at O7 ⊢;have hle:=aJx (size:=d.size) (gen:=hd.gen) (d.segs+1) (d.secs (d.base hd.seg) d.segs) 0;have hma:=aI6 (size:=d.size) (gen:=hd.gen) (d.segs+1) (d.secs (d.base hd.seg) d.segs) 0;rw[sl] at hle;have hw:(aA7 d hd slot)=(⟨hd,slot,(lF d.size hd.gen (d.segs+1) (d.secs (d.base hd.seg) d.segs) 0).2,(lF d.size hd.gen (d.segs+1) (d.secs (d.base hd.seg) d.segs) 0).1.length,false,false⟩,(lF d.size hd.gen (d.segs+1) (d.secs (d.base hd.seg) d.segs) 0).1):=rfl;rw[hw] at hk;have hok:WOk d (aA7 d hd slot).1:=WOk.mk' D.ok h4 hs h1;rw[hw] at hok;obtain⟨R,hR⟩:∃R,lF d.size hd.gen (d.segs+1) (d.secs (d.base hd.seg) d.segs) 0=R:=⟨_,rfl⟩;rw[hR] at hk hok O7 hle hma ⊢;have B7:=B.ext e7;have D7:=D.ext e7;have cvt:dE PG (convert aR dN (.int .i64 (R.1.length:Int)))=some (.int .u64 (R.1.length:Int)):=by
  rw[show dE PG (convert aR dN (.int .i64 (R.1.length:Int)))=some (.int .u64 (IntKind.u64.wrap (R.1.length:Int))) from by kernel_rfl,lJ (by omega) (by omega)]
 simp only[uM O7.slR,cvt,fH.f3,fH.f4,dF,reduceIte,dM,Nat.reduceAdd];refine aR.put B7 (o:=4) (by show 4<8;decide) rfl λh8 B8 u8=>?_;refine dN.put B8 (o:=5) (by show 5<8;decide) rfl λh9 B9 u9=>?_;have B9:Bx h9 w (Wl.cells a ⟨hd,slot,R.2,R.1.length,false,false⟩):=B9;have u89:=u8.trans u9;have nw:w∉G:=λhx=>B.known (e6.none (f7 w hx));have dG:∀b∈G,b∉F:=λb hb hf=>D.known b hf (e6.none (f7 b hb));refine hk h9 (w::F) v G ⟨⟨F,rfl,B9,D7.upd u89 (lL n1),n1⟩,hok,hma,hg⟩ (O7.upd u89 (lL nw)) (λb hb hm=>?_) ⟨?_,λb hb=>?_⟩
 ·rcases jW.1 hm with rfl|hm
  ·exact nw hb
  ·exact dG b hb hm
 ·exact(st.upd.trans e7.upd).then u89 (λb hb=>by
   simp only[jI] at hb;rw[hb];exact .inr fw)
 ·simp only[zLT,jW,wQ] at hb;rcases hb with rfl|hb|hb
  ·exact .inr fw
  ·exact st.grow b hb
  ·exact(st.trans (fT.ext e6)).none (f7 b hb)
def aOT(size:Nat)(s:Tx):(iF size s).1.gen<18446744073709551616:=by
 have h0:Hd.zero.gen<18446744073709551616:=by decide
 have h1:(wD s).gen<18446744073709551616:=wZ (0,s.drop 1) 8;unfold iF;split
 ·exact h0
 ·split
  ·exact h0
  ·split
   ·exact h0
   ·split
    ·exact h1
    ·exact h0
def aOP{b:Hd×Int}{k:Int}{x:Hd}(hb:b.1.gen<18446744073709551616)(hh:x.gen<18446744073709551616):(yR b k x).1.gen<18446744073709551616:=by
 unfold yR;split
 ·exact hh
 ·exact hb
def aM9(size:Nat)(x y:Tx):(oS size x y).1.gen<18446744073709551616:=by
 unfold oS;exact aOP (aOP (by decide) (aOT size x)) (aOT size y)
def aCK:∀(l:List Tx) (d:Dk) (n:Nat),(jZ d n l).1.buf.length≤d.buf.length+l.length
 | [],d,n=>by
  show d.fl.1.buf.length≤_;unfold Dk.fl;split
  ·exact nQ _
  ·exact mK _
 | s::l,d,n=>by
  rw[aLO];have h1:=aQH d (n:Int) s;split
  ·simp only[jY];show(d.wr (n:Int) s).1.buf.length≤_;omega
  ·have:=aCK l (d.wr (n:Int) s).1 (n+1);simp only[jY];omega
def aRU(d:Dk)(n:Nat):(d.secs n 1).flatten=d.at n:=by
 show([d.at (n+0)]:List Tx).flatten=_;simp
def aVb{h:PH}{a:Nat}{d:Dk}{F:List Nat}(D:pD a d h F)(hb:d.buf.length≤999000){k:dI}
  (bad:∀h' F',pD a (gQ d).1 h' F'->fT h F h' F'->(gQ d).2.2≠0->k (.tuple #[.pointer none,.slice none 0 0,.int .i64 (gQ d).2.2]) h')
  (hk:∀h' F' w v G,yZ a w (gQ d).1 (gQ d).2.1.1 h' F'->fY h' aT 1 v ((gQ d).2.1.2.map jX) G->(∀b∈G,b∉F')->fT h F h' (F'++G)->(gQ d).2.2=0->k (.tuple #[pT w 0,v,.int .i64 0]) h'):bR PG aJh #[pT a 0] h k:=by
 apply aGh.call;unfold aGh;have hm:=D.ok.many;have hz:=D.ok.size;unfold gQ at bad hk;simp only[aXQ,aXF,dF,reduceIte,dM,Nat.reduceAdd];intro r3 hr3
 try rw[dY]
 have u3:eM h (h.set r3 (.cells (Value.cells (.agg (Wl.cells a Wl.zero).toArray)) fH)):=eH.new hr3;have B3:Bx (h.set r3 (.cells (Value.cells (.agg (Wl.cells a Wl.zero).toArray)) fH)) r3 (Wl.cells a Wl.zero):=Bx.new;generalize h.set r3 (.cells (Value.cells (.agg (Wl.cells a Wl.zero).toArray)) fH)=h3 at *;have D3:=D.ext u3;have n3:r3∉F:=λhm=>D.known r3 hm hr3;simp only[fM.f0,D3.geo,dF,reduceIte,dM,Nat.reduceAdd];refine aMs d λh4 u4=>?_;have e4:=u3.trans u4;by_cases c4:d.sectors<4
 ·have g:((d.sectors:Int)<4)=True:=eq_true (by omega);rw[if_pos c4] at bad;simp only[g,dF,reduceIte,dM,Nat.reduceAdd];exact bad h4 F (D.ext e4) (fT.ext e4) (by show(1:Int)≠0;decide)
 ·have g:((d.sectors:Int)<4)=False:=eq_false (by omega);rw[if_neg c4] at bad hk;simp only[g,dF,reduceIte,dM,Nat.reduceAdd];refine aQT (D.ext e4) (by omega) λh5 F5 D5 s5=>?_;have st5:=(fT.ext (F:=F) e4).trans s5;obtain⟨B5,n5⟩:=(B3.ext u4).step s5 n3;by_cases c5:d.fl.2=0
  ·have q:(d.fl.2 !=0)=false:=by rw[c5];rfl
   rw[if_neg (λe=>e c5)] at bad hk;have L5:=uJ.of B5;have eg:d.fl.1.size=d.size:=d.fl_geo.1;have es:d.fl.1.sectors=d.sectors:=d.fl_geo.2;have eb:d.fl.1.buf.length≤999000:=by
    unfold Dk.fl;split
    ·exact hb
    ·exact mK _
   simp only[fZ,q,fM.f0,D5.geo,fH.f0,L5.st,dF,reduceIte,dM,Nat.reduceAdd];refine aFF d.fl.1 λh6 u6=>?_;have L6:=uJ.of (B5.ext u6);refine⟨L6.st,L6.st,?_⟩;refine aMN (D5.ext u6) 0 1 (by omega) (by omega) λh7 u7=>?_;have e7:=u6.trans u7;have L7:=uJ.of (B5.ext e7);refine⟨L7.st,?_⟩;refine aMN (D5.ext e7) 1 1 (by omega) (by omega) λh8 u8=>?_;have e8:=e7.trans u8;rw[aRU,aRU,eg];have al0:=D5.ok.at_len (n:=0) (by omega);have al1:=D5.ok.at_len (n:=1) (by omega);rw[eg] at al0 al1;unfold iB at hz;simp only[aV1,dF,reduceIte,dM,Nat.reduceAdd];intro r29 hr29;refine jC ?_
   try rw[dY]
   have O9:=aQM (h:=h8) (r:=r29) (d.fl.1.at 0) (d.fl.1.at 1);have u9:eM h8 (h8.set r29 (.cells #[.string (tx (d.fl.1.at 0)),.string (tx (d.fl.1.at 1))] aT)):=eH.new hr29;generalize h8.set r29 (.cells #[.string (tx (d.fl.1.at 0)),.string (tx (d.fl.1.at 1))] aT)=h9 at *;refine aTV d.size _ _ O9.slR (by omega) (by omega) λh10 u10=>?_;have e10:=(e8.trans u9).trans u10;have B10:=B5.ext e10;have D10:=D5.ext e10;have st10:=st5.trans (fT.ext (F:=F5) e10);obtain⟨N,hN⟩:∃N,oS d.size (d.fl.1.at 0) (d.fl.1.at 1)=N:=⟨_,rfl⟩;have hno:=aJE d.size (d.fl.1.at 0) (d.fl.1.at 1);have hng:=aM9 d.size (d.fl.1.at 0) (d.fl.1.at 1);rw[hN] at bad hk hno hng ⊢;obtain⟨N1,N2⟩:=N;simp only[fH.f1,fH.f2,dF,reduceIte,dM,Nat.reduceAdd];refine dR.put B10 (vs:=N1.cells) (o:=1) rfl (by show 1+2≤8;decide) N1.isC λh11 B11 u11=>?_;refine aR.put B11 (o:=3) (by show 3<8;decide) rfl λh12 B12 u12=>?_;have c12:eA h12 ⟨r3,0+3,none⟩=some (.int .i64 N2):=B12.cell 3;have u112:=u11.trans u12;have D12:=D10.upd u112 (lL n5);have st12:fT h F h12 F5:=⟨st10.upd.then u112 (λb hb=>by
    simp only[jI] at hb;rw[hb];exact .inr hr3),st10.grow⟩
   by_cases c:N2<0
   ·have g:(N2<0)=True:=eq_true c;rw[if_pos c] at bad hk;simp only[aR.load,c12,g,aRR,dF,reduceIte,dM,Nat.reduceAdd];refine dR.put B12 (vs:=Hd.cells ⟨1,0⟩) (o:=1) rfl (by show 1+2≤8;decide) (Hd.isC _) λh13 B13 u13=>?_;refine aR.put B13 (o:=3) (by show 3<8;decide) rfl λh14 B14 u14=>?_;have B14:Bx h14 r3 (Wl.cells a ⟨⟨1,0⟩,1,0,0,false,false⟩):=B14;have u134:=u13.trans u14;have D14:=D12.upd u134 (lL n5);have L14:=uJ.of B14;have st14:fT h F h14 F5:=⟨st12.upd.then u134 (λb hb=>by
     simp only[jI] at hb;rw[hb];exact .inr hr3),st12.grow⟩
    simp only[fM.f0,D14.geo,fH.f1,L14.head,dF,reduceIte,dM,Nat.reduceAdd];refine aFF d.fl.1 λh15 u15=>?_;have L15:=uJ.of (B14.ext u15);refine⟨L15.head,?_⟩;refine aPs d.fl.1.size ⟨1,0⟩ (by decide) (by decide) λh16 u16=>?_;have e16:=u15.trans u16;have L16:=uJ.of (B14.ext e16);rw[eg];simp only[fH.f0,fH.f2,L16.st,aR.load,L16.slot,aGo,dF,reduceIte,dM,Nat.reduceAdd];intro r76 hr76;refine jC ?_
    try rw[dY]
    have O17:=aG7 (h:=h16) (r:=r76) (gY d.size ⟨1,0⟩).1;have u17:eM h16 (h16.set r76 (.cells #[.string (tx (gY d.size ⟨1,0⟩).1)] aT)):=eH.new hr76;generalize h16.set r76 (.cells #[.string (tx (gY d.size ⟨1,0⟩).1)] aT)=h17 at *;have e17:=e16.trans u17;have n76:∀b∈[r76],b∉F5:=λb hb hf=>by
     simp only[jI] at hb;rw[hb] at hf;exact D14.known r76 hf (e16.none hr76)
    refine aLi (D14.ext e17) 1 (by decide) O17 n76 (by simp only[jY,lU];omega) λh18 F18 D18 s18=>?_;obtain⟨B18,n18⟩:=(B14.ext e17).step s18 n5;have st18:=(st14.trans (fT.ext e17)).trans s18;obtain⟨P,hP⟩:∃P,jZ d.fl.1 1 [(gY d.size ⟨1,0⟩).1]=P:=⟨_,rfl⟩;have hpo:=qV [(gY d.size ⟨1,0⟩).1] D5.ok 1;have hpb:=aCK [(gY d.size ⟨1,0⟩).1] d.fl.1 1;rw[hP] at bad hk D18 hpo hpb ⊢;by_cases c6:P.2=0
    ·have q6:(P.2 !=0)=false:=by rw[c6];rfl
     rw[if_neg (λe=>e c6)] at hk;simp only[fZ,q6,dF,reduceIte,dM,Nat.reduceAdd];simp only[jY,lU] at hpb;refine aPZ B18 D18 n18 (by rw[hpo.2.2.1];omega) (by decide) (by decide) (by decide) (by omega) st18 hr3 λh' F' v G W O dj st=>?_;exact hk h' F' r3 v G W O dj st rfl
    ·have q6:(P.2 !=0)=true:=bne_iff_ne.2 c6;rw[if_pos c6] at bad;simp only[fZ,q6,dF,reduceIte,dM,Nat.reduceAdd];exact bad h18 F18 D18 st18 c6
   ·have g:(N2<0)=False:=eq_false c;rw[if_neg c] at hk;simp only[aR.load,c12,g,dF,reduceIte,dM,Nat.reduceAdd];have en:N2=((N2.toNat:Nat):Int):=by omega
    have B12:Bx h12 r3 (Wl.cells a ⟨N1,N2.toNat,0,0,false,false⟩):=by
     rw[en] at B12;exact B12
    have hno:=hno;refine aPZ B12 D12 n5 (by rw[es];omega) hno.1 (by have:=hno.2;simp only at this;omega) hng (by omega) st12 hr3 λh' F' v G W O dj st=>?_;exact hk h' F' r3 v G W O dj st rfl
  ·have q:(d.fl.2 !=0)=true:=bne_iff_ne.2 c5;rw[if_pos c5] at bad;simp only[fZ,q,dF,reduceIte,dM,Nat.reduceAdd];exact bad h5 F5 D5 st5 c5
def aTF{h:PH}{a w:Nat}{d:Dk}{x:Wl}{F:List Nat}{fv:Value}(H:yZ a w d x h F){Q:Dk->Wl->Int->Prop}{k:dI}
  (body:x.broken=false->∀k':Value->PH->Prop,(∀h' F' d' x' e,yZ a w d' x' h' F'->fT h F h' F'->Q d' x' e->k' (.int .i64 e) h')->aAK PG fv #[] h k')
  (hk0:x.broken=true->k (.int .i64 14) h)
  (hk:x.broken=false->∀h' F' d' x' e,yZ a w d' (x'.brk e) h' F'->fT h F h' F'->Q d' x' e->k (.int .i64 e) h'):bR PG aDo #[pT w 0,fv] h k:=by
 apply aGr.call;unfold aGr;obtain⟨Fd,eF,B,D,n1⟩:=id H.here;have L:=uJ.of B;cases c:x.broken with
 | true=>
  have lb:=L.broken;rw[c] at lb;simp only[fH.f6,iI.load,lb,dF,reduceIte,dM,Nat.reduceAdd];exact hk0 c
 | false=>
  have lb:=L.broken;rw[c] at lb;simp only[fH.f6,iI.load,lb,dF,reduceIte,dM,Nat.reduceAdd];refine body c _ λh' F' d' x' e H' st q=>?_;obtain⟨Fd',eF',B',D',n'⟩:=H'.here;have qe:(e==13)=decide (e=13):=by rw[yA,beq_iff_eq,decide_eq_true_iff]
  simp only[gX,qe,fH.f6,dF,reduceIte,dM,Nat.reduceAdd];refine iI.put B' (o:=7) (by show 7<8;decide) rfl λh2 B2 u2=>?_;have B2:Bx h2 w ((x'.brk e).cells a):=B2;refine hk c h2 F' d' x' e ⟨⟨Fd',eF',B2,D'.upd u2 (lL n'),n'⟩,H'.ok.brk e,H'.ser,H'.gen⟩ ?_ q;refine⟨st.upd.then u2 (λb hb=>?_),st.grow⟩;simp only[jI] at hb;exact st.grow b (by rw[eF',hb];simp)
def fT.in{h h':PH}{F F':List Nat}{w:Nat}(n:w∉F)(s:fT h F h' F'):fT h (w::F) h' (w::F'):=
 ⟨s.upd.mono λb hb=>.inl (by simp[hb]),λb hb=>by
  rcases jW.1 hb with rfl|hb
  ·exact .inl (by simp)
  ·rcases s.grow b hb with e|e
   ·exact .inl (by simp[e])
   ·exact .inr e⟩
def aQb{h:PH}{a w r1 r3:Nat}{d:Dk}{x:Wl}{F:List Nat}(H:yZ a w d x h F)(hx:x.broken=false)(s:Tx)(hs:s.length≤1000000)(hb:d.buf.length≤990000)(B1:Bx h r1 [pT w 0])(B3:Bx h r3 [.string (tx s)])(m1:r1∉F){k:dI}
  (hk:∀h' F' d' x' e,yZ a w d' x' h' F'->fT h F h' F'->jM d x s=(d',x'.brk e,e)->k (.int .i64 e) h'):bR PG aCx #[pT r1 0,pT r3 0] h k:=by
 apply vG.call;unfold vG;obtain⟨Fd,rfl,B,D,n1⟩:=id H.here;have L:=uJ.of B;have hm:=D.ok.many;have h4:=H.ok.four;have hu:=H.ok.used;have hser:=H.ser;have hsg:d.segs≤4096:=by unfold Dk.segs;omega
 have hm1:r1≠w∧r1∉Fd:=by simpa using m1
 cases cr:x.ready with
 | false=>
  have lr:=L.ready;rw[cr] at lr;simp only[fU.load,iL B1,fH.f5,iI.load,lr,dF,reduceIte,dM,Nat.reduceAdd];refine hk h _ d x 15 H fT.refl ?_;unfold jM;rw[if_neg (by rw[hx];decide),if_pos cr]
 | true=>
  have lr:=L.ready;rw[cr] at lr;simp only[fU.load,iL B1,fH.f5,iI.load,lr,fH.f0,fQ.f0,hZ.load,L.disk,fM.f0,D.geo,fH.f1,dR.f0,dN.load,L.gen,fH.f4,L.ser,aT.load,iL B3,dF,reduceIte,dM,Nat.reduceAdd];refine aFF d λh2 u2=>?_;have L2:=uJ.of (B.ext u2);simp only[iL (B1.ext u2),iL (B3.ext u2),L2.gen,L2.ser,dF,reduceIte,dM,Nat.reduceAdd];refine⟨trivial,trivial,trivial,trivial,trivial,?_⟩;refine aQA d.size x.hd.gen x.ser s D.ok.size H.gen (by omega) hs λh3 v G O3 f3 u3=>?_;have e3:=u2.trans u3;have C1:=B1.ext e3;have C3:=B3.ext e3;have H3:=H.ext e3;by_cases c1:fD d.size s.length=0
  ·have q1:((1:Int) !=0)=true:=rfl;rw[if_pos c1];simp only[fZ,q1,dF,reduceIte,dM,Nat.reduceAdd];refine hk h3 _ d x 1 H3 (fT.ext e3) ?_;unfold jM;rw[if_neg (by rw[hx];decide),if_neg (by rw[cr];decide),if_pos c1]
  ·have q1:((0:Int) !=0)=false:=rfl;rw[if_neg c1];simp only[fZ,q1,iL C1,iL C3,jS,dF,reduceIte,dM,Nat.reduceAdd];refine aRO H3 s.length (by omega) λh4' u4=>?_;have e4:=e3.trans u4;have H4:=H.ext e4;cases cf:fits d x s.length with
   | false=>
    simp only[dF,reduceIte,dM,Nat.reduceAdd];refine hk h4' _ d x 2 H4 (fT.ext e4) ?_;unfold jM;rw[if_neg (by rw[hx];decide),if_neg (by rw[cr];decide),if_neg c1,if_pos cf]
   | true=>
    have L4:=uJ.of (B.ext e4);have hf:=cf;unfold fits at hf;rw[decide_eq_true_eq] at hf;have hbs:d.base x.hd.seg≤10000:=by
     have:=zH d h4 H.ok.seg;omega
    have w1:IntKind.i64.wrap ((d.base x.hd.seg:Int)+(x.used:Int))=((d.base x.hd.seg+x.used:Nat):Int):=by rw[fW (by omega) (by omega)];omega
    simp only[iL (B1.ext e4),fH.f0,fH.f1,L4.st,dR.f1,aR.load,L4.seg,fH.f3,L4.used,dF,reduceIte,dM,Nat.reduceAdd];refine aNy (D.ext e4) (by omega) x.hd.seg H.ok.seg λh5 u5=>?_;have e5:=e4.trans u5;have L5:=uJ.of (B.ext e5);simp only[iL (B1.ext e5),L5.st,L5.used,w1,dF,reduceIte,dM,Nat.reduceAdd];refine⟨trivial,trivial,trivial,trivial,?_⟩;have fl:(hY d.size x.hd.gen x.ser s).length=fD d.size s.length:=kQ ..;have dG:∀b∈G,b∉Fd:=λb hb hf=>D.known b hf (u2.none (f3 b hb));refine aLi (D.ext e5) (d.base x.hd.seg+x.used) (by omega) (O3.ext (u4.trans u5)) dG (by omega) λh6 F6 D6 s6=>?_;obtain⟨B6,n6⟩:=(B.ext e5).step s6 n1;have st6:fT h (w::Fd) h6 (w::F6):=(fT.ext e5).trans (fT.in n1 s6);have C6:=((B1.ext e5).step s6 hm1.2).1;have hpo:=qV (hY d.size x.hd.gen x.ser s) D.ok (d.base x.hd.seg+x.used);have hwo:=H.ok.append s;have hd':jZ d (d.base x.hd.seg+x.used) (hY d.size x.hd.gen x.ser s)=vB d x s:=rfl;rw[hd'] at D6 hpo ⊢;have hap:=H.ok.ap cf;by_cases c6:(vB d x s).2=0
    ·have q6:((vB d x s).2 !=0)=false:=by rw[c6];rfl
     have e:jM d x s=((vB d x s).1,⟨x.hd,x.slot,x.used+fD d.size s.length,x.ser+1,x.ready,false⟩,0):=by
      unfold jM;rw[if_neg (by rw[hx];decide),if_neg (by rw[cr];decide),if_neg c1,if_neg (by rw[cf];decide),if_neg (λe=>e c6)]
     rw[e] at hwo;have L6:=uJ.of B6;have w2:IntKind.i64.wrap ((x.used:Int)+((hY d.size x.hd.gen x.ser s).length:Int))=((x.used+fD d.size s.length:Nat):Int):=by rw[fl,fW (by omega) (by omega)];omega
     have w3:IntKind.u64.wrap ((x.ser:Int)+1)=((x.ser+1:Nat):Int):=by rw[lJ (by omega) (by omega)];omega
     simp only[fZ,q6,iL C6,fH.f3,aR.load,L6.used,uM O3.slR,w2,dF,reduceIte,dM,Nat.reduceAdd];refine aR.put B6 (o:=4) (by show 4<8;decide) rfl λh7 B7 u7=>?_;have C7:=C6.upd u7 (by simpa using hm1.1);have c5:eA h7 ⟨w,0+5,none⟩=some (.int .u64 (x.ser:Int)):=B7.cell 5;simp only[iL C7,fH.f4,dN.load,c5,w3,dF,reduceIte,dM,Nat.reduceAdd];refine dN.put B7 (o:=5) (by show 5<8;decide) rfl λh8 B8 u8=>?_;have B8:Bx h8 w (Wl.cells a ⟨x.hd,x.slot,x.used+fD d.size s.length,x.ser+1,x.ready,x.broken⟩):=B8;rw[hx] at B8;have u78:=u7.trans u8;refine hk h8 (w::F6) (vB d x s).1 ⟨x.hd,x.slot,x.used+fD d.size s.length,x.ser+1,x.ready,false⟩ 0 ⟨⟨F6,rfl,B8,D6.upd u78 (lL n6),n6⟩,hwo.1,by show x.ser+1≤x.used+fD d.size s.length;omega,H.gen⟩ ⟨st6.upd.trans (u78.mono λb hb=>.inl (by simp only[jI] at hb;simp[hb])),st6.grow⟩ ?_;rw[e];rfl
    ·have q6:((vB d x s).2 !=0)=true:=bne_iff_ne.2 c6;simp only[fZ,q6,dF,reduceIte,dM,Nat.reduceAdd];refine hk h6 (w::F6) (vB d x s).1 x (vB d x s).2 ⟨⟨F6,rfl,B6,D6,n6⟩,H.ok.to hpo.1 hpo.2.2.1,H.ser,H.gen⟩ st6 ?_;unfold jM;rw[if_neg (by rw[hx];decide),if_neg (by rw[cr];decide),if_neg c1,if_neg (by rw[cf];decide),if_pos c6]
def aSD{h:PH}{a w:Nat}{d:Dk}{x:Wl}{F:List Nat}(H:yZ a w d x h F)(s:Tx)(hs:s.length≤1000000)(hb:d.buf.length≤990000){k:dI}
  (hk:∀h' F',yZ a w (jM d x s).1 (jM d x s).2.1 h' F'->fT h F h' F'->k (.int .i64 (jM d x s).2.2) h'):bR PG aEF #[pT w 0,.string (tx s)] h k:=by
 apply aD4.call;unfold aD4;intro r1 hr1
 try rw[dY]
 have u1:eM h (h.set r1 (.cells (Value.cells (pT w 0)) fU)):=eH.new hr1;have B1:Bx (h.set r1 (.cells (Value.cells (pT w 0)) fU)) r1 [pT w 0]:=Bx.new;generalize h.set r1 (.cells (Value.cells (pT w 0)) fU)=h1 at *;intro r3 hr3
 try rw[dY]
 have u3:eM h1 (h1.set r3 (.cells (Value.cells (.string (tx s))) aT)):=eH.new hr3;have B3:Bx (h1.set r3 (.cells (Value.cells (.string (tx s))) aT)) r3 [.string (tx s)]:=Bx.new;generalize h1.set r3 (.cells (Value.cells (.string (tx s))) aT)=h3 at *;have e3:=u1.trans u3;have m1:r1∉F:=λhm=>H.known r1 hm hr1;simp only[fU.load,iL (B1.ext u3),aEQ,dF,reduceIte,dM,Nat.reduceAdd];refine aTF (Q:=λd' x' e=>jM d x s=(d',x'.brk e,e)) (H.ext e3) (λhx k' hk'=>?_) (λhx=>?_) (λhx h' F' d' x' e H' st q=>?_)
 ·exact aQb (H.ext e3) hx s hs hb (B1.ext u3) B3 m1 hk'
 ·have e:jM d x s=(d,x,14):=by unfold jM;rw[if_pos hx]
  rw[e] at hk;exact hk h3 F (H.ext e3) (fT.ext e3)
 ·rw[q] at hk;exact hk h' F' H' ((fT.ext e3).trans st)
def aPo{h:Hd}(hg:h.gen<18446744073709551616):(iQ h).1.gen<18446744073709551616:=by
 unfold iQ;split
 ·decide
 ·show h.gen+1<_;omega
def aSI{h:PH}{a w r1 r3:Nat}{d:Dk}{x:Wl}{F:List Nat}(H:yZ a w d x h F)(hx:x.broken=false)(s:Tx)(hs:s.length≤1000000)(hb:d.buf.length≤990000)(B1:Bx h r1 [pT w 0])(B3:Bx h r3 [.string (tx s)])(m1:r1∉F)(m3:r3∉F){k:dI}
  (hk:∀h' F' d' x' e,yZ a w d' x' h' F'->fT h F h' F'->iE d x s=(d',x'.brk e,e)->k (.int .i64 e) h'):bR PG aAV #[pT r1 0,pT r3 0] h k:=by
 apply rH.call;unfold rH;obtain⟨Fd,rfl,B,D,n1⟩:=id H.here;have L:=uJ.of B;have hm:=D.ok.many;have h4:=H.ok.four;have hu:=H.ok.used;have hser:=H.ser;have hz:=D.ok.size;have hsg:d.segs≤4096:=by unfold Dk.segs;omega
 have hm1:r1≠w∧r1∉Fd:=by simpa using m1
 have hm3:r3≠w∧r3∉Fd:=by simpa using m3
 simp only[fU.load,iL B1,fH.f0,fQ.f0,hZ.load,L.disk,fM.f0,D.geo,aT.load,iL B3,jS,dF,reduceIte,dM,Nat.reduceAdd];refine aFF d λh2 u2=>?_;have L2:=uJ.of (B.ext u2);refine⟨iL (B3.ext u2),?_⟩;refine aIs d.size s.length (by omega) ?_;by_cases c1:fD d.size s.length=0
 ·have q1:(((fD d.size s.length:Nat):Int)==0)=true:=by rw[c1];rfl
  simp only[gX,q1,dF,reduceIte,dM,Nat.reduceAdd];refine hk h2 _ d x 1 (H.ext u2) (fT.ext u2) ?_;unfold iE;rw[if_neg (by rw[hx];decide),if_pos c1]
 ·have q1:(((fD d.size s.length:Nat):Int)==0)=false:=by rw[beq_eq_false_iff_ne];omega
  simp only[gX,q1,iL (B1.ext u2),fH.f0,L2.st,dF,reduceIte,dM,Nat.reduceAdd];refine aH7 (D.ext u2) (by omega) λh3 u3=>?_;have e3:=u2.trans u3;by_cases c2:d.segs<fD d.size s.length
  ·have g2:((d.segs:Int)<(fD d.size s.length:Int))=True:=eq_true (by omega);simp only[g2,dF,reduceIte,dM,Nat.reduceAdd];refine hk h3 _ d x 2 (H.ext e3) (fT.ext e3) ?_;unfold iE;rw[if_neg (by rw[hx];decide),if_neg c1,if_pos c2]
  ·have g2:((d.segs:Int)<(fD d.size s.length:Int))=False:=eq_false (by omega);have L3:=uJ.of (B.ext e3);simp only[g2,iL (B1.ext e3),fH.f1,L3.head,dF,reduceIte,dM,Nat.reduceAdd];refine aV8 x.hd H.gen λh4' u4=>?_;have e4:=e3.trans u4;obtain⟨N,hN⟩:∃N,iQ x.hd=N:=⟨_,rfl⟩;have hng:=aPo H.gen;have hns:=aKM x.hd;have hnh:=aOD (h:=x.hd) hz;have eW:iE d x s=if N.2≠0 then(d,x.brk N.2,N.2)
     else if (nI d N.1 s).2≠0 then((nI d N.1 s).1,x.brk (nI d N.1 s).2,(nI d N.1 s).2)
     else if (jZ (nI d N.1 s).1 (1-x.slot) [(gY d.size N.1).1]).2≠0 then
      ((jZ (nI d N.1 s).1 (1-x.slot) [(gY d.size N.1).1]).1,x.brk (jZ (nI d N.1 s).1 (1-x.slot) [(gY d.size N.1).1]).2,(jZ (nI d N.1 s).1 (1-x.slot) [(gY d.size N.1).1]).2)
     else((jZ (nI d N.1 s).1 (1-x.slot) [(gY d.size N.1).1]).1,⟨N.1,1-x.slot,fD d.size s.length,1,true,false⟩,0):=by
    unfold iE;rw[if_neg (by rw[hx];decide),if_neg c1,if_neg c2,hN]
   rw[hN] at hng hns hnh ⊢;obtain⟨N1,N2⟩:=N;simp only at eW hng hns hnh;simp only[dF,reduceIte,dM,Nat.reduceAdd];intro r31 hr31
   try rw[dY]
   refine dR.fill (vs:=N1.cells) hr31 rfl N1.isC λh5 B5 u5=>?_;have e5:=e4.trans u5;by_cases c3:N2=0
   ·have q3:(N2 !=0)=false:=by rw[c3];rfl
    have L5:=uJ.of (B.ext e5);have n31:r31∉w::Fd:=λhm=>(H.ext e4).known r31 hm hr31;have n31':r31≠w∧r31∉Fd:=by simpa using n31
    have b0:eA h5 ⟨r31,0,none⟩=some (.int .u64 (N1.gen:Int)):=B5.cell 0;rw[if_neg (λe=>e c3)] at eW;simp only[fZ,q3,iL (B1.ext e5),fH.f0,fQ.f0,hZ.load,L5.disk,fM.f0,(D.ext e5).geo,dR.f0,dN.load,b0,iL (B3.ext e5),dF,reduceIte,dM,Nat.reduceAdd];refine aFF d λh6 u6=>?_;have e6:=e5.trans u6;have b0':eA h6 ⟨r31,0,none⟩=some (.int .u64 (N1.gen:Int)):=(B5.ext u6).cell 0;refine⟨iL (B3.ext e6),b0',?_⟩;refine aQA d.size N1.gen 0 s hz hng (by decide) hs λh7 v G O7 f7 u7=>?_;have e7:=e6.trans u7;have L7:=uJ.of (B.ext e7);have B7:=(B5.ext u6).ext u7;have b1:eA h7 ⟨r31,0+1,none⟩=some (.int .i64 (N1.seg:Int)):=B7.cell 1;simp only[iL (B1.ext e7),fH.f0,L7.st,dR.f1,aR.load,b1,dF,reduceIte,dM,Nat.reduceAdd];refine aNy (D.ext e7) (by omega) N1.seg hns λh8 u8=>?_;have e8:=e7.trans u8;have L8:=uJ.of (B.ext e8);refine⟨L8.st,iL (B1.ext e8),?_⟩;have fl:(hY d.size N1.gen 0 s).length=fD d.size s.length:=kQ ..;have hfit:=zH d h4 hns;have dG:∀b∈G,b∉Fd:=λb hb hf=>D.known b hf (e6.none (f7 b hb));refine aLi (D.ext e8) (d.base N1.seg) (by omega) (O7.ext u8) dG (by omega) λh9 F9 D9 s9=>?_;obtain⟨B9,n9⟩:=(B.ext e8).step s9 n1;have st9:fT h (w::Fd) h9 (w::F9):=(fT.ext e8).trans (fT.in n1 s9);obtain⟨C1,m1'⟩:=(B1.ext e8).step s9 hm1.2;obtain⟨C3,m3'⟩:=(B3.ext e8).step s9 hm3.2;obtain⟨Bn,mn⟩:=(B7.ext u8).step s9 n31'.2;have hpo:=qV (hY d.size N1.gen 0 s) D.ok (d.base N1.seg);have hpb:=aCK (hY d.size N1.gen 0 s) d (d.base N1.seg);have hd':jZ d (d.base N1.seg) (hY d.size N1.gen 0 s)=nI d N1 s:=rfl;rw[hd'] at D9 hpo hpb ⊢;by_cases c4:(nI d N1 s).2=0
    ·have q4:((nI d N1 s).2 !=0)=false:=by rw[c4];rfl
     rw[if_neg (λe=>e c4)] at eW;have L9:=uJ.of B9;simp only[fZ,q4,iL C1,fH.f0,fQ.f0,hZ.load,L9.disk,fM.f0,D9.geo,wP Bn,dF,reduceIte,dM,Nat.reduceAdd];refine aFF _ λh10 u10=>?_;refine⟨wP (Bn.ext u10),?_⟩;refine aPs (nI d N1 s).1.size N1 hng (by omega) λh11 u11=>?_;have e11:=u10.trans u11;have L11:=uJ.of (B9.ext e11);rw[hpo.2.1];have hsl:=H.ok.slot;have w1:IntKind.i64.wrap ((1:Int)-(x.slot:Int))=((1-x.slot:Nat):Int):=by rw[fW (by omega) (by omega)];omega
     simp only[iL (C1.ext e11),fH.f0,L11.st,fH.f2,aR.load,L11.slot,w1,aGo,dF,reduceIte,dM,Nat.reduceAdd];intro r92 hr92;refine jC ?_
     try rw[dY]
     have O12:=aG7 (h:=h11) (r:=r92) (gY d.size N1).1;have u12:eM h11 (h11.set r92 (.cells #[.string (tx (gY d.size N1).1)] aT)):=eH.new hr92;generalize h11.set r92 (.cells #[.string (tx (gY d.size N1).1)] aT)=h12 at *;have e12:=e11.trans u12;have n92:∀b∈[r92],b∉F9:=λb hb hf=>by
      simp only[jI] at hb;rw[hb] at hf;exact D9.known r92 hf (e11.none hr92)
     refine aLi (D9.ext e12) (1-x.slot) (by omega) O12 n92 (by simp only[jY,lU];omega) λh13 F13 D13 s13=>?_;obtain⟨B13,n13⟩:=(B9.ext e12).step s13 n9;have st13:fT h (w::Fd) h13 (w::F13):=(st9.trans (fT.ext e12)).trans (fT.in n9 s13);obtain⟨E1,-⟩:=(C1.ext e12).step s13 m1';obtain⟨En,-⟩:=(Bn.ext e12).step s13 mn;have hpo2:=qV [(gY d.size N1).1] hpo.1 (1-x.slot);obtain⟨P,hP⟩:∃P,jZ (nI d N1 s).1 (1-x.slot) [(gY d.size N1).1]=P:=⟨_,rfl⟩;rw[hP] at D13 hpo2 eW ⊢;have geo:P.1.sectors=d.sectors:=hpo2.2.2.1.trans hpo.2.2.1;by_cases c5:P.2=0
     ·have q5:(P.2 !=0)=false:=by rw[c5];rfl
      rw[if_neg (λe=>e c5)] at eW;have L13:=uJ.of B13;simp only[fZ,q5,iL E1,fH.f1,fH.f2,fH.f3,fH.f4,fH.f5,wP En,aR.load,L13.slot,w1,dF,reduceIte,dM,Nat.reduceAdd];refine dR.put B13 (vs:=N1.cells) (o:=1) rfl (by show 1+2≤8;decide) N1.isC λh14 B14 u14=>?_;have nn:r1∉[w]:=by simpa using hm1.1
      have E14:=iL (E1.upd u14 nn);refine⟨E14,E14,E14,E14,?_⟩;refine aR.put B14 (o:=3) (by show 3<8;decide) rfl λh15 B15 u15=>?_;have E15:=iL ((E1.upd u14 nn).upd u15 nn);refine⟨E15,E15,E15,?_⟩;refine aR.put B15 (o:=4) (by show 4<8;decide) rfl λh16 B16 u16=>?_;have E16:=iL (((E1.upd u14 nn).upd u15 nn).upd u16 nn);refine⟨E16,E16,?_⟩;refine dN.put B16 (o:=5) (by show 5<8;decide) rfl λh17 B17 u17=>?_;have E17:=iL ((((E1.upd u14 nn).upd u15 nn).upd u16 nn).upd u17 nn);refine⟨E17,?_⟩;refine iI.put B17 (o:=6) (by show 6<8;decide) rfl λh18 B18 u18=>?_;have B18:Bx h18 w (Wl.cells a ⟨N1,1-x.slot,fD d.size s.length,1,true,x.broken⟩):=B18;rw[hx] at B18;have uu:=(((u14.trans u15).trans u16).trans u17).trans u18;have hwo:=H.ok.check s;rw[eW] at hwo;refine hk h18 (w::F13) P.1 ⟨N1,1-x.slot,fD d.size s.length,1,true,false⟩ 0 ⟨⟨F13,rfl,B18,D13.upd uu (lL n13),n13⟩,hwo.1,by show 1≤fD d.size s.length;omega,hng⟩ ⟨st13.upd.trans (uu.mono λb hb=>.inl (by simp only[jI] at hb;simp[hb])),st13.grow⟩ ?_;rw[eW];rfl
     ·have q5:(P.2 !=0)=true:=bne_iff_ne.2 c5;rw[if_pos c5] at eW;simp only[fZ,q5,dF,reduceIte,dM,Nat.reduceAdd];exact hk h13 (w::F13) P.1 x P.2 ⟨⟨F13,rfl,B13,D13,n13⟩,H.ok.to hpo2.1 geo,H.ser,H.gen⟩ st13 eW
    ·have q4:((nI d N1 s).2 !=0)=true:=bne_iff_ne.2 c4;rw[if_pos c4] at eW;simp only[fZ,q4,dF,reduceIte,dM,Nat.reduceAdd];exact hk h9 (w::F9) (nI d N1 s).1 x (nI d N1 s).2 ⟨⟨F9,rfl,B9,D9,n9⟩,H.ok.to hpo.1 hpo.2.2.1,H.ser,H.gen⟩ st9 eW
   ·have q3:(N2 !=0)=true:=bne_iff_ne.2 c3;rw[if_pos c3] at eW;simp only[fZ,q3,dF,reduceIte,dM,Nat.reduceAdd];exact hk h5 _ d x N2 (H.ext e5) (fT.ext e5) eW
def aO0{h:PH}{a w:Nat}{d:Dk}{x:Wl}{F:List Nat}(H:yZ a w d x h F)(s:Tx)(hs:s.length≤1000000)(hb:d.buf.length≤980000){k:dI}
  (hk:∀h' F',yZ a w (iE d x s).1 (iE d x s).2.1 h' F'->fT h F h' F'->k (.int .i64 (iE d x s).2.2) h'):bR PG wN #[pT w 0,.string (tx s)] h k:=by
 apply aAf.call;unfold aAf;intro r1 hr1
 try rw[dY]
 have u1:eM h (h.set r1 (.cells (Value.cells (pT w 0)) fU)):=eH.new hr1;have B1:Bx (h.set r1 (.cells (Value.cells (pT w 0)) fU)) r1 [pT w 0]:=Bx.new;generalize h.set r1 (.cells (Value.cells (pT w 0)) fU)=h1 at *;intro r3 hr3
 try rw[dY]
 have u3:eM h1 (h1.set r3 (.cells (Value.cells (.string (tx s))) aT)):=eH.new hr3;have B3:Bx (h1.set r3 (.cells (Value.cells (.string (tx s))) aT)) r3 [.string (tx s)]:=Bx.new;generalize h1.set r3 (.cells (Value.cells (.string (tx s))) aT)=h3 at *;have e3:=u1.trans u3;have m1:r1∉F:=λhm=>H.known r1 hm hr1;have m3:r3∉F:=λhm=>(H.ext u1).known r3 hm hr3;simp only[fU.load,iL (B1.ext u3),aEQ,dF,reduceIte,dM,Nat.reduceAdd];refine aTF (Q:=λd' x' e=>iE d x s=(d',x'.brk e,e)) (H.ext e3) (λhx k' hk'=>?_) (λhx=>?_) (λhx h' F' d' x' e H' st q=>?_)
 ·exact aSI (H.ext e3) hx s hs (by omega) (B1.ext u3) B3 m1 m3 hk'
 ·have e:iE d x s=(d,x,14):=by unfold iE;rw[if_pos hx]
  rw[e] at hk;exact hk h3 F (H.ext e3) (fT.ext e3)
 ·rw[q] at hk;exact hk h' F' H' ((fT.ext e3).trans st)
def aPV{room:Int}:∀(l:List Tx) (st:Dm×Int),(st.2=0->OkD st.1 room∧st.1.wf)->(l.foldl (nS room) st).2=0->OkD (l.foldl (nS room) st).1 room∧(l.foldl (nS room) st).1.wf
 | [],st,h,h0=>h h0
 | s::l,st,h,h0=>by
  rw[zLt] at h0 ⊢;refine aPV l _ (λe=>?_) h0;unfold nS at e ⊢;split
  ·rename_i c;rw[if_pos c] at e;split
   ·rename_i c2;rw[if_pos c2] at e;exact⟨(aEp e).2.2.1,aJp e (h c).2 (aKX s)⟩
   ·rename_i c2;rw[if_neg c2] at e;exact absurd e c2
  ·rename_i c;rw[if_neg c] at e;exact absurd e c
def aWc{room:Int}{l:List Tx}(h:(zS room l).2=0):OkD (zS room l).1 room∧(zS room l).1.wf:=by
 cases l with
 | nil=>exact absurd h (by show(3:Int)≠0;decide)
 | cons s l=>
  have e0:zS room (s::l)=if (l.foldl (nS room) (mW room s)).2≠0 then(Dm.zero,(l.foldl (nS room) (mW room s)).2) else l.foldl (nS room) (mW room s):=rfl
  rw[e0] at h ⊢;split at h
  ·rename_i c;exact absurd h c
  ·rename_i c;rw[if_neg c];refine aPV l _ (λe=>?_) h;unfold mW at e ⊢;split at e
   ·rename_i a;exact absurd e a
   ·rename_i a;split at e
    ·cases e
    ·rename_i b;split at e
     ·rename_i d;exact absurd e d
     ·rename_i d;rw[if_neg a,if_neg b,if_neg d];exact⟨aEN.1 (Classical.not_not.1 d),(aKX s).s⟩
def aOc{room:Int}{s0:Dm}{l:List Tx}(h0:chk s0 room=0)(w0:s0.wf)(h:(mH room s0 l).2=0):OkD (mH room s0 l).1 room∧(mH room s0 l).1.wf:=by
 unfold mH at h ⊢;split
 ·exact⟨aEN.1 h0,w0⟩
 ·rename_i c;rw[if_neg c] at h;exact aWc h
def aVT{st:List Tx}{i:Nat}(h:i<st.length):st.getD i []∈st:=by
 rw[aCz,lG h];exact aIQ h
def nZ(v:Value)(n:Nat):List Nat:=if n=0 then [] else match v with | .slice (some a) _ _=>[a.block]|_=>[]
def nZ.mem{v:Value}{n b:Nat}(h:b∈nZ v n):n≠0∧∃a m c,v= .slice (some a) m c∧b=a.block:=by
 unfold nZ at h;split at h
 ·cases h
 ·rename_i c;split at h
  ·rename_i a m c';simp only[jI] at h;exact⟨c,a,m,c',rfl,h⟩
  ·cases h
def nZ.new{h:PH}{v:Value}{n b:Nat}(H:jV h v)(hb:b∈nZ v n):h b=none:=by
 obtain⟨-,a,m,c,e,rfl⟩:=nZ.mem hb;exact H a m c e
def aGy{h:PH}{v:Value}{l:List It}(S:kV h v l):∀b∈nZ v l.length,h b≠none:=by
 intro b hb;obtain⟨h0,a,m,c,e,rfl⟩:=nZ.mem hb;exact jE.known S (by intro e;apply h0;have:=congrArg List.length e;simpa using this) e
def aGU{h h':PH}{v:Value}{l:List It}{K:List Nat}(S:kV h v l)(u:eH K h h')(hK:∀b∈nZ v l.length,b∉K):kV h' v l:=by
 refine jE.upd0 S u λhne a n c e=>hK a.block ?_;unfold nZ;rw[if_neg (by intro e0;apply hne;rw[zLN e0];rfl),e];simp
def aDW{h h':PH}{v:Value}{l:List It}{F F':List Nat}(S:kV h v l)(s:fT h F h' F')(hd:∀b∈nZ v l.length,b∉F):kV h' v l∧∀b∈nZ v l.length,b∉F':=
 ⟨aGU S s.upd hd,λb hb hm=>by
  rcases s.grow b hm with e|e
  ·exact hd b hb e
  ·exact aGy S b hb e⟩
def Jn.cells(w:Nat)(x:Jn)(iv:Value):List Value:=[pT w 0,.int .i64 x.room,.int .u64 x.s.p0.h,.int .i64 x.s.p0.i,.int .u64 x.s.p1.h,.int .i64 x.s.p1.i,iv]
structure yY(a w j:Nat)(d:Dk)(x:Jn)(h:PH)(F:List Nat):Prop where
 here:∃Fw iv,F=j::(nZ iv x.s.its.length++Fw)∧Bx h j (x.cells w iv)∧yZ a w d x.w h Fw∧kV h iv x.s.its∧j∉Fw∧j∉nZ iv x.s.its.length∧∀b∈nZ iv x.s.its.length,b∉Fw
 ok:OkD x.s x.room
 wf:x.s.wf
def yY.known{a w j:Nat}{d:Dk}{x:Jn}{h:PH}{F:List Nat}(H:yY a w j d x h F):∀b∈F,h b≠none:=by
 obtain⟨Fw,iv,rfl,B,W,S,-⟩:=H.here;intro b hb;simp only[jW,wQ] at hb;rcases hb with rfl|hb|hb
 ·exact B.known
 ·exact aGy S b hb
 ·exact W.known b hb
def yY.upd{a w j:Nat}{d:Dk}{x:Jn}{h h':PH}{F K:List Nat}(H:yY a w j d x h F)(u:eH K h h')(hK:∀b∈F,b∉K):yY a w j d x h' F:=by
 obtain⟨Fw,iv,rfl,B,W,S,n⟩:=H.here;exact⟨⟨Fw,iv,rfl,B.upd u (hK j (by simp)),W.upd u (λb hb=>hK b (by simp[hb])),aGU S u (λb hb=>hK b (by simp[hb])),n⟩,H.ok,H.wf⟩
def yY.good(a w j:Nat)(d:Dk)(x:Jn):aIu (yY a w j d x):=⟨λH=>H.known,λH u hK=>H.upd u hK⟩
def yY.ext{a w j:Nat}{d:Dk}{x:Jn}{h h':PH}{F:List Nat}(H:yY a w j d x h F)(u:eM h h'):yY a w j d x h' F:=(yY.good a w j d x).ext H u
def aQx(s:Dm)(b:Option Addr)(n c:Nat):dE PG (build bT #[(0,.int .i64 1),(1,s.v (.slice b n c))])=some ((nX s).v (.slice b n c) (.slice none 0 0)):=by kernel_rfl
def aWq(s:Dm)(b:Option Addr)(n c:Nat):dE PG (build cR #[(0,mP s.p0 s.p1),(1,.slice b n c)])=some (s.v (.slice b n c)):=by kernel_rfl
def aRH(ch:Int)(q:Pl)(ns:List Nt)(b:Option Addr)(n c:Nat):dE PG (build bT #[(0,.int .i64 2),(2,.int .i64 ch),(3,.agg q.cells.toArray),(4,.slice b n c)])=some ((iN ch q ns).v (.slice none 0 0) (.slice b n c)):=by kernel_rfl
def sZ{h:PH}{v:Value}{n:Nat}{l:List (List Value)}(S:jE h n v l):∃b m c,v= .slice b m c:=by
 obtain⟨b,c,e,-⟩:=S.here;exact⟨b,_,c,e⟩
def aOj{h:PH}{s:Dm}{iv:Value}(S:kV h iv s.its)(wf:s.wf){k:dI}(hk:∀h',eM h h'->k (.string (tx (mA s))) h'):bR PG aCD #[s.v iv] h k:=by
 apply aEb.call;unfold aEb;intro r1 hr1
 try rw[dY]
 have u1:eM h (h.set r1 (.cells (Value.cells (s.v iv)) cR)):=eH.new hr1;have B1:Bx (h.set r1 (.cells (Value.cells (s.v iv)) cR)) r1 (s.cells iv):=Bx.new;generalize h.set r1 (.cells (Value.cells (s.v iv)) cR)=h1 at *;have l1:dH PG h1 (loadAt cR (pT r1 0))=some (s.v iv):=cR.agg B1 (by show 0+5≤5;decide);obtain⟨b,m,c,rfl⟩:=sZ S;simp only[l1,aQx,dF,reduceIte,dM,Nat.reduceAdd];refine aMQ (r:=nX s) (S.ext u1) (fY.nil (e:=dP)).slR (aMV wf) λh2 u2=>?_;simp only[dF,reduceIte,dM,Nat.reduceAdd];exact hk h2 (u1.trans u2)
structure JlB(w j:Nat)(x:Jn)(iv:Value)(h:PH):Prop where
 wal:eA h ⟨j,0,none⟩=some (pT w 0)
 room:eA h ⟨j,0+1,none⟩=some (.int .i64 x.room)
 st:dH PG h (loadAt cR (pT j (0+2)))=some (x.s.v iv)
 pl:dH PG h (loadAt eD (pT j (0+2)))=some (mP x.s.p0 x.s.p1)
 its:eA h ⟨j,0+2+4,none⟩=some iv
def JlB.of{w j:Nat}{x:Jn}{iv:Value}{h:PH}(B:Bx h j (x.cells w iv)):JlB w j x iv h:=
 ⟨B.cell 0,B.cell 1,cR.agg B (by show 0+2+5≤7;decide),eD.agg B (by show 0+2+4≤7;decide),B.cell 6⟩
def aTG{h:PH}{w j:Nat}{a:Nat}{x:Jn}{iv:Value}(L:JlB w j x iv h)(W:uJ a w x.w h){k:dI}(hk:k (.bool x.w.broken) h):bR PG nT #[pT j 0] h k:=by
 apply vQ.call;unfold vQ;simp only[gS.f0,fU.load,L.wal,dF,reduceIte,dM,Nat.reduceAdd];exact aTW W hk
def yY.halted{a w j:Nat}{d:Dk}{x:Jn}{h:PH}{F:List Nat}(H:yY a w j d x h F){k:dI}(hk:k (.bool x.w.broken) h):bR PG nT #[pT j 0] h k:=by
 obtain⟨Fw,iv,rfl,B,W,S,-⟩:=H.here;obtain⟨Fd,rfl,Bw,-⟩:=W.here;exact aTG (JlB.of B) (uJ.of Bw) hk
def aVH{h:PH}{a w j:Nat}{d:Dk}{x:Jn}{F:List Nat}(H:yY a w j d x h F){k:dI}(hk:∀h' v,kV h' v x.s.its->jV h v->eM h h'->k (x.s.v v) h'):bR PG qO #[pT j 0] h k:=by
 apply qH.call;unfold qH;obtain⟨Fw,iv,rfl,B,W,S,-⟩:=H.here;have hlen:=H.ok.len;have hr2:=H.ok.r2;intro r1 hr1
 try rw[dY]
 have Z1:=cR.zbox (h:=h) (r:=r1);have u1:eM h (h.set r1 (.cells (eX PG cR) cR)):=eH.new hr1;generalize h.set r1 (.cells (eX PG cR) cR)=h1 at *;have L:=JlB.of (B.ext u1);have f1:fX h [r1]:=fX.one hr1;simp only[gS.f2,cR.f0,cR.f1,L.pl,dC.load,L.its,dF,reduceIte,dM,Nat.reduceAdd];refine aON (S.ext u1) (by omega) λv2 h2 S2 N2 u2=>?_;have L2:=JlB.of ((B.ext u1).ext u2);obtain⟨b,m,c,rfl⟩:=sZ S2;refine⟨L2.pl,?_⟩;have hb:dE PG (build cR #[(0,mP x.s.p0 x.s.p1),(1,.slice b m c)])=some (x.s.v (.slice b m c)):=by
  exact aWq x.s b m c
 simp only[hb,dF,reduceIte,dM,Nat.reduceAdd];have Zx:=Z1.ext u2;refine cR.put Zx (vs:=x.s.cells (.slice b m c)) (o:=0) rfl (by show 0+5≤5;decide) (by simp[Dm.cells,gN]) λh3 B3 u3=>?_;have l3:dH PG h3 (loadAt cR (pT r1 0))=some (x.s.v (.slice b m c)):=cR.agg (cs:=x.s.cells (.slice b m c)) B3 (by show 0+5≤5;decide);simp only[l3,dF,reduceIte,dM,Nat.reduceAdd];have N:∀a' n' c',Value.slice b m c= .slice (some a') n' c'->a'.block∉[r1]:=λa' n' c' e hm=>by
  simp only[jI] at hm;exact Z1.known (hm▸N2 a' n' c' e)
 exact hk h3 _ (S2.upd u3 N) (N2.of u1) ((u1.trans u2).fresh u3 f1)
def aVd{h0 h:PH}{a w j r:Nat}{d':Dk}{x:Jn}{w':Wl}{iv v':Value}{nx:Dm}{F0 Fw:List Nat}{e:Int}(B:Bx h j (x.cells w iv))(S:kV h iv x.s.its)(W:yZ a w d' w' h Fw)(B2:Bx h r (nx.cells v'))(S2:kV h v' nx.its)
  (n1:j∉Fw) (n2:j∉nZ iv x.s.its.length) (n3:∀b∈nZ iv x.s.its.length,b∉Fw) (m2:j∉nZ v' nx.its.length) (m3:∀b∈nZ v' nx.its.length,b∉Fw) (m4:∀b∈nZ v' nx.its.length,b∈F0∨h0 b=none)
  (st:fT h0 F0 h (j::(nZ iv x.s.its.length++Fw))) (ok:OkD x.s x.room) (wf:x.s.wf) (ok2:e=0->OkD nx x.room) (wf2:e=0->nx.wf) {k:dI}
  (hk:∀h' F',yY a w j d' ⟨w',x.room,if e=0 then nx else x.s⟩ h' F'->fT h0 F0 h' F'->k (.int .i64 e) h'):qR k (pT j 0) (pT r 0) (.int .i64 e) h:=by
 unfold qR;by_cases c:e=0
 ·have q:(e==0)=true:=by rw[c];rfl
  have l2:dH PG h (loadAt cR (pT r 0))=some (nx.v v'):=cR.agg B2 (by show 0+5≤5;decide);obtain⟨b,m,c',rfl⟩:=sZ S2;simp only[gX,q,l2,gS.f2,dF,reduceIte,dM,Nat.reduceAdd];refine cR.put B (vs:=nx.cells (.slice b m c')) (o:=2) rfl (by show 2+5≤7;decide) (by simp[Dm.cells,gN]) λh3 B3 u3=>?_;unfold tV;have B3:Bx h3 j (Jn.cells w ⟨w',x.room,nx⟩ (.slice b m c')):=B3;rw[if_pos c] at hk;refine hk h3 (j::(nZ (.slice b m c') nx.its.length++Fw)) ⟨⟨Fw,_,rfl,B3,W.upd u3 (lL n1),aGU S2 u3 (lL m2),n1,m2,m3⟩,ok2 c,wf2 c⟩ ⟨?_,λb hb=>?_⟩
  ·exact st.upd.then u3 (λb hb=>by
    simp only[jI] at hb;exact st.grow b (by rw[hb];simp))
  ·simp only[jW,wQ] at hb;rcases hb with rfl|hb|hb
   ·exact st.grow _ (by simp)
   ·exact m4 b hb
   ·exact st.grow b (by simp[hb])
 ·have q:(e==0)=false:=by rw[beq_eq_false_iff_ne];exact c
  rw[if_neg c] at hk;simp only[gX,q,dF,reduceIte,dM,Nat.reduceAdd];unfold tV;exact hk h _ ⟨⟨Fw,iv,rfl,B,W,S,n1,n2,n3⟩,ok,wf⟩ st
def aCp{r:Rc}(wf:zJ r):r.bytes.1.length≤4096:=by
 rcases aAd r with⟨-,b⟩|⟨a,-⟩
 ·rw[b];exact aIm wf
 ·exact absurd wf a
def aVG{h:PH}{a w j:Nat}{d:Dk}{x:Jn}{F:List Nat}{vn:Value}{ns:List Nt}(H:yY a w j d x h F)(ch:Int)(q:Pl)(hq:q.wf)(N:wX h vn ns)(hn:∀y∈ns,y.p.wf)(hb:d.buf.length≤900000){k:dI}
  (hk:∀h' F',yY a w j (pK d x ch q ns).1 (pK d x ch q ns).2.1 h' F'->fT h F h' F'->k (.int .i64 (pK d x ch q ns).2.2) h'):bR PG rO #[pT j 0,.int .i64 ch,.agg q.cells.toArray,vn] h k:=by
 apply qT.call;unfold qT;obtain⟨Fw,iv,eF,B,W,S,n1,n2,n3⟩:=id H.here;have hlen:=H.ok.len;have hr2:=H.ok.r2;have wfr:(iN ch q ns).wf:=⟨⟨Pl.wf_zero,Pl.wf_zero,by simp[iN,Dm.zero]⟩,hq,hn⟩;intro r1 hr1
 try rw[dY]
 have u1:eM h (h.set r1 (.cells (Value.cells (.agg q.cells.toArray)) dK)):=eH.new hr1;have B1:Bx (h.set r1 (.cells (Value.cells (.agg q.cells.toArray)) dK)) r1 q.cells:=Bx.new;generalize h.set r1 (.cells (Value.cells (.agg q.cells.toArray)) dK)=h1 at *;have H1:=H.ext u1;refine yY.halted H1 ?_;unfold pK at hk;cases hx:x.w.broken with
 | true=>
  rw[if_pos hx] at hk;simp only[dF,reduceIte,dM,Nat.reduceAdd];exact hk h1 F H1 (fT.ext u1)
 | false=>
  rw[if_neg (by rw[hx];decide)] at hk;have l1:dH PG h1 (loadAt dK (pT r1 0))=some (.agg q.cells.toArray):=dK.agg B1 (by show 0+2≤2;decide);obtain⟨bn,mn,cn,rfl⟩:=sZ N;simp only[l1,aRH ch q ns,dF,reduceIte,dM,Nat.reduceAdd];intro r7 hr7
  try rw[dY]
  refine bT.fill (vs:=(iN ch q ns).cells (.slice none 0 0) (.slice bn mn cn)) hr7 rfl (by simp[Rc.cells,gN]) λh2 B7 u2=>?_;have e2:=u1.trans u2;have L:=JlB.of (B.ext e2);have l7:dH PG h2 (loadAt bT (pT r7 0))=some ((iN ch q ns).v (.slice none 0 0) (.slice bn mn cn)):=bT.agg B7 (by show 0+10≤10;decide);simp only[gS.f1,gS.f2,L.st,aR.load,L.room,l7,dF,reduceIte,dM,Nat.reduceAdd];have nz:kV h2 (.slice none 0 0) (iN ch q ns).s.its:=(fY.nil (e:=dJ)).slR;refine aRb (r:=iN ch q ns) (S.ext e2) nz (N.ext e2) wfr (by omega) λh3 v' S3 N3 u3=>?_;have e3:=e2.trans u3;obtain⟨P,hP⟩:∃P,mS x.s x.room (iN ch q ns)=P:=⟨_,rfl⟩;have hgood:=aEp (d:=x.s) (room:=x.room) (r:=iN ch q ns);have hpwf:=aJp (d:=x.s) (room:=x.room) (r:=iN ch q ns);rw[hP] at hk S3 hgood hpwf ⊢;simp only[dF,reduceIte,dM,Nat.reduceAdd];intro r22 hr22
  try rw[dY]
  obtain⟨b',m',c',rfl⟩:=sZ S3;refine cR.fill (vs:=P.1.cells (.slice b' m' c')) hr22 rfl (by simp[Dm.cells,gN]) λh4 B22 u4=>?_;have e4:=e3.trans u4;by_cases c:P.2=0
  ·have qc:(P.2 !=0)=false:=by rw[c];rfl
   rw[if_neg (λe=>e c)] at hk;obtain⟨-,hrc,hok2,-⟩:=hgood c;have hwf2:=hpwf c H.wf wfr;have l7':dH PG h4 (loadAt bT (pT r7 0))=some ((iN ch q ns).v (.slice none 0 0) (.slice bn mn cn)):=bT.agg ((B7.ext u3).ext u4) (by show 0+10≤10;decide);simp only[fZ,qc,l7',dF,reduceIte,dM,Nat.reduceAdd];refine aMQ (r:=iN ch q ns) (fY.nil (e:=dJ)).slR (N.ext e4) wfr λh5 u5=>?_;have e5:=e4.trans u5;have L5:=JlB.of (B.ext e5);simp only[gS.f0,fU.load,L5.wal,jS,dF,reduceIte,dM,Nat.reduceAdd];have hsb:=aCp hrc;refine aRO (W.ext e5) _ (by omega) λh6 u6=>?_;have e6:=e5.trans u6;have L6:=JlB.of (B.ext e6);have W6:=W.ext e6;have S6:kV h6 (.slice b' m' c') P.1.its:=((S3.ext u4).ext u5).ext u6;have nb:∀b∈nZ (.slice b' m' c') P.1.its.length,h2 b=none:=λb hb=>nZ.new N3 hb;have d1:j∉nZ (.slice b' m' c') P.1.its.length:=λhm=>(B.ext e2).known (nb j hm);have d2:∀b∈nZ (.slice b' m' c') P.1.its.length,b∉Fw:=λb hb hf=>(W.ext e2).known b hf (nb b hb);have d3:∀b∈nZ (.slice b' m' c') P.1.its.length,h b=none:=λb hb=>e2.none (nb b hb);have fin:∀h7 Fw' d' w' e,yZ a w d' w' h7 Fw'->fT h6 Fw h7 Fw'->xY d x (iN ch q ns) P.1=(d',w',e)->qR k (pT j 0) (pT r22 0) (.int .i64 e) h7:=by
    intro h7 Fw' d' w' e W7 s7 eq;rw[eq] at hk;have r22F:r22∉Fw:=λhm=>(W.ext e3).known r22 hm hr22;obtain⟨B7',k1⟩:=(B.ext e6).step s7 n1;obtain⟨B22',-⟩:=((B22.ext u5).ext u6).step s7 r22F;obtain⟨S7,k2⟩:=aDW S6 s7 d2;obtain⟨S7',k3⟩:=aDW (S.ext e6) s7 n3;refine aVd (x:=x) B7' S7' W7 B22' S7 k1 n2 k3 d1 k2 (λb hb=>.inr (d3 b hb)) ?_ H.ok H.wf (λ_=>hok2) (λ_=>hwf2) hk;refine⟨?_,λb hb=>?_⟩
    ·exact e6.upd.then s7.upd (λb hb=>.inl (by rw[eF];simp[hb]))
    ·rw[eF];simp only[jW,wQ] at hb ⊢;rcases hb with rfl|hb|hb
     ·exact .inl (.inl rfl)
     ·exact .inl (.inr (.inl hb))
     ·rcases s7.grow b hb with e|e
      ·exact .inl (.inr (.inr e))
      ·exact .inr (e6.none e)
   unfold xY at fin;cases cf:fits d x.w (iN ch q ns).bytes.1.length with
   | true=>
    rw[if_pos cf] at fin;simp only[gS.f0,fU.load,L6.wal,dF,reduceIte,dM,Nat.reduceAdd];refine aSD W6 _ (by omega) (by omega) λh7 F7 W7 s7=>?_;exact fin h7 F7 _ _ _ W7 s7 rfl
   | false=>
    rw[if_neg (by rw[cf];decide)] at fin;have l22:dH PG h6 (loadAt cR (pT r22 0))=some (P.1.v (.slice b' m' c')):=cR.agg ((B22.ext u5).ext u6) (by show 0+5≤5;decide);simp only[gS.f0,fU.load,L6.wal,l22,dF,reduceIte,dM,Nat.reduceAdd];refine aOj S6 hwf2 λh7 u7=>?_;have L7:=JlB.of ((B.ext e6).ext u7);refine⟨L7.wal,?_⟩;have hsw:=aCp (aEm hok2);refine aO0 (W6.ext u7) _ (by unfold mA;omega) (by omega) λh8 F8 W8 s8=>?_;exact fin h8 F8 _ _ _ W8 ((fT.ext u7).trans s8) rfl
  ·have qc:(P.2 !=0)=true:=bne_iff_ne.2 c;rw[if_pos c] at hk;simp only[fZ,qc,dF,reduceIte,dM,Nat.reduceAdd];exact hk h4 F (H.ext e4) (fT.ext e4)
def aX2(w:Nat)(room:Int)(x:Wl)(s:Dm)(b:Option Addr)(n c:Nat):dE PG (build gS #[(0,pT w 0),(1,.int .i64 room),(2,s.v (.slice b n c))])=some (.agg (Jn.cells w ⟨x,room,s⟩ (.slice b n c)).toArray):=by kernel_rfl
def aQy(p q:Pl):dE PG (build cR #[(0,mP p q)])=some (Dm.v ⟨p,q,[]⟩ (.slice none 0 0)):=by kernel_rfl
def aQY{h0 h:PH}{a w r:Nat}{d:Dk}{x:Wl}{F0 Fw:List Nat}{room:Int}{s:Dm}{iv:Value}(W:yZ a w d x h Fw)(B:Bx h r (s.cells iv))(S:kV h iv s.its)(n1:∀b∈nZ iv s.its.length,b∉Fw)(rF:r∉Fw)(m4:∀b∈nZ iv s.its.length,b∈F0∨h0 b=none)
  (st:fT h0 F0 h Fw) (ok:OkD s room) (wf:s.wf) (hb:d.buf.length≤900000) {k:dI}
  (bad:∀h' F',pD a (iE d x (mA s)).1 h' F'->fT h0 F0 h' F'->(iE d x (mA s)).2.2≠0->k (.tuple #[.pointer none,.int .i64 (iE d x (mA s)).2.2]) h')
  (hk:∀h' F' j,yY a w j (iE d x (mA s)).1 ⟨(iE d x (mA s)).2.1,room,s⟩ h' F'->fT h0 F0 h' F'->(iE d x (mA s)).2.2=0->k (.tuple #[pT j 0,.int .i64 0]) h'):aCf k (.int .i64 room) (pT r 0) (pT w 0) h:=by
 unfold aCf;have l1:dH PG h (loadAt cR (pT r 0))=some (s.v iv):=cR.agg B (by show 0+5≤5;decide);simp only[l1,dF,reduceIte,dM,Nat.reduceAdd];refine aOj S wf λh1 u1=>?_;have hsw:=aCp (aEm ok);refine aO0 (W.ext u1) _ (by unfold mA;omega) (by omega) λh2 F2 W2 s2=>?_;have st2:=st.trans ((fT.ext (F:=Fw) u1).trans s2);obtain⟨P,hP⟩:∃P,iE d x (mA s)=P:=⟨_,rfl⟩;rw[hP] at bad hk W2 ⊢;by_cases c:P.2.2=0
 ·have q:(P.2.2 !=0)=false:=by rw[c];rfl
  obtain⟨B2,-⟩:=(B.ext u1).step s2 rF;obtain⟨S2,k2⟩:=aDW (S.ext u1) s2 n1;have l2:dH PG h2 (loadAt cR (pT r 0))=some (s.v iv):=cR.agg B2 (by show 0+5≤5;decide);obtain⟨b,m,c',rfl⟩:=sZ S2;simp only[fZ,q,l2,aX2 w room P.2.1 s,dF,reduceIte,dM,Nat.reduceAdd];intro r37 hr37
  try rw[dY]
  have u3:eM h2 (h2.set r37 (.cells (Value.cells (.agg (Jn.cells w ⟨P.2.1,room,s⟩ (.slice b m c')).toArray)) gS)):=eH.new hr37;have B3:Bx (h2.set r37 (.cells (Value.cells (.agg (Jn.cells w ⟨P.2.1,room,s⟩ (.slice b m c')).toArray)) gS)) r37 (Jn.cells w ⟨P.2.1,room,s⟩ (.slice b m c')):=Bx.new;generalize h2.set r37 (.cells (Value.cells (.agg (Jn.cells w ⟨P.2.1,room,s⟩ (.slice b m c')).toArray)) gS)=h3 at *;refine hk h3 (r37::(nZ (.slice b m c') s.its.length++F2)) r37 ⟨⟨F2,_,rfl,B3,W2.ext u3,S2.ext u3,λhm=>W2.known r37 hm hr37,λhm=>aGy S2 r37 hm hr37,k2⟩,ok,wf⟩ ⟨st2.upd.trans u3.upd,λb hb=>?_⟩ c;simp only[jW,wQ] at hb;rcases hb with rfl|hb|hb
  ·exact st2.none hr37
  ·exact m4 b hb
  ·exact st2.grow b hb
 ·have q:(P.2.2 !=0)=true:=bne_iff_ne.2 c;simp only[fZ,q,dF,reduceIte,dM,Nat.reduceAdd];obtain⟨Fd,eF,-,D2,-⟩:=W2.here;exact bad h2 Fd D2 ⟨st2.upd,λb hb=>st2.grow b (by rw[eF];simp[hb])⟩ c
def aJT{d:Dk}(H:d.Ok):(gQ d).2.1.2.length≤d.segs:=by
 have key:∀(d':Dk) (hd:Hd) (slot:Nat),d'.sectors=d.sectors->(aA7 d' hd slot).2.length≤d.segs:=λd' hd slot e=>by
  have h1:=aJx (size:=d'.size) (gen:=hd.gen) (d'.segs+1) (d'.secs (d'.base hd.seg) d'.segs) 0;have h2:=aI6 (size:=d'.size) (gen:=hd.gen) (d'.segs+1) (d'.secs (d'.base hd.seg) d'.segs) 0;rw[Dk.secs_len] at h1;have:=aIM (d:=d) (d':=d') e;show(lF d'.size hd.gen (d'.segs+1) (d'.secs (d'.base hd.seg) d'.segs) 0).1.length≤_;omega
 unfold gQ;split
 ·exact mK _
 ·split
  ·exact mK _
  ·split
   ·split
    ·exact mK _
    ·exact key _ _ _ (((qV _ H.fl 1).2.2.1).trans d.fl_geo.2)
   ·exact key _ _ _ d.fl_geo.2
def aTf(d:Dk):d.fl.1.buf.length≤d.buf.length:=by
 unfold Dk.fl;split
 ·exact nQ _
 ·exact mK _
def aJd(d:Dk):(gQ d).1.buf.length≤d.buf.length+1:=by
 have hf:=aTf d;have hp:=aCK [(gY d.size ⟨1,0⟩).1] d.fl.1 1;simp only[jY,lU] at hp;unfold gQ;split
 ·show d.buf.length≤_;omega
 ·split
  ·show d.fl.1.buf.length≤_;omega
  ·split
   ·split
    ·show(jZ d.fl.1 1 [(gY d.size ⟨1,0⟩).1]).1.buf.length≤_;omega
    ·show(jZ d.fl.1 1 [(gY d.size ⟨1,0⟩).1]).1.buf.length≤_;omega
   ·show d.fl.1.buf.length≤_;omega
def aVN{h:PH}{a:Nat}{d:Dk}{F:List Nat}(D:pD a d h F)(room:Int)(p q:Pl)(wp:p.wf)(wq:q.wf)(hs:d.sectors≤1000)(hb:d.buf.length≤800000){k:dI}
  (bad:∀h' F',pD a (jP d room p q).1 h' F'->fT h F h' F'->(jP d room p q).2.2≠0->k (.tuple #[.pointer none,.int .i64 (jP d room p q).2.2]) h')
  (hk:∀h' F' w j,yY a w j (jP d room p q).1 (jP d room p q).2.1 h' F'->fT h F h' F'->(jP d room p q).2.2=0->k (.tuple #[pT j 0,.int .i64 0]) h'):bR PG aDN #[pT a 0,.int .i64 room,mP p q] h k:=by
 apply aFU.call;unfold aFU;intro r1 hr1
 try rw[dY]
 have u1:eM h (h.set r1 (.cells (Value.cells (mP p q)) eD)):=eH.new hr1;have B1:Bx (h.set r1 (.cells (Value.cells (mP p q)) eD)) r1 (p.cells++q.cells):=Bx.new;generalize h.set r1 (.cells (Value.cells (mP p q)) eD)=h1 at *;have l1:dH PG h1 (loadAt eD (pT r1 0))=some (mP p q):=eD.agg B1 (by show 0+4≤4;decide);simp only[l1,aQy,dF,reduceIte,dM,Nat.reduceAdd];intro r5 hr5
 try rw[dY]
 refine cR.fill (vs:=Dm.cells ⟨p,q,[]⟩ (.slice none 0 0)) hr5 rfl (by simp[Dm.cells,gN]) λh2 B2 u2=>?_;have e2:=u1.trans u2;have l2:dH PG h2 (loadAt cR (pT r5 0))=some (Dm.v ⟨p,q,[]⟩ (.slice none 0 0)):=cR.agg B2 (by show 0+5≤5;decide);have r5F:r5∉F:=λhm=>(D.ext u1).known r5 hm hr5;simp only[l2,dF,reduceIte,dM,Nat.reduceAdd];have nz:∀{h:PH},kV h (.slice none 0 0) (⟨p,q,[]⟩:Dm).its:=(fY.nil (e:=dJ)).slR;refine aKO (d:=⟨p,q,[]⟩) nz (by simp) λh3 u3=>?_;have e3:=e2.trans u3;unfold jP at bad hk;have wf0:(⟨p,q,[]⟩:Dm).wf:=⟨wp,wq,by simp⟩;by_cases c:chk ⟨p,q,[]⟩ room=0
 ·have qc:(chk ⟨p,q,[]⟩ room !=0)=false:=by rw[c];rfl
  rw[if_neg (λe=>e c)] at bad hk;simp only[fZ,qc,dF,reduceIte,dM,Nat.reduceAdd];refine aVb (D.ext e3) (by omega) (λh4 F4 D4 s4 ne=>?_) (λh4 F4 w v G W4 O4 dj s4 e0=>?_)
  ·have q4:((gQ d).2.2 !=0)=true:=bne_iff_ne.2 ne;rw[if_pos ne] at bad;simp only[fZ,q4,dF,reduceIte,dM,Nat.reduceAdd];exact bad h4 F4 D4 ((fT.ext e3).trans s4) ne
  ·have q4:((0:Int) !=0)=false:=rfl;rw[if_neg (λe=>e e0)] at bad hk;have hfw:=aJT D.ok;have hbw:=aJd d;have hsg:d.segs≤1000:=by unfold Dk.segs;omega
   have st4:=(fT.ext (F:=F) e3).trans s4;obtain⟨B4,r54⟩:=(B2.ext u3).step s4 r5F;have r5w:r5∉F4:=λhm=>r54 (by simp[hm]);have st4':fT h F h4 F4:=⟨st4.upd,λb hb=>st4.grow b (by simp[hb])⟩;have hmay:=aOc (room:=room) (s0:=⟨p,q,[]⟩) (l:=(gQ d).2.1.2) c wf0;obtain⟨l,hl⟩:∃l,(gQ d).2.1.2=l:=⟨_,rfl⟩;rw[hl] at bad hk O4 hfw hmay;have lv:=uM O4.slR;by_cases c0:l=[]
   ·have es:mH room ⟨p,q,[]⟩ l=(⟨p,q,[]⟩,0):=by unfold mH;rw[if_pos c0]
    rw[es] at bad hk hmay;rw[if_neg (λe=>e rfl)] at bad hk;have g:((0:Int)<(l.length:Int))=False:=eq_false (by rw[c0];simp);simp only[fZ,q4,lv,g,dF,reduceIte,dM,Nat.reduceAdd];refine aQY (h0:=h) (F0:=F) W4 B4 nz (λb hb=>by cases hb) r5w (λb hb=>by cases hb) st4' (hmay rfl).1 wf0 (by omega) (λh' F' D' st ne=>?_) (λh' F' j J st e=>?_)
    ·rw[if_pos ne] at bad;exact bad h' F' D' st ne
    ·rw[if_neg (λx=>x e)] at hk;exact hk h' F' w j J st rfl
   ·have es:mH room ⟨p,q,[]⟩ l=zS room l:=by unfold mH;rw[if_neg c0]
    rw[es] at bad hk hmay;have hpos:0<l.length:=aKL.2 c0;have g:((0:Int)<(l.length:Int))=True:=eq_true (by omega);simp only[fZ,q4,lv,g,dF,reduceIte,dM,Nat.reduceAdd];refine aTr O4.slR (by omega) λh5 v5 S5 N5 u5=>?_;obtain⟨R,hR⟩:∃R,zS room l=R:=⟨_,rfl⟩;rw[hR] at bad hk hmay S5 ⊢;simp only[dF,reduceIte,dM,Nat.reduceAdd];have B5:=B4.ext u5;obtain⟨b',m',c',rfl⟩:=sZ S5;refine cR.put B5 (vs:=R.1.cells (.slice b' m' c')) (o:=0) rfl (by show 0+5≤5;decide) (by simp[Dm.cells,gN]) λh6 B6 u6=>?_;have W6:=(W4.ext u5).upd u6 (lL r5w);have m5:∀b∈nZ (.slice b' m' c') R.1.its.length,h4 b=none:=λb hb=>nZ.new N5 hb;have r5s:r5∉nZ (.slice b' m' c') R.1.its.length:=λhm=>B4.known (m5 r5 hm);have S6:=aGU S5 u6 (lL r5s);have f5:h r5=none:=u1.none hr5;have st6:fT h F h6 F4:=⟨(st4'.upd.trans u5.upd).then u6 (λb hb=>by
     simp only[jI] at hb;rw[hb];exact .inr f5),st4'.grow⟩
    by_cases c2:R.2=0
    ·have q2:(R.2 !=0)=false:=by rw[c2];rfl
     rw[if_neg (λe=>e c2)] at bad hk;simp only[fZ,q2,dF,reduceIte,dM,Nat.reduceAdd];refine aQY (h0:=h) (F0:=F) (s:=R.1) (iv:=.slice b' m' c') W6 B6 S6 (λb hb hf=>W4.known b hf (m5 b hb)) r5w (λb hb=>st4'.none (m5 b hb)) st6 (hmay c2).1 (hmay c2).2 (by omega) (λh' F' D' st ne=>?_) (λh' F' j J st e=>?_)
     ·rw[if_pos ne] at bad;exact bad h' F' D' st ne
     ·rw[if_neg (λx=>x e)] at hk;exact hk h' F' w j J st rfl
    ·have q2:(R.2 !=0)=true:=bne_iff_ne.2 c2;rw[if_pos c2] at bad;simp only[fZ,q2,dF,reduceIte,dM,Nat.reduceAdd];obtain⟨Fd,eF,-,D6,-⟩:=W6.here;exact bad h6 Fd D6 ⟨st6.upd,λb hb=>st6.grow b (by rw[eF];simp[hb])⟩ c2
 ·have qc:(chk ⟨p,q,[]⟩ room !=0)=true:=bne_iff_ne.2 c;rw[if_pos c] at bad;simp only[fZ,qc,dF,reduceIte,dM,Nat.reduceAdd];exact bad h3 F (D.ext e3) (fT.ext e3) c
def aU5(x:W)(m:Nat)(h0:0<m)(hm:m<4294967296):dE PG (binOp .rem gP (wv x) (.int .u32 (m:Int)))=some (.int .u32 ((x.toNat%m:Nat):Int)):=by
 have hx:=x.isLt;unfold wv;rw[aTZ (by omega)];have e:Int.tmod (x.toNat:Int) (m:Int)=((x.toNat%m:Nat):Int):=rfl;rw[e]
def aUU(x:W)(m:Nat)(h0:0<m)(hm:m<4294967296):dE PG (binOp .quo gP (wv x) (.int .u32 (m:Int)))=some (.int .u32 ((x.toNat/m:Nat):Int)):=by
 have hx:=x.isLt;unfold wv;rw[aLe (by omega)];have e:Int.tdiv (x.toNat:Int) (m:Int)=((x.toNat/m:Nat):Int):=rfl;have:=Nat.div_le_self x.toNat m;rw[e,aGY];generalize x.toNat/m=q at *;congr 2;omega
def aJD(x:W)(n:Nat):(x>>>n).toNat=x.toNat/2^n:=by rw[BitVec.toNat_ushiftRight,Nat.shiftRight_eq_div_pow]
def aZD(x:W):Value.int .u32 ((x.toNat/2:Nat):Int)=wv (x>>>1):=by unfold wv;rw[aJD]
def aUr{h:PH}(x:W){k:dI}(hk:k (wv (aLG x)) h):bR PG aCI #[wv x] h k:=by
 apply aBX.call;unfold aBX;have r2:dE PG (binOp .rem gP (wv x) (.int .u32 2))=some (.int .u32 ((x.toNat%2:Nat):Int)):=aU5 x 2 (by decide) (by decide);have q2:dE PG (binOp .quo gP (wv x) (.int .u32 2))=some (wv (x>>>1)):=by rw[←aZD];exact aUU x 2 (by decide) (by decide)
 have xr:dE PG (binOp .xor gP (wv (x>>>1)) (.int .u32 3988292384))=some (wv ((x>>>1) ^^^ 3988292384)):=aO9 (y:=3988292384);unfold aLG at hk;by_cases c:x.toNat%2=1
 ·have q:(((x.toNat%2:Nat):Int)==1)=true:=by rw[c];rfl
  rw[if_pos c] at hk;simp only[r2,gX,q,q2,xr,dF,reduceIte,dM,Nat.reduceAdd];exact hk
 ·have q:(((x.toNat%2:Nat):Int)==1)=false:=by rw[beq_eq_false_iff_ne];omega
  rw[if_neg c] at hk;simp only[r2,gX,q,q2,dF,reduceIte,dM,Nat.reduceAdd];exact hk
def aZB(b:UInt8):dE PG (convert eZ gP (.int .u8 (b.toNat:Int)))=some (wv (BitVec.ofNat 32 b.toNat)):=by
 have e:dE PG (convert eZ gP (.int .u8 (b.toNat:Int)))=some (.int .u32 (IntKind.u32.wrap (b.toNat:Int))):=by kernel_rfl
 rw[e];unfold wv;rw[aGY,BitVec.toNat_ofNat];rfl
def aQg{h:PH}{s:Tx}{i:Nat}(hi:i<s.length)(hs:s.length≤1000000)(y:W){n1:iC}{R:dI}
  (hk:n1 [wv (aJ0 8 y),.string (tx s),.int .i64 ((i+1:Nat):Int)] h):
  iV [0,1,5,6] (λn8 ρ h=>aCA R n1 n8 (ρ 0) (ρ 1) (ρ 5) (ρ 6) h) [wv y,.string (tx s),.int .i64 (i:Int),.int .i64 0] h:=by
 refine⟨λvs h'=>∃k:Nat,k≤8∧vs=[wv (aJ0 k y),.string (tx s),.int .i64 (i:Int),.int .i64 (k:Int)]∧h'=h,gT 8 3,⟨0,by omega,rfl,rfl⟩,?_⟩;rintro ρ h' ⟨k,hkk,hvs,rfl⟩;simp only[jF,kF,lT,and_true] at hvs;obtain⟨x0,x1,x5,x6⟩:=hvs;unfold aCA;rw[x0,x1,x5,x6];by_cases hlt:k<8
 ·have g:((k:Int)<8)=True:=eq_true (by omega);have gi:=oM (i:=k) (by omega);simp only[g,dF,reduceIte,dM,Nat.reduceAdd];refine aUr _ ?_;simp only[gi,dF,reduceIte,dM,Nat.reduceAdd];exact⟨⟨k+1,by omega,rfl,by first|rfl|trivial⟩,by simp[gT,x6];omega⟩
 ·have g:((k:Int)<8)=False:=eq_false (by omega);have gi:=oM (i:=i) (by omega);obtain rfl:k=8:=by omega
  simp only[g,gi,dF,reduceIte,dM,Nat.reduceAdd];exact hk
def aUp{h:PH}(x:W)(s:Tx)(hs:s.length≤1000000){k:dI}(hk:k (wv (aHu x s)) h):bR PG aCW #[wv x,.string (tx s)] h k:=by
 apply tZ.call;unfold tZ;refine⟨λvs h'=>∃i:Nat,i≤s.length∧vs=[wv (aHu x (s.take i)),.string (tx s),.int .i64 (i:Int)]∧h'=h,gT s.length 2,⟨0,by omega,rfl,rfl⟩,?_⟩;rintro ρ h' ⟨i,hi,hvs,rfl⟩;simp only[jF,kF,lT,and_true] at hvs;obtain⟨x0,x1,x5⟩:=hvs;unfold aFT;rw[x0,x1,x5];by_cases hlt:i<s.length
 ·have g:((i:Int)<(s.length:Int))=True:=eq_true (by omega);obtain⟨b,hb⟩:∃b,s[i]? =some b:=⟨_,lG hlt⟩;have ib:dE PG (Instr.index aT (.string (tx s)) (.int .i64 (i:Int)))=some (.int .u8 b.toNat):=oZ aT.und hb;have et:aHu x (s.take (i+1))=aMk (aHu x (s.take i)) b:=by
   unfold aHu;rw[zLR,hb,List.foldl_append];rfl
  simp only[jS,g,ib,aZB,aO9,dF,reduceIte,dM,Nat.reduceAdd];refine aQg hlt hs _ ?_;rw[show aJ0 8 (aHu x (s.take i) ^^^ BitVec.ofNat 32 b.toNat)=aHu x (s.take (i+1)) from et.symm];exact⟨⟨i+1,by omega,rfl,by first|rfl|trivial⟩,by simp[gT,x5];omega⟩
 ·have g:((i:Int)<(s.length:Int))=False:=eq_false (by omega);simp only[jS,g,dF,reduceIte,dM,Nat.reduceAdd];rw[sU (by omega)];exact hk
def aPT(x:W):dE PG (binOp .sub gP (.int .u32 4294967295) (wv x))=some (wv (~~~x)):=by
 have hx:=x.isLt;have e:dE PG (binOp .sub gP (.int .u32 4294967295) (wv x))=some (.int .u32 (IntKind.u32.wrap (4294967295-(x.toNat:Int)))):=by unfold wv;exact aK1
 rw[e];unfold wv;rw[aGY,BitVec.toNat_not];congr 2;omega
def aUV{h:PH}(s:Tx)(hs:s.length≤1000000){k:dI}(hk:k (wv (aNj s)) h):bR PG aCt #[.string (tx s)] h k:=by
 apply aCP.call;unfold aCP;apply zZ.call;unfold zZ;have e0:dE PG (binOp .sub gP (.int .u32 4294967295) (.int .u32 0))=some (wv 4294967295):=aPT 0;simp only[e0,dF,reduceIte,dM,Nat.reduceAdd];refine aUp _ s hs ?_;simp only[aPT,dF,reduceIte,dM,Nat.reduceAdd];rw[aVj];exact hk
def aYN(a b c d:Int):lH PG (buildSlice eJ 4 #[(0,.int .u8 a),(1,.int .u8 b),(2,.int .u8 c),(3,.int .u8 d)])=some (.cells #[.int .u8 a,.int .u8 b,.int .u8 c,.int .u8 d] eZ,λr=>pure (.slice (some ⟨r,0,none⟩) 4 4)):=by kernel_rfl
def aSo{h:PH}(x:W){k:dI}(hk:∀h',eM h h'->k (.string (tx (aGX x))) h'):bR PG aBk #[wv x] h k:=by
 apply aAq.call;unfold aAq;have hx:=x.isLt;have cv:∀n:Nat,n<256->dE PG (convert gP eZ (.int .u32 (n:Int)))=some (.int .u8 (n:Int)):=λn hn=>by
  have e:dE PG (convert gP eZ (.int .u32 (n:Int)))=some (.int .u8 (IntKind.u8.wrap (n:Int))):=by kernel_rfl
  rw[e,aJy];congr 2;omega
 have hq:∀m:Nat,0<m->m<4294967296->dE PG (binOp .quo gP (wv x) (.int .u32 (m:Int)))=some (wv (BitVec.ofNat 32 (x.toNat/m))):=λm h0 hm=>by
  rw[aUU x m h0 hm];unfold wv;have:=Nat.div_le_self x.toNat m;rw[BitVec.toNat_ofNat,aKQ (by omega)]
 have r1:dE PG (binOp .rem gP (wv x) (.int .u32 256))=some (.int .u32 ((x.toNat%256:Nat):Int)):=aU5 x 256 (by decide) (by decide);have q2:dE PG (binOp .quo gP (wv x) (.int .u32 256))=some (wv (BitVec.ofNat 32 (x.toNat/256))):=hq 256 (by decide) (by decide);have q3:dE PG (binOp .quo gP (wv x) (.int .u32 65536))=some (wv (BitVec.ofNat 32 (x.toNat/65536))):=hq 65536 (by decide) (by decide);have q4:dE PG (binOp .quo gP (wv x) (.int .u32 16777216))=some (.int .u32 ((x.toNat/16777216:Nat):Int)):=aUU x 16777216 (by decide) (by decide);have rr:∀n:Nat,n<4294967296->dE PG (binOp .rem gP (wv (BitVec.ofNat 32 n)) (.int .u32 256))=some (.int .u32 ((n%256:Nat):Int)):=λn hn=>by
  have:=aU5 (BitVec.ofNat 32 n) 256 (by decide) (by decide);rw[BitVec.toNat_ofNat,aKQ (a:=n) (by omega)] at this;exact this
 have m1:x.toNat%256<256:=zLB _ (by decide);have m2:x.toNat/256%256<256:=zLB _ (by decide);have m3:x.toNat/65536%256<256:=zLB _ (by decide);have m4:x.toNat/16777216<256:=by omega
 simp only[r1,cv _ m1,q2,rr (x.toNat/256) (by omega),cv _ m2,q3,rr (x.toNat/65536) (by omega),cv _ m3,q4,cv _ m4,aYN,dF,reduceIte,dM,Nat.reduceAdd];intro r11 hr11;refine jC ?_
 try rw[dY]
 have ec:(aGX x).map lA=[[.int .u8 ((x.toNat%256:Nat):Int)],[.int .u8 ((x.toNat/256%256:Nat):Int)],[.int .u8 ((x.toNat/65536%256:Nat):Int)],[.int .u8 ((x.toNat/16777216:Nat):Int)]]:=by
  have e8:(x>>>8).toNat=x.toNat/256:=aJD x 8;have e16:(x>>>16).toNat=x.toNat/65536:=aJD x 16;have e24:(x>>>24).toNat=x.toNat/16777216:=aJD x 24;unfold aGX lA;simp only[jF,kF,UInt8.toNat_ofNat',e8,e16,e24];rw[show(2:Nat)^8=256 from rfl,aKQ (a:=x.toNat/16777216) m4]
 have u1:eM h (h.set r11 (.cells #[.int .u8 ((x.toNat%256:Nat):Int),.int .u8 ((x.toNat/256%256:Nat):Int),.int .u8 ((x.toNat/65536%256:Nat):Int),.int .u8 ((x.toNat/16777216:Nat):Int)] eZ)):=eH.new hr11;have O:fY (h.set r11 (.cells #[.int .u8 ((x.toNat%256:Nat):Int),.int .u8 ((x.toNat/256%256:Nat):Int),.int .u8 ((x.toNat/65536%256:Nat):Int),.int .u8 ((x.toNat/16777216:Nat):Int)] eZ)) eZ 1 (.slice (some ⟨r11,0,none⟩) 4 4) ((aGX x).map lA) [r11]:=fY.lit (n:=4) (λr hr=>by obtain⟨m,_,rfl⟩:=rS.1 hr;rfl) gB rfl (by decide) (by rw[ec];rfl);have hcv:=aFm eJ.und eZ.und aT.und O.slR;simp only[hcv,dF,reduceIte,dM,Nat.reduceAdd];exact hk _ u1
def aMe{h:PH}(s:Tx)(hs:s.length≤1000000){k:dI}(hk:∀h',eM h h'->k (.string (tx (oI s))) h'):bR PG rI #[.string (tx s)] h k:=by
 apply aBZ.call;unfold aBZ;refine aUV s hs ?_;refine aSo _ λh3 u3=>?_;have ea:dE PG (binOp .add aT (.string (tx s)) (.string (tx (aGX (aNj s)))))=some (.string (tx (oI s))):=kZ (by show s.length+4≤_;omega);simp only[ea,dF,reduceIte,dM,Nat.reduceAdd];exact hk h3 u3
def aOI{h:PH}(s:Tx)(hs:s.length≤1000000){k:dI}(hk:∀h',eM h h'->k (.bool (pH s)) h'):bR PG wY #[.string (tx s)] h k:=by
 apply aAe.call;unfold aAe;by_cases h4:4≤s.length
 ·have g:((4:Int)≤(s.length:Int))=True:=eq_true (by omega);have w4:IntKind.i64.wrap ((s.length:Int)-4)=((s.length-4:Nat):Int):=by rw[fW (by omega) (by omega)];omega
  have c1:dE PG (Instr.sliceAt aT (.string (tx s)) none (some (.int .i64 ((s.length-4:Nat):Int))) none)=some (.string (tx (s.take (s.length-4)))):=by
   have:=lE (P:=PG) (t:=aT) (l:=s) (i:=0) (j:=s.length-4) (lo:=none) (hi:=some (.int .i64 ((s.length-4:Nat):Int))) aT.und (.inl ⟨rfl,rfl⟩) (.inr ⟨_,rfl⟩) (by omega) (by omega);rw[this,zLb]
  simp only[jS,g,w4,c1,dF,reduceIte,dM,Nat.reduceAdd];refine aMe _ (by rw[mT];omega) λh2 u2=>?_;have ed:decide (s=oI (s.take (s.length-4)))=pH s:=by
   unfold pH oI;rw[yA,decide_eq_true_iff,decide_eq_true_iff];constructor
   ·intro e;refine⟨h4,?_⟩;have e2:=congrArg (List.drop (s.length-4)) e;rw[List.drop_left' (by rw[mT];omega)] at e2;exact e2.symm
   ·intro ⟨_,e⟩;rw[e,zL6]
  simp only[aFs,ed,dF,reduceIte,dM,Nat.reduceAdd];exact hk h2 u2
 ·have g:((4:Int)≤(s.length:Int))=False:=eq_false (by omega);have ed:pH s=false:=by
   unfold pH;simp[h4]
  rw[ed] at hk;simp only[jS,g,dF,reduceIte,dM,Nat.reduceAdd];exact hk h eH.refl
end
end Go.Proofs.YtiohehjhlghikaaGreatDoor
