/- The texts of this claim, put together. -/
import Derived.Test.YtiohehjhlghikaaGreatDoorJgPVC6
set_option linter.all false
set_option maxRecDepth 100000
open Go.Instr (loadAt fieldAt indexAt extract buildSlice build)
namespace Go.Proofs.YtiohehjhlghikaaGreatDoor
section
open Go
def aVd{h:PH}{x y:Operand}(a b:UInt8):cB PG h (fJ .eql dJ x y (.int .u8 (a.toNat:Int)) (.int .u8 (b.toNat:Int)))=some (.bool (decide (a=b))):=by
 rw[fO];congr 2;rw[xE];simp[UInt8.toNat_inj,Int.natCast_inj]
def iL(s:Tx):cC PG (Builtin.len_ #[bR] aR #[.string (tx s)])=some (.int .i64 (s.length:Int)):=by rw[tN bR.und,kU]
def aSr{h:PH}(s:Tx)(hs:s.length≤1000000){k:cF}(hk:∀n,n≤s.length->(∀x∈s.drop n,x=0)->(n=0∨s[n-1]?≠some 0)->k (.string (tx (s.take n))) h):bW PG xI #[.string (tx s),.int .u8 0] h k:=by
 apply vF.call;unfold vF;refine⟨λvs h'=>∃n:Nat,n≤s.length∧vs=[.string (tx (s.take n)),.int .u8 0]∧h'=h∧∀x∈s.drop n,x=0,λvs _=>(match vs with | .string b::_=>b.size|_=>0),⟨s.length,mS _,by rw[zLJ],rfl,by simp⟩,?_⟩;rintro ρ h' ⟨n,hn,hvs,rfl,hz⟩;simp only[hM,jA,kP,and_true] at hvs;obtain⟨x0,x1⟩:=hvs;unfold aCR;rw[x0,x1];have hl:(s.take n).length=n:=by rw[mH];omega
 by_cases h0:n=0
 ·have g:((0:Int)<((s.take n).length:Int))=False:=eq_false (by omega);simp only[iL,g,cD,reduceIte,cJ,Nat.reduceAdd];exact hk n hn hz (.inl h0)
 ·have g:((0:Int)<((s.take n).length:Int))=True:=eq_true (by omega);have gw:IntKind.i64.wrap (((s.take n).length:Int)-1)=((n-1:Nat):Int):=by rw[eI (by omega) (by omega)];omega
  obtain⟨b,hb⟩:∃b,(s.take n)[n-1]? =some b:=⟨_,kV (by omega)⟩;have hb':s[n-1]? =some b:=by rw[aEV,if_pos (by omega)] at hb;exact hb
  have ib:cC PG (Instr.index bR (.string (tx (s.take n))) (.int .i64 ((n-1:Nat):Int)))=some (.int .u8 b.toNat):=nL bR.und hb;have e8:∀{x y:Operand},cB PG h' (fJ .eql dJ x y (.int .u8 (b.toNat:Int)) (.int .u8 0))=some (.bool (decide (b=0))):=aVd b 0;by_cases hb0:b=0
  ·have c:cC PG (Instr.sliceAt bR (.string (tx (s.take n))) none (some (.int .i64 ((n-1:Nat):Int))) none)=some (.string (tx (s.take (n-1)))):=by
    have:=kI (P:=PG) (t:=bR) (l:=s.take n) (i:=0) (j:=n-1) (lo:=none) (hi:=some (.int .i64 ((n-1:Nat):Int))) bR.und (.inl ⟨rfl,rfl⟩) (.inr ⟨_,rfl⟩) (by omega) (by omega);rw[this,zLb,aH8,aGW (by omega)]
   simp only[iL,g,gw,ib,e8,hb0,decide_true,c,cD,reduceIte,cJ,Nat.reduceAdd];refine⟨⟨n-1,by omega,rfl,by first|rfl|trivial,λx hx=>?_⟩,?_⟩
   ·have e:s.drop (n-1)=b::s.drop n:=by
     rw[aA3 (show n-1<s.length by omega),show n-1+1=n by omega];have:s[n-1]=b:=by rw[kV (show n-1<s.length by omega)] at hb';simpa using hb'
     rw[this]
    rw[e] at hx;rcases iM.1 hx with rfl|hx
    ·exact hb0
    ·exact hz x hx
   ·simp only[hM,x0,kU,mH];omega
  ·simp only[iL,g,gw,ib,e8,hb0,decide_false,cD,reduceIte,cJ,Nat.reduceAdd];exact hk n hn hz (.inr (by rw[hb'];simpa using hb0))
def aTY{h:PH}(s:Tx)(hs:s.length≤1000000){k:cF}(hk:∀n,n≤s.length->(∀x∈s.take n,x=0)->k (.string (tx (s.drop n))) h):bW PG yK #[.string (tx s),.int .u8 0] h k:=by
 apply wH.call;unfold wH;refine⟨λvs h'=>∃n:Nat,n≤s.length∧vs=[.string (tx (s.drop n)),.int .u8 0]∧h'=h∧∀x∈s.take n,x=0,λvs _=>(match vs with | .string b::_=>b.size|_=>0),⟨0,lA _,rfl,rfl,by simp⟩,?_⟩;rintro ρ h' ⟨n,hn,hvs,rfl,hz⟩;simp only[hM,jA,kP,and_true] at hvs;obtain⟨x0,x1⟩:=hvs;unfold aC0;rw[x0,x1];have hl:(s.drop n).length=s.length-n:=jE;by_cases h0:n=s.length
 ·have g:((0:Int)<((s.drop n).length:Int))=False:=eq_false (by omega);simp only[iL,g,cD,reduceIte,cJ,Nat.reduceAdd];exact hk n hn hz
 ·have g:((0:Int)<((s.drop n).length:Int))=True:=eq_true (by omega);obtain⟨b,hb⟩:∃b,s[n]? =some b:=⟨_,kV (show n<s.length by omega)⟩;have ib:cC PG (Instr.index bR (.string (tx (s.drop n))) (.int .i64 0))=some (.int .u8 b.toNat):=nL (j:=0) bR.und (by rw[aJq];exact hb);have e8:∀{x y:Operand},cB PG h' (fJ .eql dJ x y (.int .u8 (b.toNat:Int)) (.int .u8 0))=some (.bool (decide (b=0))):=aVd b 0;by_cases hb0:b=0
  ·have c:cC PG (Instr.sliceAt bR (.string (tx (s.drop n))) (some (.int .i64 1)) none none)=some (.string (tx (s.drop (n+1)))):=by
    have:=kI (P:=PG) (t:=bR) (l:=s.drop n) (i:=1) (j:=(s.drop n).length) (lo:=some (.int .i64 1)) (hi:=none) bR.und (.inr ⟨_,rfl⟩) (.inl ⟨rfl,rfl⟩) (by omega) (by omega);rw[this,zLJ,pN]
   simp only[iL,g,ib,e8,hb0,decide_true,c,cD,reduceIte,cJ,Nat.reduceAdd];refine⟨⟨n+1,by omega,rfl,by first|rfl|trivial,λx hx=>?_⟩,?_⟩
   ·rw[zLR,hb] at hx;rcases xA.1 hx with hx|hx
    ·exact hz x hx
    ·simp at hx;rw[hx];exact hb0
   ·simp only[hM,x0,kU,jE];omega
  ·simp only[iL,g,ib,e8,hb0,decide_false,cD,reduceIte,cJ,Nat.reduceAdd];exact hk n hn hz
def aUy{h:PH}(s:Tx)(hs:s.length≤1000000){k:cF}(hk:∀t:Tx,(t=[]↔∀x∈s,x=0)->k (.string (tx t)) h):bW PG aEJ #[.string (tx s),.string {data:=#[0]}] h k:=by
 apply aAy.call;unfold aAy;have e0:∀{x y:Operand} (l:Tx),cB PG h (fJ .eql bR x y (.string (tx l)) (.string {data:=#[]}))=some (.bool (decide (l=[]))):=λl=>aEy l [];have e1:∀{x y:Operand},cB PG h (fJ .eql bR x y (.string {data:=#[0]}) (.string {data:=#[]}))=some (.bool false):=by
  intro x y;have:=aEy (h:=h) (t:=bR) (x:=x) (y:=y) [0] [];exact this
 have l0:cC PG (Builtin.len_ #[bR] aR #[.string {data:=#[0]}])=some (.int .i64 1):=iL [0];have i0:cC PG (Instr.index bR (.string {data:=#[0]}) (.int .i64 0))=some (.int .u8 0):=nL (l:=[0]) (j:=0) bR.und rfl;have q1:((1:Int)==1)=true:=rfl;have g128:((0:Int)<128)=True:=eq_true (by decide);by_cases c:s=[]
 ·simp only[e0,c,decide_true,cD,reduceIte,cJ,Nat.reduceAdd];exact hk [] (by simp[c])
 ·simp only[e0,e1,c,decide_false,l0,fO,q1,i0,g128,cD,reduceIte,cJ,Nat.reduceAdd];refine aSr s hs λn hn hz hl=>?_;refine aTY (s.take n) (by rw[mH];omega) λm hm hy=>?_;refine hk _ ⟨λe=>?_,λe=>?_⟩
  ·have hm2:m=(s.take n).length:=by
    have:=congrArg List.length e;rw[jE,kW] at this;omega
   rw[hm2,zLJ] at hy;intro x hx;rw[←zL6 n s] at hx;rcases xA.1 hx with hx|hx
   ·exact hy x hx
   ·exact hz x hx
  ·rcases hl with hl|hl
   ·rw[hl];simp
   ·exfalso;cases hx:s[n-1]? with
    | none=>
     have hge:=List.getElem?_eq_none_iff.1 hx;have hn0:n≤s.length:=hn;have:s.length≠0:=λh=>c (zLN h);omega
    | some b=>
     rw[hx] at hl;exact hl (by rw[e b (aAB hx)])
def aJa{h:PH}(size:Nat){k:cF}(hk:k (.bool (decide (fS size))) h):bW PG aA5 #[.int .i64 (size:Int)] h k:=by
 apply aFa.call;unfold aFa;by_cases h1:64≤size
 ·have g1:((64:Int)≤(size:Int))=True:=eq_true (by omega);have e:decide ((size:Int)≤512)=decide (fS size):=by
   rw[xE,decide_eq_true_iff,decide_eq_true_iff];unfold fS;omega
  simp only[g1,cD,reduceIte,cJ,Nat.reduceAdd];rw[e];exact hk
 ·have g1:((64:Int)≤(size:Int))=False:=eq_false (by omega);have e:decide (fS size)=false:=decide_eq_false (λx=>h1 x.1);rw[e] at hk;simp only[g1,cD,reduceIte,cJ,Nat.reduceAdd];exact hk
def aHD{h:PH}(size n:Nat)(hn:n<1000000000000){k:cF}(hk:k (.int .i64 (dQ size n:Int)) h):bW PG tD #[.int .i64 (size:Int),.int .i64 (n:Int)] h k:=by
 apply aFe.call;unfold aFe;refine aJa size ?_;unfold dQ at hk;by_cases c:fS size
 ·have g0:((n:Int)<0)=False:=eq_false (by omega);by_cases c4:n≤4096
  ·have g4:((4096:Int)<(n:Int))=False:=eq_false (by omega);rw[if_pos ⟨c,c4⟩] at hk;have h64:=c.1;have h512:=c.2;have w1:IntKind.i64.wrap ((size:Int)-25)=((size-25:Nat):Int):=by rw[eI (by omega) (by omega)];omega
   have w2:IntKind.i64.wrap ((n:Int)+((size-25:Nat):Int))=((n+(size-25):Nat):Int):=by rw[eI (by omega) (by omega)];omega
   have w3:IntKind.i64.wrap (((n+(size-25):Nat):Int)-1)=((n+(size-25)-1:Nat):Int):=by rw[eI (by omega) (by omega)];omega
   have hq:((n+(size-25)-1:Nat):Int).tdiv ((size-25:Nat):Int)=(((n+(size-25)-1)/(size-25):Nat):Int):=by
    rw[Int.tdiv_eq_ediv_of_nonneg (by omega)];rfl
   have hqb:(n+(size-25)-1)/(size-25)≤n+(size-25)-1:=Nat.div_le_self _ _;obtain⟨Q,hQ⟩:∃Q,(n+(size-25)-1)/(size-25)=Q:=⟨_,rfl⟩;rw[hQ] at hq hqb hk;have q:cC PG (binOp .quo aR (.int .i64 ((n+(size-25)-1:Nat):Int)) (.int .i64 ((size-25:Nat):Int)))=some (.int .i64 (Q:Int)):=by
    rw[aJb (by omega),hq,eI (by omega) (by omega)]
   have m:(if (1:Int)<(Q:Int) then(Q:Int) else 1)=((max 1 Q:Nat):Int):=by
    split<;>omega
   simp only[c,decide_true,g0,g4,w1,w2,w3,q,aMe,m,cD,reduceIte,cJ,Nat.reduceAdd];exact hk
  ·have g4:((4096:Int)<(n:Int))=True:=eq_true (by omega);rw[if_neg (λx=>c4 x.2)] at hk;simp only[c,decide_true,g0,g4,cD,reduceIte,cJ,Nat.reduceAdd];exact hk
 ·rw[if_neg (λx=>c x.1)] at hk;simp only[c,decide_false,cD,reduceIte,cJ,Nat.reduceAdd];exact hk
def jV.cells(f:jV):List Value:=[.int .u64 (f.gen:Int),.int .u64 (f.ser:Int),.int .i64 (f.part:Int),.int .i64 (f.parts:Int),.string (tx f.b)]
def jV.v(f:jV):Value:=.agg f.cells.toArray
def jV.isC(f:jV):∀v∈f.cells,fH v=true:=by simp[jV.cells,fH]
def tX:cC PG (build cQ #[])=some jV.zero.v:=by kernel_rfl
def aTE(a b c d:Int)(s:ByteArray):cC PG (build cQ #[(0,.int .u64 a),(1,.int .u64 b),(2,.int .i64 c),(3,.int .i64 d),(4,.string s)])=some (.agg #[.int .u64 a,.int .u64 b,.int .i64 c,.int .i64 d,.string s]):=by kernel_rfl
def aNA{h:PH}{r:Nat}{f:jV}(B:Bx h r f.cells):cB PG h (loadAt cQ (pT r 0))=some f.v:=cQ.agg B (by show 0+5≤5;decide)
def aUF{h:PH}{x y:Operand}(l:Tx):cB PG h (fJ .neq bR x y (.string (tx l)) (.string {data:=#[82]}))=some (.bool (!decide (l=[82]))):=aKO l [82]
def aK9{h:PH}{x y:Operand}(l:Tx):cB PG h (fJ .neq bR x y (.string (tx l)) (.string {data:=#[]}))=some (.bool (!decide (l=[]))):=aKO l []
def aVh{h:PH}{x y:Operand}(l:Tx):cB PG h (fJ .eql bR x y (.string (tx l)) (.string {data:=#[]}))=some (.bool (decide (l=[]))):=aEy l []
def aMx{st:gQ}:(fC st 1).1<256:=uP st 1
def aUR{h:PH}(size:Nat)(s:Tx)(hs:s.length≤1000000){k:cF}(hk:∀h',cX h h'->k (.tuple #[(fP size s).1.v,.int .i64 (fP size s).2]) h'):bW PG aGY #[.int .i64 (size:Int),.string (tx s)] h k:=by
 apply aCl.call;unfold aCl;intro r1 hr1
 try rw[cO]
 have Z1:=cQ.zbox (h:=h) (r:=r1);have u1:cX h (h.set r1 (.cells (dD PG cQ) cQ)):=cV.new hr1;generalize h.set r1 (.cells (dD PG cQ) cQ)=h1 at *;have f1:dX h [r1]:=dX.one hr1;have fin:∀{h':PH} (f:jV) (e:Int),fP size s=(f,e)->(∃cs:List Value,cs.length=5∧Bx h' r1 cs)->cX h h'->cM PG (cP cQ (pT r1 0) f.v) h' λ_ h8=>bZ (cB PG h8 (loadAt cQ (pT r1 0))) λv9=>k (.tuple #[v9,.int .i64 e]) h8:=by
  intro h' f e hr ⟨cs,hcs,B⟩ w;refine cQ.put B (vs:=f.cells) (o:=0) rfl (by omega) f.isC λh2 B2 u2=>?_;rw[zLd,zLU,aAr (by omega),zLQ] at B2;simp only[aNA B2,cD,reduceIte,cJ,Nat.reduceAdd];have:=hk h2 (w.fresh u2 f1);rw[hr] at this;exact this
 have bad:∀{h':PH} (e:Int),fP size s=(jV.zero,e)->(∃cs:List Value,cs.length=5∧Bx h' r1 cs)->cX h h'->cM PG (cP cQ (pT r1 0) jV.zero.v) h' λ_ h8=>bZ (cB PG h8 (loadAt cQ (pT r1 0))) λv9=>k (.tuple #[v9,.int .i64 e]) h8:=λe=>fin jV.zero e;refine aJa size ?_;by_cases ok:fS size
 ·have h64:=ok.1;have h512:=ok.2;simp only[ok,decide_true,iL,dY,cD,reduceIte,cJ,Nat.reduceAdd];by_cases hl:s.length=size
  ·have q:((s.length:Int) !=(size:Int))=false:=by simp[hl]
   simp only[q,cD,reduceIte,cJ,Nat.reduceAdd];refine aOa s hs λh4 u4=>?_;cases hsl:nP s with
   | false=>
    have er:fP size s=(jV.zero,8):=by unfold fP;rw[if_neg (by simpa using ok),if_neg (by simpa using hl),if_pos hsl]
    simp only[tX,cD,reduceIte,cJ,Nat.reduceAdd];exact bad 8 er ⟨_,rfl,Z1.ext u4⟩ (u1.trans u4)
   | true=>
    have e4:=u1.trans u4;obtain⟨s',hs'⟩:∃s',s.take (size-4)=s':=⟨_,rfl⟩;have hl':s'.length=size-4:=by rw[←hs',mH];omega
    have er:fP size s=if aH4 s'∧aGl size (aAm s')∧aHm size (aAm s') then(aAm s',0) else(jV.zero,5):=by
     unfold fP;rw[if_neg (by simpa using ok),if_neg (by simpa using hl),if_neg (by simp[hsl]),hs']
    have w1:IntKind.i64.wrap ((size:Int)-4)=((size-4:Nat):Int):=by rw[eI (by omega) (by omega)];omega
    have w2:IntKind.i64.wrap ((size:Int)-25)=((size-25:Nat):Int):=by rw[eI (by omega) (by omega)];omega
    have c1:cC PG (Instr.sliceAt bR (.string (tx s)) none (some (.int .i64 ((size-4:Nat):Int))) none)=some (.string (tx s')):=by
     have:=kI (P:=PG) (t:=bR) (l:=s) (i:=0) (j:=size-4) (lo:=none) (hi:=some (.int .i64 ((size-4:Nat):Int))) bR.und (.inl ⟨rfl,rfl⟩) (.inr ⟨_,rfl⟩) (by omega) (by omega);rw[this,zLb,hs']
    simp only[w1,c1,cD,reduceIte,cJ,Nat.reduceAdd];refine aHI s' λa h5 R5 u5 ha=>?_;have Z5:=(Z1.ext u4).ext u5;have n1a:r1≠a:=(Z1.ext u4).apart ha;have fa:dX h [a]:=dX.one (e4.none ha);have e5:=e4.trans u5;refine aLa R5 1 λh6 R6 u6=>?_;refine aBg R6 λh7 R7 u7=>?_;refine aBg R7 λh8 R8 u8=>?_;refine aAK R8 λh9 R9 u9=>?_;refine aAK R9 λh10 R10 u10=>?_;refine aOm R10 λh11 R11 u11=>?_;have R11:kN h11 a (wN s').2.1 (wN s').2.2:=R11;show bZ (cC PG (build cQ #[(0,.int .u64 ((frG s').1:Int)),(1,.int .u64 ((frN s').1:Int)),(2,.int .i64 ((wO s').1:Int)),(3,.int .i64 ((uQ s').1:Int)),(4,.string (tx (wN s').1))])) _;have u11':=((((u6.trans u7).trans u8).trans u9).trans u10).trans u11;have Z11:=Z5.upd u11' (by simpa using n1a);have e11:=e5.fresh u11' fa;simp only[aTE,cD,reduceIte,cJ,Nat.reduceAdd];intro r40 hr40
    try rw[cO]
    refine cQ.fill (vs:=(aAm s').cells) hr40 rfl (aAm s').isC λh12 B12 u12=>?_;have Z12:=Z11.ext u12;have n40a:r40≠a:=λe=>by
     have:=R11.here;rw[←e,hr40] at this;cases this
    have e12:=e11.trans u12;refine aOU (R11.ext u12) ?_;have eL:(if (wN s').2.1=0 then((wN s').2.2.length:Int) else 0)=((aI3 (wN s').2:Nat):Int):=by
     unfold aI3;split<;>rfl
    rw[eL];refine aLa (R11.ext u12) _ λh13 R13 u13=>?_;have R13:kN h13 a (frZ s').2.1 (frZ s').2.2:=R13;have B13:=B12.upd u13 (by simpa using n40a);have Z13:=Z12.upd u13 (by simpa using n1a);have e13:=e12.fresh u13 fa;have b2:cU h13 ⟨r40,0+2,none⟩=some (.int .i64 ((wO s').1:Int)):=B13.cell 2;have b3:cU h13 ⟨r40,0+3,none⟩=some (.int .i64 ((uQ s').1:Int)):=B13.cell 3;have b4:cU h13 ⟨r40,0+4,none⟩=some (.string (tx (wN s').1)):=B13.cell 4;have kp:=aMx (st:=(frN s').2);have kq:=aMx (st:=(wO s').2);have kp:(wO s').1<256:=kp;have kq:(uQ s').1<256:=kq;have w3:IntKind.i64.wrap (((uQ s').1:Int)-1)=((uQ s').1:Int)-1:=eI (by omega) (by omega);have zl:(frZ s').1.length≤1000000:=by
     have:(frZ s').1.length≤s'.length:=by
      unfold frZ;have h1:=aIv (wN s').2 (aI3 (wN s').2);have h2:aI3 (wN s').2≤s'.length:=by
       have F:=aQY (size:=size) h64 hl';rw[F.t];unfold aI3;split
       ·split
        ·simp only[jE];omega
        ·exact lA _
       ·split
        ·rename_i h0;exact absurd h0 (by simp)
        ·exact lA _
      omega
     omega
    simp only[cQ.f2,cQ.f3,cQ.f4,aR.load,bR.load,b2,b3,w3,w2,eK.f0,fO,cD,reduceIte,cJ,Nat.reduceAdd];refine aD7 R13 ?_;have bad5:¬(aH4 s'∧aGl size (aAm s')∧aHm size (aAm s'))->fP size s=(jV.zero,5):=λh=>by rw[er,if_neg h]
    have Zx:∃cs:List Value,cs.length=5∧Bx h13 r1 cs:=⟨_,rfl,Z13⟩;by_cases c1:(frZ s').2.1=0
    ·have q1:((frZ s').2.1 !=0)=false:=by simp[c1]
     by_cases c2:(lS (0,s') 1).1=[82]
     ·have q2:decide ((lS (0,s') 1).1=[82])=true:=decide_eq_true c2;simp only[dY,q1,aUF,q2,cD,reduceIte,cJ,Nat.reduceAdd];refine aUy _ zl λt ht=>?_;by_cases c3:∀x∈(frZ s').1,x=0
      ·have q3:decide (t=[])=true:=decide_eq_true (ht.2 c3);by_cases c4:(wO s').1<(uQ s').1
       ·have q4:(((uQ s').1:Int)≤((wO s').1:Int))=False:=eq_false (by omega);have k1:aH4 s':=⟨c1,c2,c3,c4⟩;have lB:cC PG (Builtin.len_ #[bR] aR #[.string (tx (wN s').1)])=some (.int .i64 ((wN s').1.length:Int)):=iL _;have hlen:(wN s').1.length≤65536:=by
         have F:=aQY (size:=size) h64 hl';rw[F.t];split
         ·show(lX s').length≤65536;unfold lX;rw[mH,jE];omega
         ·simp
        have hm:(wO s').1*(size-25)≤256*512:=Nat.mul_le_mul (by omega) (by omega);have w4:IntKind.i64.wrap (((wO s').1:Int)*((size-25:Nat):Int))=(((wO s').1*(size-25):Nat):Int):=by
         rw[←Int.natCast_mul,eI (by omega) (by omega)]
        have w5:IntKind.i64.wrap ((((wO s').1*(size-25):Nat):Int)+((wN s').1.length:Int))=(((wO s').1*(size-25)+(wN s').1.length:Nat):Int):=by
         rw[eI (by omega) (by omega)];omega
        by_cases k2:aGl size (aAm s')
        ·have three:((wO s').1+1=(uQ s').1∧1<(uQ s').1)∨((wO s').1+1=(uQ s').1∧¬1<(uQ s').1)∨(wO s').1+1≠(uQ s').1:=by omega
         rcases three with⟨cl,cm⟩|⟨cl,cm⟩|cl
         case' inl=>
          have ql:(((wO s').1:Int)==((uQ s').1:Int)-1)=true:=by
           rw[beq_iff_eq];omega
          have qm:((1:Int)<((uQ s').1:Int))=True:=eq_true (by omega);have cb:decide ((wN s').1=[])=false:=decide_eq_false (k2.2 cl cm);simp only[aK9,q3,q4,ql,cQ.f2,cQ.f3,cQ.f4,aR.load,bR.load,b2,b3,b4,qm,aVh,cb,mX,w4,lB,w5,cD,reduceIte,cJ,Nat.reduceAdd]
         case' inr.inl=>
          have ql:(((wO s').1:Int)==((uQ s').1:Int)-1)=true:=by
           rw[beq_iff_eq];omega
          have qm:((1:Int)<((uQ s').1:Int))=False:=eq_false (by omega);simp only[aK9,q3,q4,ql,cQ.f2,cQ.f3,cQ.f4,aR.load,bR.load,b2,b3,b4,qm,mX,w4,lB,w5,cD,reduceIte,cJ,Nat.reduceAdd]
         case' inr.inr=>
          have ql:(((wO s').1:Int)==((uQ s').1:Int)-1)=false:=by
           rw[beq_eq_false_iff_ne];omega
          have cr:(wN s').1.length=size-25:=k2.1 cl;have qr:(((wN s').1.length:Int) !=((size-25:Nat):Int))=false:=by simp[cr]
          simp only[aK9,q3,q4,ql,cQ.f2,cQ.f3,cQ.f4,aR.load,bR.load,b2,b3,b4,lB,dY,qr,mX,w4,w5,cD,reduceIte,cJ,Nat.reduceAdd]
         all_goals
          refine aHD size _ (by omega) ?_;by_cases c5:dQ size ((wO s').1*(size-25)+(wN s').1.length)=0
          ·have q5:(((dQ size ((wO s').1*(size-25)+(wN s').1.length):Nat):Int)==0)=true:=by simp[c5]
           simp only[fO,q5,tX,cD,reduceIte,cJ,Nat.reduceAdd];refine⟨by simp,?_⟩;exact bad 5 (bad5 λx=>x.2.2.1 c5) Zx e13
          ·have q5:(((dQ size ((wO s').1*(size-25)+(wN s').1.length):Nat):Int)==0)=false:=by
            rw[beq_eq_false_iff_ne];omega
           simp only[fO,q5,cQ.f3,aR.load,b3,cD,reduceIte,cJ,Nat.reduceAdd];refine aHD size 4096 (by decide) ?_;refine⟨λ_=>b3,?_⟩;by_cases c6:(uQ s').1≤dQ size 4096
           ·have q6:(((dQ size 4096:Nat):Int)<((uQ s').1:Int))=False:=eq_false (by omega);simp only[q6,aNA B13,cD,reduceIte,cJ,Nat.reduceAdd];exact fin (aAm s') 0 (by rw[er,if_pos ⟨k1,k2,c5,c6⟩]) Zx e13
           ·have q6:(((dQ size 4096:Nat):Int)<((uQ s').1:Int))=True:=eq_true (by omega);simp only[q6,tX,cD,reduceIte,cJ,Nat.reduceAdd];exact bad 5 (bad5 λx=>c6 x.2.2.2) Zx e13
        ·by_cases cl:(wO s').1+1=(uQ s').1
         ·have ql:(((wO s').1:Int)==((uQ s').1:Int)-1)=true:=by
           rw[beq_iff_eq];omega
          have cmb:1<(uQ s').1∧(wN s').1=[]:=by
           refine Classical.byContradiction λx=>k2 ⟨λh=>absurd cl h,λ_ h1 h2=>x ⟨h1,h2⟩⟩
          have qm:((1:Int)<((uQ s').1:Int))=True:=eq_true (by omega);have cb:decide ((wN s').1=[])=true:=decide_eq_true cmb.2;simp only[aK9,q3,q4,ql,cQ.f3,cQ.f4,aR.load,bR.load,b2,b3,b4,qm,aVh,cb,tX,cD,reduceIte,cJ,Nat.reduceAdd];exact bad 5 (bad5 λx=>k2 x.2.1) Zx e13
         ·have ql:(((wO s').1:Int)==((uQ s').1:Int)-1)=false:=by
           rw[beq_eq_false_iff_ne];omega
          have cr:(wN s').1.length≠size-25:=λh=>k2 ⟨λ_=>h,λh=>absurd h cl⟩;have qr:(((wN s').1.length:Int) !=((size-25:Nat):Int))=true:=by
           rw[bne_iff_ne];omega
          simp only[aK9,q3,q4,ql,cQ.f2,cQ.f3,cQ.f4,aR.load,bR.load,b2,b3,b4,lB,dY,qr,tX,cD,reduceIte,cJ,Nat.reduceAdd];exact bad 5 (bad5 λx=>k2 x.2.1) Zx e13
       ·have q4:(((uQ s').1:Int)≤((wO s').1:Int))=True:=eq_true (by omega);simp only[q3,aK9,q4,cQ.f2,cQ.f3,aR.load,b2,b3,tX,cD,reduceIte,cJ,Nat.reduceAdd];exact bad 5 (bad5 λx=>c4 x.1.2.2.2) Zx e13
      ·have q3:decide (t=[])=false:=decide_eq_false (λx=>c3 (ht.1 x));simp only[aK9,q3,tX,cD,reduceIte,cJ,Nat.reduceAdd];exact bad 5 (bad5 λx=>c3 x.1.2.2.1) Zx e13
     ·have q2:decide ((lS (0,s') 1).1=[82])=false:=decide_eq_false c2;simp only[dY,q1,aUF,q2,tX,cD,reduceIte,cJ,Nat.reduceAdd];exact bad 5 (bad5 λx=>c2 x.1.2.1) Zx e13
    ·have q1:((frZ s').2.1 !=0)=true:=by simp[c1]
     simp only[dY,q1,tX,cD,reduceIte,cJ,Nat.reduceAdd];exact bad 5 (bad5 λx=>c1 x.1.1) Zx e13
  ·have q:((s.length:Int) !=(size:Int))=true:=by
    rw[bne_iff_ne];omega
   have er:fP size s=(jV.zero,6):=by unfold fP;rw[if_neg (by simpa using ok),if_pos hl]
   simp only[q,tX,cD,reduceIte,cJ,Nat.reduceAdd];exact bad 6 er ⟨_,rfl,Z1⟩ u1
 ·have er:fP size s=(jV.zero,1):=by unfold fP;rw[if_pos ok]
  simp only[ok,decide_false,tX,cD,reduceIte,cJ,Nat.reduceAdd];exact bad 1 er ⟨_,rfl,Z1⟩ u1
def aLE(size:Nat)(s:Tx):(fP size s).1.parts<256∧(fP size s).1.b.length≤s.length:=by
 rw[←aOc];have h0:jV.zero.parts<256∧jV.zero.b.length≤s.length:=⟨by decide,lA _⟩;unfold wB;split
 ·exact h0
 ·split
  ·exact h0
  ·split
   ·exact h0
   ·split
    ·exact h0
    ·split
     ·exact h0
     ·split
      ·exact h0
      ·refine⟨?_,?_⟩
       ·show gT s<256;unfold gT;have:=aIU ((s.drop 18).take 1);have h2:((s.drop 18).take 1).length≤1:=by rw[mH];omega
        have h3:256^((s.drop 18).take 1).length≤256^1:=aMF (by decide) h2;omega
       ·show(lX s).length≤s.length;unfold lX;rw[mH,jE];omega
def aOs{size:Nat}{xs:List Tx}(h:∀s∈xs,s.length=size){k:Nat}{x:Tx}(hx:xs[k]? =some x):(xs.flatten.take ((k+1)*size)).drop (k*size)=x:=by
 have hk:=(zLA.1 hx).1;rw[zLy,Nat.succ_mul,aB0,aQG h hk,aDm,hx];rfl
def aEj(size gen ser:Nat)(x:Tx)(xs:List Tx)(k parts:Nat)(text:Tx):iW size gen ser (x::xs) k parts text=if aGB gen ser k (if k=0 then(fP size x).1.parts else parts) (fP size x) then([],0) else if k+1=(fP size x).1.parts then(text++(fP size x).1.b,(fP size x).1.parts) else iW size gen ser xs (k+1) (if k=0 then(fP size x).1.parts else parts) (text++(fP size x).1.b):=rfl
def aSj{h:PH}{size gen ser:Nat}{xs:List Tx}(hsz:size≤1000)(h1:1≤size)(hx:∀s∈xs,s.length=size)(hl:xs.length≤5000){k:cF}
  (hk:∀h',cX h h'->k (.tuple #[.string (tx (iW size gen ser xs 0 0 []).1),.int .i64 ((iW size gen ser xs 0 0 []).2:Int)]) h'):bW PG aEq #[.int .i64 (size:Int),.int .u64 (gen:Int),.int .u64 (ser:Int),.string (tx xs.flatten)] h k:=by
 apply aAu.call;unfold aAu;obtain⟨T,hT⟩:∃T,iW size gen ser xs 0 0 []=T:=⟨_,rfl⟩;rw[hT] at hk;have fl:=aBd hx;have flb:xs.length*size≤5000*1000:=Nat.mul_le_mul hl hsz;refine⟨λvs h'=>∃(n parts:Nat) (t:Tx),n≤xs.length∧vs=[.int .i64 (size:Int),.int .u64 (gen:Int),.int .u64 (ser:Int),.string (tx xs.flatten),.string (tx t),.int .i64 (parts:Int),.int .i64 (n:Int)]∧cX h h'∧t.length≤n*1000∧T=iW size gen ser (xs.drop n) n parts t,fN xs.length 6,⟨0,0,[],by omega,rfl,cV.refl,by simp,hT.symm⟩,?_⟩;rintro ρ h' ⟨n,parts,t,hn,hvs,w,ht,hr⟩;simp only[hM,jA,kP,and_true] at hvs;obtain⟨x0,x1,x2,x3,x10,x11,x12⟩:=hvs;unfold aHw;rw[x0,x1,x2,x3,x10,x11,x12];have g1:=nR (i:=n) (by omega);have hm1:(n+1)*size≤5001*1000:=Nat.mul_le_mul (by omega) hsz;have hm0:n*size≤5001*1000:=Nat.mul_le_mul (by omega) hsz;have g2:IntKind.i64.wrap (((n+1:Nat):Int)*(size:Int))=(((n+1)*size:Nat):Int):=by rw[←Int.natCast_mul,eI (by omega) (by omega)]
 have g3:IntKind.i64.wrap ((n:Int)*(size:Int))=((n*size:Nat):Int):=by rw[←Int.natCast_mul,eI (by omega) (by omega)]
 by_cases hlt:n<xs.length
 ·have hle:(n+1)*size≤xs.length*size:=zLO _ hlt;have gl:((((n+1)*size:Nat):Int)≤(xs.flatten.length:Int))=True:=eq_true (by omega);obtain⟨x,hxx⟩:∃x,xs[n]? =some x:=⟨_,kV hlt⟩;have hxl:=hx x (aAB hxx);have hms:n*size≤(n+1)*size:=zLO _ (Nat.le_succ _);have c:cC PG (Instr.sliceAt bR (.string (tx xs.flatten)) (some (.int .i64 ((n*size:Nat):Int))) (some (.int .i64 (((n+1)*size:Nat):Int))) none)=some (.string (tx x)):=by
   have:=kI (P:=PG) (t:=bR) (l:=xs.flatten) (i:=n*size) (j:=(n+1)*size) (lo:=some (.int .i64 ((n*size:Nat):Int))) (hi:=some (.int .i64 (((n+1)*size:Nat):Int))) bR.und (.inr ⟨_,rfl⟩) (.inr ⟨_,rfl⟩) hms (by omega);rw[this,aOs hx hxx]
  have ed:xs.drop n=x::xs.drop (n+1):=by
   rw[aA3 hlt];have:xs[n]=x:=by rw[kV hlt] at hxx;simpa using hxx
   rw[this]
  rw[ed] at hr;obtain⟨rf1,rf2⟩:=aLE size x;simp only[g1,mX,g2,iL,gl,g3,c,cD,reduceIte,cJ,Nat.reduceAdd];refine aUR size x (by omega) λh2 u2=>?_;simp only[cD,reduceIte,cJ,Nat.reduceAdd];intro r15 hr15
  try rw[cO]
  refine cQ.fill (vs:=(fP size x).1.cells) hr15 rfl (fP size x).1.isC λh3 B3 u3=>?_;have e3:=(w.trans u2).trans u3;have b0:cU h3 ⟨r15,0,none⟩=some (.int .u64 ((fP size x).1.gen:Int)):=B3.cell 0;have b1:cU h3 ⟨r15,0+1,none⟩=some (.int .u64 ((fP size x).1.ser:Int)):=B3.cell 1;have b2:cU h3 ⟨r15,0+2,none⟩=some (.int .i64 ((fP size x).1.part:Int)):=B3.cell 2;have b3:cU h3 ⟨r15,0+3,none⟩=some (.int .i64 ((fP size x).1.parts:Int)):=B3.cell 3;have b4:cU h3 ⟨r15,0+4,none⟩=some (.string (tx (fP size x).1.b)):=B3.cell 4;have tail:∀pp:Nat,pp=(if n=0 then(fP size x).1.parts else parts)->aBN k (λvs h'=>(∃(n parts:Nat) (t:Tx),n≤xs.length∧vs=[.int .i64 (size:Int),.int .u64 (gen:Int),.int .u64 (ser:Int),.string (tx xs.flatten),.string (tx t),.int .i64 (parts:Int),.int .i64 (n:Int)]∧cX h h'∧t.length≤n*1000∧T=iW size gen ser (xs.drop n) n parts t)∧fN xs.length 6 vs h'<fN xs.length 6 ([0,1,2,3,10,11,12].map ρ) h') (.int .i64 (size:Int)) (.int .u64 (gen:Int)) (.int .u64 (ser:Int)) (.string (tx xs.flatten)) (.string (tx t)) (.int .i64 (pp:Int)) (.int .i64 (n:Int)) (pT r15 0) (.int .i64 (fP size x).2) h3:=by
   intro pp hpp;rw[aEj,←hpp] at hr;unfold aBN;have nq:∀{a b:Nat},a=b->((a:Int) !=(b:Int))=false:=λe=>by simp[e]
   have nn:∀{a b:Nat},a≠b->((a:Int) !=(b:Int))=true:=λe=>by rw[bne_iff_ne];omega
   have fail:aGB gen ser n pp (fP size x)->k (.tuple #[.string {data:=#[]},.int .i64 0]) h3:=λhb=>by
    rw[if_pos hb] at hr;have:=hk h3 e3;rw[hr] at this;exact this
   by_cases c1:(fP size x).2=0
   ·have q1:((fP size x).2 !=0)=false:=by simp[c1]
    by_cases c2:(fP size x).1.gen=gen
    ·by_cases c3:(fP size x).1.ser=ser
     ·by_cases c4:(fP size x).1.part=n
      ·by_cases c5:(fP size x).1.parts=pp
       ·have ea:cC PG (binOp .add bR (.string (tx t)) (.string (tx (fP size x).1.b)))=some (.string (tx (t++(fP size x).1.b))):=jQ (by omega);have w5:IntKind.i64.wrap (((fP size x).1.parts:Int)-1)=((fP size x).1.parts:Int)-1:=eI (by omega) (by omega);rw[if_neg (λhb=>by
         rcases hb with a|a|a|a|a
         ·exact a c1
         ·exact a c2
         ·exact a c3
         ·exact a c4
         ·exact a c5)] at hr
        simp only[dY,q1,cQ.f0,cQ.f1,cQ.f2,cQ.f3,cQ.f4,cI.load,aR.load,bR.load,b0,b1,b2,b3,b4,nq c2,nq c3,nq c4,nq c5,ea,w5,fO,cD,reduceIte,cJ,Nat.reduceAdd];by_cases c6:n+1=(fP size x).1.parts
        ·have q6:((n:Int)==((fP size x).1.parts:Int)-1)=true:=by rw[beq_iff_eq];omega
         rw[if_pos c6] at hr;simp only[q6,cD,reduceIte,cJ,Nat.reduceAdd];have:=hk h3 e3;rw[hr] at this;exact this
        ·have q6:((n:Int)==((fP size x).1.parts:Int)-1)=false:=by rw[beq_eq_false_iff_ne];omega
         rw[if_neg c6] at hr;simp only[q6,g1,cD,reduceIte,cJ,Nat.reduceAdd];exact⟨⟨n+1,pp,_,by omega,rfl,e3,by rw[jK];omega,hr⟩,by simp[fN,x12];omega⟩
       ·simp only[dY,q1,cQ.f0,cQ.f1,cQ.f2,cQ.f3,cI.load,aR.load,b0,b1,b2,b3,nq c2,nq c3,nq c4,nn c5,cD,reduceIte,cJ,Nat.reduceAdd];exact fail (.inr (.inr (.inr (.inr c5))))
      ·simp only[dY,q1,cQ.f0,cQ.f1,cQ.f2,cQ.f3,cI.load,aR.load,b0,b1,b2,b3,nq c2,nq c3,nn c4,cD,reduceIte,cJ,Nat.reduceAdd];exact fail (.inr (.inr (.inr (.inl c4))))
     ·simp only[dY,q1,cQ.f0,cQ.f1,cQ.f2,cQ.f3,cI.load,aR.load,b0,b1,b2,b3,nq c2,nn c3,cD,reduceIte,cJ,Nat.reduceAdd];exact fail (.inr (.inr (.inl c3)))
    ·simp only[dY,q1,cQ.f0,cQ.f1,cQ.f2,cQ.f3,cI.load,aR.load,b0,b1,b2,b3,nn c2,cD,reduceIte,cJ,Nat.reduceAdd];exact fail (.inr (.inl c2))
   ·have q1:((fP size x).2 !=0)=true:=by simp[c1]
    simp only[dY,q1,cD,reduceIte,cJ,Nat.reduceAdd];exact fail (.inl c1)
  by_cases hn0:n=0
  ·have q0:((n:Int)==0)=true:=by simp[hn0]
   simp only[fO,q0,cQ.f3,aR.load,b3,cD,reduceIte,cJ,Nat.reduceAdd];exact tail _ (by rw[if_pos hn0])
  ·have q0:((n:Int)==0)=false:=by rw[beq_eq_false_iff_ne];omega
   simp only[fO,q0,cD,reduceIte,cJ,Nat.reduceAdd];exact tail _ (by rw[if_neg hn0])
 ·have gl:((((n+1)*size:Nat):Int)≤(xs.flatten.length:Int))=False:=by
   have:n=xs.length:=by omega
   have hms:(n+1)*size=n*size+size:=Nat.succ_mul _ _;rw[this] at hms;exact eq_false (by rw[this];omega)
  rw[aAr (by omega)] at hr;simp only[g1,mX,g2,iL,gl,cD,reduceIte,cJ,Nat.reduceAdd];have:=hk h' w;rw[hr] at this;exact this
def aUh{h:PH}{size gen:Nat}{xs:List Tx}(ok:fS size)(hx:∀s∈xs,s.length=size)(hl:xs.length≤5000){k:cF}
  (hk:∀h' v F,eD h' bR 1 v ((jR size gen (xs.length+1) xs 0).1.map kA) F->dX h F->cX h h'->k (.tuple #[v,.int .i64 ((jR size gen (xs.length+1) xs 0).2:Int)]) h'):bW PG aGM #[.int .i64 (size:Int),.int .u64 (gen:Int),.string (tx xs.flatten)] h k:=by
 apply aGs.call;unfold aGs;obtain⟨T,hT⟩:∃T,jR size gen (xs.length+1) xs 0=T:=⟨_,rfl⟩;rw[hT] at hk;have h64:=ok.1;have h512:=ok.2;have fl:=aBd hx;have flb:xs.length*size≤5000*512:=Nat.mul_le_mul hl h512;refine aJa size ?_;simp only[ok,decide_true,cD,reduceIte,cJ,Nat.reduceAdd];refine⟨λvs h'=>∃(used ser f:Nat) (v:Value) (out:List Tx) (F:List Nat),used≤xs.length∧ser≤used∧out.length=ser∧xs.length<f+used∧vs=[.int .i64 (size:Int),.int .u64 (gen:Int),.string (tx xs.flatten),v,.int .i64 (used:Int),.int .u64 (ser:Int)]∧eD h' bR 1 v (out.map kA) F∧dX h F∧cX h h'∧T=(out++(jR size gen f (xs.drop used) ser).1,used+(jR size gen f (xs.drop used) ser).2),fN xs.length 4,⟨0,0,xs.length+1,_,[],[],by omega,by omega,rfl,by omega,rfl,eD.nil,(λb hb=>by cases hb),cV.refl,by rw[←hT];simp⟩,?_⟩;rintro ρ h' ⟨used,ser,f,v,out,F,hu,hs,ho,hf,hvs,O,fF,w,hr⟩;simp only[hM,jA,kP,and_true] at hvs;obtain⟨x0,x1,x2,x8,x9,x10⟩:=hvs;unfold aJF;rw[x0,x1,x2,x8,x9,x10];have hm0:used*size≤xs.length*size:=zLO _ hu;have g3:IntKind.i64.wrap ((used:Int)*(size:Int))=((used*size:Nat):Int):=by rw[←Int.natCast_mul,eI (by omega) (by omega)]
 have c:cC PG (Instr.sliceAt bR (.string (tx xs.flatten)) (some (.int .i64 ((used*size:Nat):Int))) none none)=some (.string (tx (xs.drop used).flatten)):=by
  have:=kI (P:=PG) (t:=bR) (l:=xs.flatten) (i:=used*size) (j:=xs.flatten.length) (lo:=some (.int .i64 ((used*size:Nat):Int))) (hi:=none) bR.und (.inr ⟨_,rfl⟩) (.inl ⟨rfl,rfl⟩) (by omega) (mS _);rw[this,zLJ,aFl hx]
 obtain⟨f,rfl⟩:∃g,f=g+1:=⟨f-1,by omega⟩;have hle:=aL4 (size:=size) (gen:=gen) (ser:=ser) (xs.drop used) 0 0 [];rw[jE] at hle;simp only[mX,g3,c,cD,reduceIte,cJ,Nat.reduceAdd];refine aSj (by omega) (by omega) (λs hs=>hx s (List.mem_of_mem_drop hs)) (by rw[jE];omega) λh2 u2=>?_;unfold jR at hr;by_cases c0:(iW size gen ser (xs.drop used) 0 0 []).2=0
 ·rw[if_pos c0,zLQ,zLP] at hr;have q0:(((iW size gen ser (xs.drop used) 0 0 []).2:Int)==0)=true:=by simp[c0]
  simp only[fO,q0,cD,reduceIte,cJ,Nat.reduceAdd];have:=hk h2 v F;have hr':T=(out,used):=hr;rw[hr'] at this;exact this (O.ext u2) fF (w.trans u2)
 ·rw[if_neg c0] at hr;have q0:(((iW size gen ser (xs.drop used) 0 0 []).2:Int)==0)=false:=by rw[beq_eq_false_iff_ne];omega
  simp only[fO,q0,aFj,cD,reduceIte,cJ,Nat.reduceAdd];intro r13 hr13;refine gV ?_
  try rw[cO]
  have S1:=(aFW (h:=h2) (r:=r13) (iW size gen ser (xs.drop used) 0 0 []).1).slR;have u3:cX h2 (h2.set r13 (.cells #[.string (tx (iW size gen ser (xs.drop used) 0 0 []).1)] bR)):=cV.new hr13;refine lG dE.und dE.und bR.info bR.size bR.bytes bR.zero rfl (by decide) ((O.ext u2).ext u3) S1 (by simp[fH]) (by simp only[iF,iN,kW];omega) ?_;intro v4 h4 F4 O4 u4 g4 _;have O4:eD h4 bR 1 v4 ((out++[(iW size gen ser (xs.drop used) 0 0 []).1]).map kA) F4:=by rw[wA];exact O4
  have gu:IntKind.i64.wrap ((used:Int)+((iW size gen ser (xs.drop used) 0 0 []).2:Int))=((used+(iW size gen ser (xs.drop used) 0 0 []).2:Nat):Int):=by rw[eI (by omega) (by omega)];omega
  have gs:IntKind.u64.wrap ((ser:Int)+1)=((ser+1:Nat):Int):=by rw[jU (by omega) (by omega)];omega
  have e3:=(w.trans u2).trans u3;simp only[gu,gs,cD,reduceIte,cJ,Nat.reduceAdd];rw[pN] at hr;refine⟨⟨used+(iW size gen ser (xs.drop used) 0 0 []).2,ser+1,f,v4,_,F4,by omega,by omega,by rw[jK,ho];rfl,by omega,rfl,O4,fF.grow e3 g4,e3.fresh u4 fF,?_⟩,by simp[fN,x9];omega⟩;rw[hr,uV,Nat.add_assoc];rfl
def Hd.cells(h:Hd):List Value:=[.int .u64 (h.gen:Int),.int .i64 (h.seg:Int)]
def Hd.v(h:Hd):Value:=.agg h.cells.toArray
def Hd.isC(h:Hd):∀v∈h.cells,fH v=true:=by simp[Hd.cells,fH]
def aBr:cC PG (build cL #[])=some Hd.zero.v:=by kernel_rfl
def aV5(a b:Int):cC PG (build cL #[(0,.int .u64 a),(1,.int .i64 b)])=some (.agg #[.int .u64 a,.int .i64 b]):=by kernel_rfl
def aQA(a:Int):cC PG (build cL #[(0,.int .u64 a)])=some (.agg #[.int .u64 a,.int .i64 0]):=by kernel_rfl
def vC{h:PH}{r:Nat}{x:Hd}(B:Bx h r x.cells):cB PG h (loadAt cL (pT r 0))=some x.v:=cL.agg B (by show 0+2≤2;decide)
def aXQ{h:PH}{d:Nat}(q q':Hd):cB PG h (Op.equalIn (d+1+1) cL q.v q'.v)=some (decide (q=q')):=by
 unfold Hd.v;rw[aAG cL.und (by kernel_rfl) (λf=>match f.offset with|0=>(q.gen:Int)==(q'.gen:Int)|_=>(q.seg:Int)==(q'.seg:Int))]
 ·congr 1;rw[xE];obtain⟨a,b⟩:=q;obtain⟨a',b'⟩:=q';simp;omega
 ·intro f hf;simp only[iM,zLg,or_false] at hf;rcases hf with rfl|rfl
  ·exact⟨by decide,_,_,iC cI.und rfl rfl,iC cI.und rfl rfl,qI cI.und⟩
  ·exact⟨by decide,_,_,iC aR.und rfl rfl,iC aR.und rfl rfl,qI aR.und⟩
def aRB{h:PH}{x y:Operand}(q q':Hd):cB PG h (fJ .neq cL x y q.v q'.v)=some (.bool (!decide (q=q'))):=aJY (by kernel_rfl) (aXQ (d:=9998) q q')
def aMv{h:PH}(size:Nat){k:cF}(hk:k (.bool (decide (fS size))) h):bW PG aDd #[.int .i64 (size:Int)] h k:=by
 apply aGv.call;unfold aGv;by_cases h1:64≤size
 ·have g1:((64:Int)≤(size:Int))=True:=eq_true (by omega);have e:decide ((size:Int)≤512)=decide (fS size):=by
   rw[xE,decide_eq_true_iff,decide_eq_true_iff];unfold fS;omega
  simp only[g1,cD,reduceIte,cJ,Nat.reduceAdd];rw[e];exact hk
 ·have g1:((64:Int)≤(size:Int))=False:=eq_false (by omega);have e:decide (fS size)=false:=decide_eq_false (λx=>h1 x.1);rw[e] at hk;simp only[g1,cD,reduceIte,cJ,Nat.reduceAdd];exact hk
def aPA{h:PH}(size:Nat)(x:Hd)(hg:x.gen<18446744073709551616)(hs:x.seg<1000000){k:cF}(hk:∀h',cX h h'->k (.tuple #[.string (tx (fQ size x).1),.int .i64 (fQ size x).2]) h'):bW PG aDH #[.int .i64 (size:Int),x.v] h k:=by
 apply aIm.call;unfold aIm;intro r1 hr1
 try rw[cO]
 have u1:cX h (h.set r1 (.cells (Value.cells x.v) cL)):=cV.new hr1;have B1:Bx (h.set r1 (.cells (Value.cells x.v) cL)) r1 x.cells:=Bx.new;generalize h.set r1 (.cells (Value.cells x.v) cL)=h1 at *;have bad:(¬fS size∨x.gen=0∨1<x.seg)->k (.tuple #[.string {data:=#[]},.int .i64 1]) h1:=λc=>by
  have e:fQ size x=([],1):=by unfold fQ;rw[if_pos c]
  have:=hk h1 u1;rw[e] at this;exact this
 refine aMv size ?_;have b0:cU h1 ⟨r1,0,none⟩=some (.int .u64 (x.gen:Int)):=B1.cell 0;have b1:cU h1 ⟨r1,0+1,none⟩=some (.int .i64 (x.seg:Int)):=B1.cell 1;by_cases c1:fS size
 ·have h64:=c1.1;have h512:=c1.2;by_cases c2:x.gen=0
  ·have q2:((x.gen:Int)==0)=true:=by simp[c2]
   simp only[c1,decide_true,cL.f0,cI.load,b0,fO,q2,cD,reduceIte,cJ,Nat.reduceAdd];exact bad (.inr (.inl c2))
  ·have q2:((x.gen:Int)==0)=false:=by rw[beq_eq_false_iff_ne];omega
   have g3:((x.seg:Int)<0)=False:=eq_false (by omega);by_cases c3:1<x.seg
   ·have g4:((1:Int)<(x.seg:Int))=True:=eq_true (by omega);simp only[c1,decide_true,cL.f0,cL.f1,cI.load,aR.load,b0,b1,fO,q2,g3,g4,cD,reduceIte,cJ,Nat.reduceAdd];exact bad (.inr (.inr c3))
   ·have g4:((1:Int)<(x.seg:Int))=False:=eq_false (by omega);have w14:IntKind.i64.wrap ((size:Int)-14)=((size-14:Nat):Int):=by rw[eI (by omega) (by omega)];omega
    have e:fQ size x=(mV (nI size x),0):=by unfold fQ;rw[if_neg (by rintro(a|a|a);exact a c1;exact c2 a;exact c3 a)]
    rw[e] at hk;simp only[c1,decide_true,cL.f0,cL.f1,cI.load,aR.load,b0,b1,fO,q2,g3,g4,cD,reduceIte,cJ,Nat.reduceAdd];intro r45 hr45
    try rw[cO]
    have S0:=WN.start hr45;have u2:cX h1 (h1.set r45 (.cells (dD PG eN) eN)):=cV.new hr45;generalize h1.set r45 (.cells (dD PG eN) eN)=h2 at *;refine aNo (ys:=[72]) S0 (by simp) (by simp) λh3 F3 x3 e3 S3 K3=>?_;have c0:cU h3 ⟨r1,0,none⟩=some (.int .u64 (x.gen:Int)):=(B1.ext S3.upd).cell 0;simp only[cL.f0,cI.load,c0,cD,reduceIte,cJ,Nat.reduceAdd];refine aDu S3 (by rw[e3];simp) hg λh4 F4 x4 e4 S4 K4=>?_;have c1':cU h4 ⟨r1,0+1,none⟩=some (.int .i64 (x.seg:Int)):=(B1.ext S4.upd).cell 1;simp only[cL.f1,aR.load,c1',cD,reduceIte,cJ,Nat.reduceAdd];refine aAi S4 (by rw[e4,e3];simp[xK,gS]) (x.seg:Int) λh5 F5 x5 e5 S5 K5=>?_;have e5':x5=(0,[72]++(be x.gen 8++be x.seg 1)):=by
     rw[e5,e4,e3];unfold kB xK;rw[if_pos ⟨by omega,by omega⟩];simp
    simp only[w14,cD,reduceIte,cJ,Nat.reduceAdd];refine aKF (by omega) λh6 u6=>?_;refine aNo (WS.ext S5 u6) (by rw[e5'];simp[gS]) (by simp;omega) λh7 F7 x7 e7 S7 K7=>?_;refine aK5 S7.at_ λh8 u8=>?_;have e7':x7=(0,nI size x):=by
     rw[e7,e5'];unfold nI kQ;simp only[uV]
    have eb:aDC (x7.1,x7.2)=(nI size x,0):=by
     rw[e7'];rfl
    rw[eb];have hl:(nI size x).length≤1000000:=by
     unfold nI;simp only[jK,gS,vT,iN,kW];omega
    simp only[cD,reduceIte,cJ,Nat.reduceAdd];refine aPa _ hl λh9 u9=>?_;exact hk h9 ((u1.trans (S7.upd.fresh u8 S7.fresh)).trans u9)
 ·simp only[c1,decide_false,cD,reduceIte,cJ,Nat.reduceAdd];exact bad (.inl c1)
def aUI{h:PH}(size:Nat)(s:Tx)(hs:s.length≤1000000){k:cF}(hk:∀h',cX h h'->k (.tuple #[(fW size s).1.v,.int .i64 (fW size s).2]) h'):bW PG aIG #[.int .i64 (size:Int),.string (tx s)] h k:=by
 apply aI6.call;unfold aI6;intro r1 hr1
 try rw[cO]
 have Z1:=cL.zbox (h:=h) (r:=r1);have u1:cX h (h.set r1 (.cells (dD PG cL) cL)):=cV.new hr1;generalize h.set r1 (.cells (dD PG cL) cL)=h1 at *;have f1:dX h [r1]:=dX.one hr1;have fin:∀{h':PH} (f:Hd) (e:Int),fW size s=(f,e)->(∃cs:List Value,cs.length=2∧Bx h' r1 cs)->cX h h'->cM PG (cP cL (pT r1 0) f.v) h' λ_ h8=>bZ (cB PG h8 (loadAt cL (pT r1 0))) λv9=>k (.tuple #[v9,.int .i64 e]) h8:=by
  intro h' f e hr ⟨cs,hcs,B⟩ w;refine cL.put B (vs:=f.cells) (o:=0) rfl (by omega) f.isC λh2 B2 u2=>?_;rw[zLd,zLU,aAr (by omega),zLQ] at B2;simp only[vC B2,cD,reduceIte,cJ,Nat.reduceAdd];have:=hk h2 (w.fresh u2 f1);rw[hr] at this;exact this
 have bad:∀{h':PH} (e:Int),fW size s=(Hd.zero,e)->(∃cs:List Value,cs.length=2∧Bx h' r1 cs)->cX h h'->cM PG (cP cL (pT r1 0) Hd.zero.v) h' λ_ h8=>bZ (cB PG h8 (loadAt cL (pT r1 0))) λv9=>k (.tuple #[v9,.int .i64 e]) h8:=λe=>fin Hd.zero e;refine aMv size ?_;by_cases ok:fS size
 ·have h64:=ok.1;have h512:=ok.2;simp only[ok,decide_true,iL,dY,cD,reduceIte,cJ,Nat.reduceAdd];by_cases hl:s.length=size
  ·have q:((s.length:Int) !=(size:Int))=false:=by simp[hl]
   simp only[q,cD,reduceIte,cJ,Nat.reduceAdd];refine aOa s hs λh4 u4=>?_;have e4:=u1.trans u4;cases hsl:nP s with
   | false=>
    have er:fW size s=(Hd.zero,8):=by unfold fW;rw[if_neg (by simpa using ok),if_neg (by simpa using hl),if_pos hsl]
    simp only[aBr,cD,reduceIte,cJ,Nat.reduceAdd];exact bad 8 er ⟨_,rfl,Z1.ext u4⟩ e4
   | true=>
    have er:fW size s=if (fQ size (uH s)).2=0∧(fQ size (uH s)).1=s then(uH s,0) else(Hd.zero,5):=by
     unfold fW;rw[if_neg (by simpa using ok),if_neg (by simpa using hl),if_neg (by simp[hsl])]
    have c1:cC PG (Instr.sliceAt bR (.string (tx s)) (some (.int .i64 1)) none none)=some (.string (tx (s.drop 1))):=by
     have:=kI (P:=PG) (t:=bR) (l:=s) (i:=1) (j:=s.length) (lo:=some (.int .i64 1)) (hi:=none) bR.und (.inr ⟨_,rfl⟩) (.inl ⟨rfl,rfl⟩) (by omega) (mS _);rw[this,zLJ]
    simp only[c1,cD,reduceIte,cJ,Nat.reduceAdd];refine aHI (s.drop 1) λa h5 R5 u5 ha=>?_;have n1a:r1≠a:=(Z1.ext u4).apart ha;have fa:dX h [a]:=dX.one (e4.none ha);refine aBg R5 λh6 R6 u6=>?_;refine aAK R6 λh7 R7 u7=>?_;show bZ (cC PG (build cL #[(0,.int .u64 ((uH s).gen:Int)),(1,.int .i64 ((uH s).seg:Int))])) _;have u67:=u6.trans u7;have Z7:=((Z1.ext u4).ext u5).upd u67 (by simpa using n1a);have e7:=(e4.trans u5).fresh u67 fa;simp only[aV5,cD,reduceIte,cJ,Nat.reduceAdd];intro r31 hr31
    try rw[cO]
    refine cL.fill (vs:=(uH s).cells) hr31 rfl (uH s).isC λh8 B8 u8=>?_;have e8:=e7.trans u8;have lt1:(uH s).gen<18446744073709551616:=uP (0,s.drop 1) 8;have lt2:(uH s).seg<256:=uP (fC (0,s.drop 1) 8).2 1;simp only[vC B8,cD,reduceIte,cJ,Nat.reduceAdd];refine aPA size (uH s) lt1 (by omega) λh9 u9=>?_;have Zx:∃cs:List Value,cs.length=2∧Bx h9 r1 cs:=⟨_,rfl,(Z7.ext u8).ext u9⟩;have e9:=e8.trans u9;by_cases c2:(fQ size (uH s)).2=0
    ·have q2:((fQ size (uH s)).2 !=0)=false:=by simp[c2]
     by_cases c3:(fQ size (uH s)).1=s
     ·have q3:decide ((fQ size (uH s)).1=s)=true:=decide_eq_true c3;simp only[dY,q2,aKO,q3,vC (B8.ext u9),cD,reduceIte,cJ,Nat.reduceAdd];exact fin (uH s) 0 (by rw[er,if_pos ⟨c2,c3⟩]) Zx e9
     ·have q3:decide ((fQ size (uH s)).1=s)=false:=decide_eq_false c3;simp only[dY,q2,aKO,q3,aBr,cD,reduceIte,cJ,Nat.reduceAdd];exact bad 5 (by rw[er,if_neg (λx=>c3 x.2)]) Zx e9
    ·have q2:((fQ size (uH s)).2 !=0)=true:=by simp[c2]
     simp only[dY,q2,aBr,cD,reduceIte,cJ,Nat.reduceAdd];exact bad 5 (by rw[er,if_neg (λx=>c2 x.1)]) Zx e9
  ·have q:((s.length:Int) !=(size:Int))=true:=by
    rw[bne_iff_ne];omega
   have er:fW size s=(Hd.zero,6):=by unfold fW;rw[if_neg (by simpa using ok),if_pos hl]
   simp only[q,aBr,cD,reduceIte,cJ,Nat.reduceAdd];exact bad 6 er ⟨_,rfl,Z1⟩ u1
 ·have er:fW size s=(Hd.zero,1):=by unfold fW;rw[if_pos ok]
  simp only[ok,decide_false,aBr,cD,reduceIte,cJ,Nat.reduceAdd];exact bad 1 er ⟨_,rfl,Z1⟩ u1
def aFF(size:Nat)(x y:Tx):Nat->Hd×Int
 | 0=>(Hd.zero,-1)
 | 1=>wK (Hd.zero,-1) 0 (fW size x).1
 | _=>mY size x y
def aRi{h:PH}{v:Value}(size:Nat)(x y:Tx)(S:hC h 1 v ([x,y].map kA))(hx:x.length≤1000000)(hy:y.length≤1000000){k:cF}(hk:∀h',cX h h'->k (.tuple #[(mY size x y).1.v,.int .i64 (mY size x y).2]) h'):bW PG aFN #[.int .i64 (size:Int),v] h k:=by
 apply aFf.call;unfold aFf;intro r1 hr1
 try rw[cO]
 have Z1:=cL.zbox (h:=h) (r:=r1);have u1:cX h (h.set r1 (.cells (dD PG cL) cL)):=cV.new hr1;generalize h.set r1 (.cells (dD PG cL) cL)=h1 at *;simp only[aBr,cD,reduceIte,cJ,Nat.reduceAdd];intro r4 hr4
 try rw[cO]
 refine cL.fill (vs:=Hd.zero.cells) hr4 rfl Hd.zero.isC λh2 B2 u2=>?_;have Z2:=Z1.ext u2;have n14:r1≠r4:=Z1.apart hr4;have e2:=u1.trans u2;have f1:dX h [r1]:=dX.one hr1;have f4:dX h [r4]:=dX.one (u1.none hr4);have lv:cC PG (Builtin.len_ #[dE] aR #[v])=some (.int .i64 2):=aAR S;simp only[lv,cD,reduceIte,cJ,Nat.reduceAdd];refine⟨λvs h'=>∃i:Nat,i≤2∧vs=[.int .i64 (size:Int),pT r1 0,pT r4 0,.int .i64 (aFF size x y i).2,v,.int .i64 2,.int .i64 (i:Int)]∧Bx h' r4 (aFF size x y i).1.cells∧(∃cs:List Value,cs.length=2∧Bx h' r1 cs)∧cX h h',fN 2 6,⟨0,by omega,rfl,B2,⟨_,rfl,Z2⟩,e2⟩,?_⟩;rintro ρ h' ⟨i,hi,hvs,B,⟨cs,hcs,Zb⟩,w⟩;simp only[hM,jA,kP,and_true] at hvs;obtain⟨x0,x4,x6,x7,x13,x14,x15⟩:=hvs;unfold aHn;rw[x0,x4,x6,x7,x13,x14,x15];by_cases hlt:i<2
 ·have g:((i:Int)<2)=True:=eq_true (by omega);have gi:=nR (i:=i) (by omega);obtain⟨s,hs⟩:∃s,[x,y][i]? =some s:=⟨_,kV (show i<[x,y].length from hlt)⟩;have hsl:s.length≤1000000:=by
   have:=aAB hs;simp only[iM,zLg,or_false] at this;rcases this with rfl|rfl<;>assumption
  obtain⟨a,i1,i2⟩:=aI9 (S.ext w) hs;have step:aFF size x y (i+1)=wK (aFF size x y i) (i:Int) (fW size s).1:=by
   have:i=0∨i=1:=by omega
   rcases this with rfl|rfl
   ·simp at hs;subst hs;rfl
   ·simp at hs;subst hs;rfl
  simp only[g,i1,i2,cD,reduceIte,cJ,Nat.reduceAdd];refine aUI size s hsl λh3 u3=>?_;simp only[cD,reduceIte,cJ,Nat.reduceAdd];intro r18 hr18
  try rw[cO]
  refine cL.fill (vs:=(fW size s).1.cells) hr18 rfl (fW size s).1.isC λh5 B5 u5=>?_;have e5:=(w.trans u3).trans u5;have D4:=(B.ext u3).ext u5;have D1:=(Zb.ext u3).ext u5;have b0:cU h5 ⟨r18,0,none⟩=some (.int .u64 ((fW size s).1.gen:Int)):=B5.cell 0;have c0:cU h5 ⟨r4,0,none⟩=some (.int .u64 ((aFF size x y i).1.gen:Int)):=D4.cell 0;by_cases c1:(fW size s).1=Hd.zero
  ·have q1:decide ((fW size s).1=Hd.zero)=true:=decide_eq_true c1;have en:aFF size x y (i+1)=aFF size x y i:=by rw[step];exact if_neg (λz=>z.1 c1)
   simp only[vC B5,aBr,aRB,q1,cD,reduceIte,cJ,Nat.reduceAdd];unfold zL aB2;simp only[gi,cD,reduceIte,cJ,Nat.reduceAdd];rw[←en];rw[←en] at D4;exact⟨⟨i+1,by omega,rfl,D4,⟨cs,hcs,D1⟩,e5⟩,by simp[fN,x15];omega⟩
  ·have q1:decide ((fW size s).1=Hd.zero)=false:=decide_eq_false c1;by_cases c2:(aFF size x y i).1.gen<(fW size s).1.gen
   ·have g2:(((aFF size x y i).1.gen:Int)<((fW size s).1.gen:Int))=True:=eq_true (by omega);have en:aFF size x y (i+1)=((fW size s).1,(i:Int)):=by rw[step];exact if_pos ⟨c1,c2⟩
    simp only[vC B5,aBr,aRB,q1,cL.f0,cI.load,b0,c0,g2,cD,reduceIte,cJ,Nat.reduceAdd];refine cL.put D4 (vs:=(fW size s).1.cells) (o:=0) rfl (by show 0+2≤2;decide) (fW size s).1.isC λh6 B6 u6=>?_;have B6:Bx h6 r4 (fW size s).1.cells:=B6;unfold zL aB2;simp only[gi,cD,reduceIte,cJ,Nat.reduceAdd];exact⟨⟨i+1,by omega,by rw[en],by rw[en];exact B6,⟨cs,hcs,D1.upd u6 (by simpa using n14)⟩,e5.fresh u6 f4⟩,by simp[fN,x15];omega⟩
   ·have g2:(((aFF size x y i).1.gen:Int)<((fW size s).1.gen:Int))=False:=eq_false (by omega);have en:aFF size x y (i+1)=aFF size x y i:=by rw[step];exact if_neg (λz=>c2 z.2)
    simp only[vC B5,aBr,aRB,q1,cL.f0,cI.load,b0,c0,g2,cD,reduceIte,cJ,Nat.reduceAdd];unfold zL aB2;simp only[gi,cD,reduceIte,cJ,Nat.reduceAdd];rw[←en];rw[←en] at D4;exact⟨⟨i+1,by omega,rfl,D4,⟨cs,hcs,D1⟩,e5⟩,by simp[fN,x15];omega⟩
 ·have g:((i:Int)<2)=False:=eq_false (by omega);obtain rfl:i=2:=by omega
  have B:Bx h' r4 (mY size x y).1.cells:=B;simp only[g,vC B,cD,reduceIte,cJ,Nat.reduceAdd];refine cL.put Zb (vs:=(mY size x y).1.cells) (o:=0) rfl (by omega) (mY size x y).1.isC λh6 B6 u6=>?_;rw[zLd,zLU,aAr (by omega),zLQ] at B6;simp only[vC B6,cD,reduceIte,cJ,Nat.reduceAdd];exact hk h6 (w.fresh u6 f1)
def aU0{h:PH}(x:Hd)(hg:x.gen<18446744073709551616){k:cF}(hk:∀h',cX h h'->k (.tuple #[(iB x).1.v,.int .i64 (iB x).2]) h'):bW PG aHe #[x.v] h k:=by
 apply aHp.call;unfold aHp;intro r1 hr1
 try rw[cO]
 have u1:cX h (h.set r1 (.cells (Value.cells x.v) cL)):=cV.new hr1;have B1:Bx (h.set r1 (.cells (Value.cells x.v) cL)) r1 x.cells:=Bx.new;generalize h.set r1 (.cells (Value.cells x.v) cL)=h1 at *;intro r3 hr3
 try rw[cO]
 have Z3:=cL.zbox (h:=h1) (r:=r3);have u3:cX h1 (h1.set r3 (.cells (dD PG cL) cL)):=cV.new hr3;have C1:=B1.ext u3;generalize h1.set r3 (.cells (dD PG cL) cL)=h3 at *;have e3:=u1.trans u3;have f3:dX h [r3]:=dX.one (u1.none hr3);have b0:cU h3 ⟨r1,0,none⟩=some (.int .u64 (x.gen:Int)):=C1.cell 0;have fin:∀{h':PH} (f:Hd) (e:Int),iB x=(f,e)->(∃cs:List Value,cs.length=2∧Bx h' r3 cs)->cX h h'->cM PG (cP cL (pT r3 0) f.v) h' λ_ h8=>bZ (cB PG h8 (loadAt cL (pT r3 0))) λv9=>k (.tuple #[v9,.int .i64 e]) h8:=by
  intro h' f e hr ⟨cs,hcs,B⟩ w;refine cL.put B (vs:=f.cells) (o:=0) rfl (by omega) f.isC λh2 B2 u2=>?_;rw[zLd,zLU,aAr (by omega),zLQ] at B2;simp only[vC B2,cD,reduceIte,cJ,Nat.reduceAdd];have:=hk h2 (w.fresh u2 f3);rw[hr] at this;exact this
 by_cases c:x.gen=18446744073709551615
 ·have q:((x.gen:Int)==18446744073709551615)=true:=by rw[beq_iff_eq];omega
  simp only[cL.f0,cI.load,b0,fO,q,aBr,cD,reduceIte,cJ,Nat.reduceAdd];exact fin Hd.zero 12 (by unfold iB;rw[if_pos c]) ⟨_,rfl,Z3⟩ e3
 ·have q:((x.gen:Int)==18446744073709551615)=false:=by rw[beq_eq_false_iff_ne];omega
  have wg:IntKind.u64.wrap ((x.gen:Int)+1)=((x.gen+1:Nat):Int):=by rw[jU (by omega) (by omega)];omega
  simp only[cL.f0,cI.load,b0,fO,q,wg,aQA,cD,reduceIte,cJ,Nat.reduceAdd];intro r16 hr16
  try rw[cO]
  refine cL.fill (vs:=Hd.cells ⟨x.gen+1,0⟩) hr16 rfl (Hd.isC _) λh5 B5 u5=>?_;have b1:cU h5 ⟨r1,0+1,none⟩=some (.int .i64 (x.seg:Int)):=(C1.ext u5).cell 1;have n316:r3≠r16:=Z3.apart hr16;have e5:=e3.trans u5;by_cases c2:x.seg=0
  ·have q2:((x.seg:Int)==0)=true:=by simp[c2]
   simp only[cL.f1,aR.load,b1,fO,q2,cD,reduceIte,cJ,Nat.reduceAdd];refine aR.put (o:=1) B5 (by show 1<2;decide) rfl λh6 B6 u6=>?_;have B6:Bx h6 r16 (Hd.cells ⟨x.gen+1,1⟩):=B6;unfold aDR;simp only[vC B6,cD,reduceIte,cJ,Nat.reduceAdd];exact fin ⟨x.gen+1,1⟩ 0 (by unfold iB;rw[if_neg c,if_pos c2]) ⟨_,rfl,(Z3.ext u5).upd u6 (by simpa using n316)⟩ (e5.fresh u6 (dX.one (e3.none hr16)))
  ·have q2:((x.seg:Int)==0)=false:=by rw[beq_eq_false_iff_ne];omega
   simp only[cL.f1,aR.load,b1,fO,q2,cD,reduceIte,cJ,Nat.reduceAdd];unfold aDR;simp only[vC B5,cD,reduceIte,cJ,Nat.reduceAdd];exact fin ⟨x.gen+1,0⟩ 0 (by unfold iB;rw[if_neg c,if_neg c2]) ⟨_,rfl,Z3.ext u5⟩ e5
structure SpJ(h0 h:PH)(l:Nat)(rec:Loop)(r1 r3 r5 r11 rm rs r17:Nat)(size gen ser parts:Nat)(t:Tx)(out:List Tx)(v:Value)(F:List Nat):Prop where
 loop:h l=some (.loop rec)
 b1:Bx h r1 [.int .i64 (size:Int)]
 b3:Bx h r3 [.int .u64 (gen:Int)]
 b5:Bx h r5 [.int .u64 (ser:Int)]
 b11:Bx h r11 [.int .i64 (parts:Int)]
 bm:Bx h rm [.int .i64 ((size-25:Nat):Int)]
 bs:Bx h rs [.string (tx t)]
 b17:Bx h r17 [v]
 own:eD h bR 1 v (out.map kA) F
 fresh:dX h0 F
 apart:∀b∈F,b∉[l,r1,r3,r5,r11,rm,rs,r17]
 ext:cX h0 h
 fl:h0 l=none
 f17:h0 r17=none
 fs:h0 rs=none
def gI{h:PH}{r:Nat}{v:Value}(B:Bx h r [v]):cU h ⟨r,0,none⟩=some v:=B.cell 0
def nd8{l r1 r3 r5 r11 rm rs r17:Nat}(hn: [l,r1,r3,r5,r11,rm,rs,r17].Nodup):(r1∉[l]∧r3∉[l]∧r5∉[l]∧r11∉[l]∧rm∉[l]∧rs∉[l]∧r17∉[l])∧(l∉[r17]∧r1∉[r17]∧r3∉[r17]∧r5∉[r17]∧r11∉[r17]∧rm∉[r17]∧rs∉[r17])∧(l∉[rs]∧r1∉[rs]∧r3∉[rs]∧r5∉[rs]∧r11∉[rs]∧rm∉[rs]∧r17∉[rs]):=by
 simp only[aFX,iM,zLg,or_false,not_or,List.nodup_nil,and_true] at hn;simp only[iI];obtain⟨⟨l1,l3,l5,l11,lm,ls,l17⟩,⟨a3,a5,a11,am,a_s,a17⟩,⟨c5,c11,cm,cs,c17⟩,⟨d11,dm,ds,d17⟩,⟨em,es,e17⟩,⟨fs,f17⟩,g17,-⟩:=hn;exact⟨⟨Ne.symm l1,Ne.symm l3,Ne.symm l5,Ne.symm l11,Ne.symm lm,Ne.symm ls,Ne.symm l17⟩,⟨l17,a17,c17,d17,e17,f17,g17⟩,⟨ls,a_s,cs,ds,es,fs,Ne.symm g17⟩⟩
def aS8{h0 h:PH}{l:Nat}{rec:Loop}{fn:FuncId}{tmps:Array Value}{D:Nat}{r1 r3 r5 r11 rm rs r17 size gen ser parts:Nat}{t:Tx}{out:List Tx}{v:Value}{F:List Nat}(ok:fS size)(g1:gen<18446744073709551616)(g2:ser<18446744073709551616)
  (hrec:rec= {state:=.ready,pending:=none,fn,tmps,params:=#[27,28],assign:=mC,body:=lJ,defers:=D}) (hsz:tmps.size=57) (t4:tmps.getD 4 undef=pT r1 0) (t5:tmps.getD 5 undef=pT r3 0) (t6:tmps.getD 6 undef=pT r5 0) (t10:tmps.getD 10 undef=pT r11 0) (t11:tmps.getD 11 undef=pT r17 0)
  (hn: [l,r1,r3,r5,r11,rm,rs,r17].Nodup) (J:SpJ h0 h l rec r1 r3 r5 r11 rm rs r17 size gen ser parts t out v F) {i:Nat} {p:Tx} (hi:i<256) (hpa:parts<256) (hp:p.length+25≤size) (ho:out.length≤1000) {k:cF}
  (hk:∀h' v' F',SpJ h0 h' l rec r1 r3 r5 r11 rm rs r17 size gen ser parts t (out++[nQ size gen ser i parts p]) v' F'->k (.bool true) h'):
  xP PG (aGC l) #[.int .i64 (i:Int),.string (tx p)] h k:=by
 have h64:=ok.1;have h512:=ok.2;obtain⟨⟨nl1,nl3,nl5,nl11,nlm,nls,nl17⟩,⟨m0,m1,m3,m5,m11,mm,ms⟩,⟨s0,s1,s3,s5,s11,sm,s17⟩⟩:=nd8 hn;refine aOG J.loop (by rw[hrec];rfl) ?_;have e1:rec.assign=mC:=by rw[hrec]
 have e2:rec.body=lJ:=by rw[hrec]
 have e3:(rec.params.zip #[.int .i64 (i:Int),.string (tx p)]).foldl (λtmps (t,a)=>tmps.setIfInBounds t a) rec.tmps=(tmps.setIfInBounds 27 (.int .i64 (i:Int))).setIfInBounds 28 (.string (tx p)):=by rw[hrec];simp
 rw[e1,e2,e3];refine tH.next (by simpa using hsz) ?_;have gd:∀j,j≠27->j≠28->((tmps.setIfInBounds 27 (.int .i64 (i:Int))).setIfInBounds 28 (.string (tx p))).getD j undef=tmps.getD j undef:=λj a b=>by
  simp[aEz,Array.getElem?_setIfInBounds,Ne.symm a,Ne.symm b]
 have t27:((tmps.setIfInBounds 27 (.int .i64 (i:Int))).setIfInBounds 28 (.string (tx p))).getD 27 undef= .int .i64 (i:Int):=by
  simp[aEz,Array.getElem?_setIfInBounds,hsz]
 have t28:((tmps.setIfInBounds 27 (.int .i64 (i:Int))).setIfInBounds 28 (.string (tx p))).getD 28 undef= .string (tx p):=by
  simp[aEz,Array.getElem?_setIfInBounds,hsz]
 rw[gd 4 (by decide) (by decide),gd 5 (by decide) (by decide),gd 6 (by decide) (by decide),gd 10 (by decide) (by decide),gd 11 (by decide) (by decide),t27,t28,t4,t5,t6,t10,t11];unfold tH;refine aNx J.loop (by rw[hrec]) ?_;have u1:cV [l] h (h.set l (.loop {rec with state:=.busy})):=cV.set (by simp);have bl1:(h.set l (.loop {rec with state:=.busy})) l=some (.loop {rec with state:=.busy}):=eB;generalize h.set l (.loop {rec with state:=.busy})=h1 at *;have B1:=J.b1.upd u1 nl1;have B3:=J.b3.upd u1 nl3;have B5:=J.b5.upd u1 nl5;have B11:=J.b11.upd u1 nl11;have Bm:=J.bm.upd u1 nlm;have Bs:=J.bs.upd u1 nls;have B17:=J.b17.upd u1 nl17;have apart:=J.apart;have O1:=J.own.upd u1 (λb hb hm=>apart b hb (by simp only[iI] at hm;simp[hm]));intro r24 hr24
 try rw[cO]
 have S0:=WN.start hr24;generalize h1.set r24 (.cells (dD PG eN) eN)=h2 at *;refine aNo (ys:=[82]) S0 (by simp) (by simp) λh3 F3 x3 e3 S3 K3=>?_;simp only[cI.load,gI (B3.ext S3.upd),cD,reduceIte,cJ,Nat.reduceAdd];refine aDu S3 (by rw[e3];simp) g1 λh4 F4 x4 e4 S4 K4=>?_;simp only[cI.load,gI (B5.ext S4.upd),cD,reduceIte,cJ,Nat.reduceAdd];refine aDu S4 (by rw[e4,e3];simp[xK,gS]) g2 λh5 F5 x5 e5 S5 K5=>?_;refine aAi S5 (by rw[e5,e4,e3];simp[xK,gS]) (i:Int) λh6 F6 x6 e6 S6 K6=>?_;have e6':x6=(0,[82]++(be gen 8++(be ser 8++be i 1))):=by
  rw[e6,e5,e4,e3];unfold kB xK;rw[if_pos ⟨by omega,by omega⟩];simp
 simp only[aR.load,gI (B11.ext S6.upd),cD,reduceIte,cJ,Nat.reduceAdd];refine aAi S6 (by rw[e6'];simp[gS]) (parts:Int) λh7 F7 x7 e7 S7 K7=>?_;have e7':x7=(0,[82]++(be gen 8++(be ser 8++(be i 1++be parts 1)))):=by
  rw[e7,e6'];unfold kB;rw[if_pos ⟨by omega,by omega⟩];simp
 refine aR9 S7 (by rw[e7'];simp[gS]) p λh8 F8 x8 e8 S8 K8=>?_;have e8':x8=(0,[82]++(be gen 8++(be ser 8++(be i 1++(be parts 1++(be p.length 2++p)))))):=by
  rw[e8,e7'];unfold aEX;rw[if_pos (by omega)];simp
 have w1:IntKind.i64.wrap ((size:Int)-25)=((size-25:Nat):Int):=by rw[eI (by omega) (by omega)];omega
 have w2:IntKind.i64.wrap (((size-25:Nat):Int)-(p.length:Int))=((size-25-p.length:Nat):Int):=by rw[eI (by omega) (by omega)];omega
 simp only[aR.load,gI (B1.ext S8.upd),w1,iL,w2,cD,reduceIte,cJ,Nat.reduceAdd];refine aKF (by omega) λh9 u9=>?_;refine aNo (WS.ext S8 u9) (by rw[e8'];simp[gS];omega) (by simp;omega) λh10 F10 x10 e10 S10 K10=>?_;refine aK5 S10.at_ λh11 u11=>?_;have e10':x10=(0,mU size gen ser i parts p):=by
  rw[e10,e8'];unfold mU kQ;simp only[uV]
 have eb:aDC (x10.1,x10.2)=(mU size gen ser i parts p,0):=by
  rw[e10'];rfl
 have w11:cX h1 h11:=S10.upd.fresh u11 S10.fresh;rw[eb];have hbl:=aF5 (size:=size) (gen:=gen) (ser:=ser) (k:=i) (parts:=parts) hp;simp only[dE.load,gI (B17.ext w11),cD,reduceIte,cJ,Nat.reduceAdd];refine aPa _ (by omega) λh12 u12=>?_;have w12:=w11.trans u12;refine⟨gI (B17.ext w12),?_⟩;simp only[aFj,cD,reduceIte,cJ,Nat.reduceAdd];intro r56 hr56;refine gV ?_
 try rw[cO]
 have S1:=(aFW (h:=h12) (r:=r56) (mV (mU size gen ser i parts p))).slR;have u13:cX h12 (h12.set r56 (.cells #[.string (tx (mV (mU size gen ser i parts p)))] bR)):=cV.new hr56;generalize h12.set r56 (.cells #[.string (tx (mV (mU size gen ser i parts p)))] bR)=h13 at *;have w13:=w12.trans u13;have O13:=O1.ext w13;refine lG dE.und dE.und bR.info bR.size bR.bytes bR.zero rfl (by decide) O13 S1 (by simp[fH]) (by simp only[iF,iN,kW];omega) ?_;intro v14 h14 F14 O14 u14 g14 _;have O14:eD h14 bR 1 v14 ((out++[nQ size gen ser i parts p]).map kA) F14:=by rw[wA];exact O14
 have kn:∀b,h1 b≠none->h13 b≠none:=λb hb=>by
  cases e:h1 b with
  | none=>exact absurd e hb
  | some o=>rw[w13.get e];simp
 have notF:∀b∈[l,r1,r3,r5,r11,rm,rs,r17],b∉F14:=λb hb hm=>by
  rcases g14 b hm with h1'|h1'
  ·exact apart b h1' hb
  ·simp only[iM,zLg,or_false] at hb;rcases hb with rfl|rfl|rfl|rfl|rfl|rfl|rfl|rfl
   ·exact kn _ (by rw[bl1];simp) h1'
   ·exact kn _ B1.known h1'
   ·exact kn _ B3.known h1'
   ·exact kn _ B5.known h1'
   ·exact kn _ B11.known h1'
   ·exact kn _ Bm.known h1'
   ·exact kn _ Bs.known h1'
   ·exact kn _ B17.known h1'
 have aF:∀b∈[l,r1,r3,r5,r11,rm,rs,r17],b∉F:=λb hb hm=>apart b hm hb;have C:∀{r:Nat} {cs:List Value},r∈[l,r1,r3,r5,r11,rm,rs,r17]->Bx h1 r cs->Bx h14 r cs:=λhr B=>(B.ext w13).upd u14 (aF _ hr);have B17':=C (by simp) B17;refine dE.put B17' (o:=0) (by show 0<1;decide) O14.slR.isc λh15 B15 u15=>?_;have B15:Bx h15 r17 [v14]:=B15;have bl15:h15 l=some (.loop {rec with state:=.busy}):=u15.get (u14.get (w13.get bl1) (aF l (by simp))) m0;refine aSL bl15 ?_;have u16:cV [l] h15 (h15.set l (.loop {{rec with state:=.busy} with state:=if (none:Option Code).isNone then .ready else .done,pending:=none})):=cV.set (by simp);have bl16:(h15.set l (.loop {{rec with state:=.busy} with state:=if (none:Option Code).isNone then .ready else .done,pending:=none})) l=some (.loop rec):=by rw[eB,hrec];rfl
 generalize h15.set l (.loop {{rec with state:=.busy} with state:=if (none:Option Code).isNone then .ready else .done,pending:=none})=h16 at *;have D:∀{r:Nat} {cs:List Value},r∈[l,r1,r3,r5,r11,rm,rs,r17]->r∉[r17]->r∉[l]->Bx h1 r cs->Bx h16 r cs:=λhr h17 hl B=>((C hr B).upd u15 h17).upd u16 hl;have fF14:dX h0 F14:=λb hb=>by
  rcases g14 b hb with h2|h2
  ·exact J.fresh b h2
  ·cases e:h0 b with
   | none=>rfl
   | some o=>
    exfalso;have e1:=J.ext.get e;by_cases hbl:b=l
    ·exact notF l (by simp) (hbl▸hb)
    ·exact kn b (by rw[u1.get e1 (by simpa using hbl)];simp) h2
 refine hk h16 v14 F14 ⟨bl16,D (by simp) m1 nl1 B1,D (by simp) m3 nl3 B3,D (by simp) m5 nl5 B5,D (by simp) m11 nl11 B11,D (by simp) mm nlm Bm,D (by simp) ms nls Bs,B15.upd u16 nl17,(O14.upd u15 (λb hb hm=>by
  simp only[iI] at hm;exact notF r17 (by simp) (hm▸hb))).upd u16 (λb hb hm=>by
  simp only[iI] at hm;exact notF l (by simp) (hm▸hb)),fF14,λb hb hm=>notF b hm hb,((((J.ext.fresh u1 (dX.one J.fl)).trans w13).fresh u14 J.fresh).fresh u15 (dX.one J.f17)).fresh u16 (dX.one J.fl),J.fl,J.f17,J.fs⟩
def aVE{h0 h:PH}{l:Nat}{rec:Loop}{fn:FuncId}{tmps:Array Value}{D:Nat}{r1 r3 r5 r11 rm rs r17 size gen ser:Nat}{s:Tx}{v:Value}{F:List Nat}(ok:fS size)(hs:s.length≤4096)(g1:gen<18446744073709551616)(g2:ser<18446744073709551616)
  (hrec:rec= {state:=.ready,pending:=none,fn,tmps,params:=#[27,28],assign:=mC,body:=lJ,defers:=D}) (hsz:tmps.size=57) (t4:tmps.getD 4 undef=pT r1 0) (t5:tmps.getD 5 undef=pT r3 0) (t6:tmps.getD 6 undef=pT r5 0) (t10:tmps.getD 10 undef=pT r11 0) (t11:tmps.getD 11 undef=pT r17 0)
  (hn: [l,r1,r3,r5,r11,rm,rs,r17].Nodup) (J:SpJ h0 h l rec r1 r3 r5 r11 rm rs r17 size gen ser (dQ size s.length) s [] v F) {k:cF}
  (hk:∀h' v' F' t,SpJ h0 h' l rec r1 r3 r5 r11 rm rs r17 size gen ser (dQ size s.length) t (fZ size gen ser s) v' F'->k (.tuple #[]) h'):
  bW PG aCI #[aGC l,pT rm 0,pT rs 0] h k:=by
 have h64:=ok.1;have h512:=ok.2;have h106:=aMs (n:=s.length) ok;have hp1:=tY (n:=s.length) ok hs;obtain⟨⟨nl1,nl3,nl5,nl11,nlm,nls,nl17⟩,⟨m0,m1,m3,m5,m11,mm,ms⟩,⟨s0,s1,s3,s5,s11,sm,s17⟩⟩:=nd8 hn;apply aEU.call;unfold aEU;refine⟨λvs h'=>∃(i:Nat) (v':Value) (F':List Nat),i<dQ size s.length∧vs=[aGC l,pT rm 0,pT rs 0,.int .i64 (i:Int)]∧SpJ h0 h' l rec r1 r3 r5 r11 rm rs r17 size gen ser (dQ size s.length) (s.drop (i*(size-25))) ((fZ size gen ser s).take i) v' F',fN 200 3,⟨0,v,F,by omega,rfl,by simpa using J⟩,?_⟩;rintro ρ h' ⟨i,v',F',hi,hvs,J'⟩;simp only[hM,jA,kP,and_true] at hvs;obtain⟨x0,x1,x2,x4⟩:=hvs;unfold aHs;rw[x0,x1,x2,x4];obtain⟨pl1,pl2,pl3,pl4⟩:=aFn ok hs hi;have hmin:(if ((s.drop (i*(size-25))).length:Int)<((size-25:Nat):Int) then((s.drop (i*(size-25))).length:Int) else((size-25:Nat):Int))=(((iX (size-25) s i).length:Nat):Int):=by
  unfold iX;rw[mH];split<;>omega
 have hle:(iX (size-25) s i).length≤(s.drop (i*(size-25))).length:=by
  unfold iX;rw[mH];omega
 have c:cC PG (Instr.sliceAt bR (.string (tx (s.drop (i*(size-25))))) none (some (.int .i64 (((iX (size-25) s i).length:Nat):Int))) none)=some (.string (tx (iX (size-25) s i))):=by
  have:=kI (P:=PG) (t:=bR) (l:=s.drop (i*(size-25))) (i:=0) (j:=(iX (size-25) s i).length) (lo:=none) (hi:=some (.int .i64 (((iX (size-25) s i).length:Nat):Int))) bR.und (.inl ⟨rfl,rfl⟩) (.inr ⟨_,rfl⟩) (by omega) hle;rw[this,zLb];congr 3;unfold iX;rw[mH,Nat.min_comm];by_cases q:(s.drop (i*(size-25))).length≤size-25
  ·rw[aGW q,zLJ,rN q]
  ·rw[Nat.min_eq_right (by omega)]
 simp only[aR.load,bR.load,gI J'.bm,gI J'.bs,iL,aMc,hmin,c,cD,reduceIte,cJ,Nat.reduceAdd];refine aS8 ok g1 g2 hrec hsz t4 t5 t6 t10 t11 hn J' (i:=i) (p:=iX (size-25) s i) (by omega) (by omega) pl1 (by rw[mH];omega) λh2 v2 F2 J2=>?_;have et:(fZ size gen ser s).take i++[nQ size gen ser i (dQ size s.length) (iX (size-25) s i)]=(fZ size gen ser s).take (i+1):=by
  rw[zLR];have:(fZ size gen ser s)[i]? =some (nQ size gen ser i (dQ size s.length) (iX (size-25) s i)):=by
   unfold fZ;rw[wV,List.getElem?_range hi];rfl
  rw[this];rfl
 rw[et] at J2;have hdl:(s.drop (i*(size-25))).length=s.length-i*(size-25):=jE;have epl:(iX (size-25) s i).length=min (size-25) (s.length-i*(size-25)):=by
  unfold iX;rw[mH,hdl]
 have hm:(i+1)*(size-25)=i*(size-25)+(size-25):=Nat.succ_mul _ _;by_cases cl:i+1=dQ size s.length
 ·have q:((((iX (size-25) s i).length:Nat):Int)==((s.drop (i*(size-25))).length:Int))=true:=by
   have:=(aCs ok hs cl).1;rw[beq_iff_eq];omega
  simp only[bR.load,gI J2.bs,iL,fO,q,cD,reduceIte,cJ,Nat.reduceAdd];rw[cl,rN (by rw[kK];exact mS _)] at J2;exact hk h2 v2 F2 _ J2
 ·have h3:=aCt (k:=i) ok hs (by omega);have q:((((iX (size-25) s i).length:Nat):Int)==((s.drop (i*(size-25))).length:Int))=false:=by
   rw[beq_eq_false_iff_ne];omega
  have ep:(iX (size-25) s i).length=size-25:=by omega
  have gi:=nR (i:=i) (by omega);have c2:cC PG (Instr.sliceAt bR (.string (tx (s.drop (i*(size-25))))) (some (.int .i64 (((iX (size-25) s i).length:Nat):Int))) none none)=some (.string (tx (s.drop ((i+1)*(size-25))))):=by
   have:=kI (P:=PG) (t:=bR) (l:=s.drop (i*(size-25))) (i:=(iX (size-25) s i).length) (j:=(s.drop (i*(size-25))).length) (lo:=some (.int .i64 (((iX (size-25) s i).length:Nat):Int))) (hi:=none) bR.und (.inr ⟨_,rfl⟩) (.inl ⟨rfl,rfl⟩) hle (mS _);rw[this,zLJ,pN,ep,hm]
  simp only[bR.load,gI J2.bs,iL,fO,q,c2,cD,reduceIte,cJ,Nat.reduceAdd];refine bR.put J2.bs (o:=0) (by show 0<1;decide) rfl λh3 B3 u3=>?_;have B3:Bx h3 rs [.string (tx (s.drop ((i+1)*(size-25))))]:=B3;simp only[gi,cD,reduceIte,cJ,Nat.reduceAdd];refine⟨⟨i+1,v2,F2,by omega,rfl,⟨u3.get J2.loop s0,J2.b1.upd u3 s1,J2.b3.upd u3 s3,J2.b5.upd u3 s5,J2.b11.upd u3 s11,J2.bm.upd u3 sm,B3,J2.b17.upd u3 s17,J2.own.upd u3 (λb hb hm=>by
   simp only[iI] at hm;exact J2.apart b hb (by simp[hm])),J2.fresh,J2.apart,J2.ext.fresh u3 (dX.one J2.fs),J2.fl,J2.f17,J2.fs⟩⟩,by simp[fN,x4];omega⟩
def aPE{h:PH}(size gen ser:Nat)(s:Tx)(ok:fS size)(g1:gen<18446744073709551616)(g2:ser<18446744073709551616)(hl:s.length≤1000000){k:cF}
  (hk:∀h' v F,eD h' bR 1 v ((fZ size gen ser s).map kA) F->dX h F->cX h h'->k (.tuple #[v,.int .i64 (if dQ size s.length=0 then 1 else 0)]) h'):bW PG aCn #[.int .i64 (size:Int),.int .u64 (gen:Int),.int .u64 (ser:Int),.string (tx s)] h k:=by
 have h64:=ok.1;have h512:=ok.2;apply wP.call;unfold wP;intro r1 hr1
 try rw[cO]
 have u1:cX h (h.set r1 (.cells (Value.cells (.int .i64 (size:Int))) aR)):=cV.new hr1;have B1:Bx (h.set r1 (.cells (Value.cells (.int .i64 (size:Int))) aR)) r1 [.int .i64 (size:Int)]:=Bx.new;generalize h.set r1 (.cells (Value.cells (.int .i64 (size:Int))) aR)=h1 at *;intro r3 hr3
 try rw[cO]
 have u3:cX h1 (h1.set r3 (.cells (Value.cells (.int .u64 (gen:Int))) cI)):=cV.new hr3;have B3:Bx (h1.set r3 (.cells (Value.cells (.int .u64 (gen:Int))) cI)) r3 [.int .u64 (gen:Int)]:=Bx.new;generalize h1.set r3 (.cells (Value.cells (.int .u64 (gen:Int))) cI)=h3 at *;intro r5 hr5
 try rw[cO]
 have u5:cX h3 (h3.set r5 (.cells (Value.cells (.int .u64 (ser:Int))) cI)):=cV.new hr5;have B5:Bx (h3.set r5 (.cells (Value.cells (.int .u64 (ser:Int))) cI)) r5 [.int .u64 (ser:Int)]:=Bx.new;generalize h3.set r5 (.cells (Value.cells (.int .u64 (ser:Int))) cI)=h5 at *;have e5:=(u1.trans u3).trans u5;have C1:=(B1.ext u3).ext u5;have C3:=B3.ext u5;simp only[aR.load,gI C1,iL,cD,reduceIte,cJ,Nat.reduceAdd];refine aHD size s.length (by omega) ?_;intro r11 hr11
 try rw[cO]
 refine aR.fill hr11 rfl λh11 B11 u11=>?_;have e11:=e5.trans u11;by_cases c0:dQ size s.length=0
 ·have q0:(((dQ size s.length:Nat):Int)==0)=true:=by simp[c0]
  simp only[aR.load,gI B11,fO,q0,cD,reduceIte,cJ,Nat.reduceAdd];have:=hk h11 (.slice none 0 0) [] (by
   have:fZ size gen ser s=[]:=by unfold fZ;rw[c0];rfl
   rw[this];exact eD.nil) (λb hb=>by cases hb) e11
  rw[if_pos c0] at this;exact this
 ·have q0:(((dQ size s.length:Nat):Int)==0)=false:=by rw[beq_eq_false_iff_ne];omega
  have hs:s.length≤4096:=by
   have:=(aBT (n:=s.length) ok).2;omega
  simp only[aR.load,gI B11,fO,q0,cD,reduceIte,cJ,Nat.reduceAdd];intro r17 hr17
  try rw[cO]
  have B17:=dE.zbox (h:=h11) (r:=r17);have u17:cX h11 (h11.set r17 (.cells (dD PG dE) dE)):=cV.new hr17;generalize h11.set r17 (.cells (dD PG dE) dE)=h17 at *;have B17:Bx h17 r17 [.slice none 0 0]:=B17;have D1:=(C1.ext u11).ext u17;have D3:=(C3.ext u11).ext u17;have D5:=(B5.ext u11).ext u17;have D11:=B11.ext u17;have e17:=e11.trans u17;have w1:IntKind.i64.wrap ((size:Int)-25)=((size-25:Nat):Int):=by rw[eI (by omega) (by omega)];omega
  simp only[aR.load,gI D1,w1,cD,reduceIte,cJ,Nat.reduceAdd];apply aGu.call;unfold aGu;intro rs hrs
  try rw[cO]
  have us:cX h17 (h17.set rs (.cells (Value.cells (.string (tx s))) bR)):=cV.new hrs;have Bs:Bx (h17.set rs (.cells (Value.cells (.string (tx s))) bR)) rs [.string (tx s)]:=Bx.new;generalize h17.set rs (.cells (Value.cells (.string (tx s))) bR)=h18 at *;intro rm hrm
  try rw[cO]
  have um:cX h18 (h18.set rm (.cells (Value.cells (.int .i64 ((size-25:Nat):Int))) aR)):=cV.new hrm;have Bm:Bx (h18.set rm (.cells (Value.cells (.int .i64 ((size-25:Nat):Int))) aR)) rm [.int .i64 ((size-25:Nat):Int)]:=Bx.new;have Bs2:=Bs.ext um;generalize h18.set rm (.cells (Value.cells (.int .i64 ((size-25:Nat):Int))) aR)=h19 at *;have usm:=us.trans um;have e19:=e17.trans usm;simp only[aDE,cD,reduceIte,cJ,Nat.reduceAdd];unfold aDI;refine⟨by kernel_rfl,?_⟩;intro fn tmps l D hv hsz hl0;have t4:tmps.getD 4 undef=pT r1 0:=hv (4,_) (by simp);have t5:tmps.getD 5 undef=pT r3 0:=hv (5,_) (by simp);have t6:tmps.getD 6 undef=pT r5 0:=hv (6,_) (by simp);have t10:tmps.getD 10 undef=pT r11 0:=hv (10,_) (by simp);have t11:tmps.getD 11 undef=pT r17 0:=hv (11,_) (by simp);have ul:cX h19 (h19.set l (.loop {state:=.ready,pending:=none,fn,tmps,params:=#[27,28],assign:=mC,body:=lJ,defers:=D})):=cV.new hl0;have bl:(h19.set l (.loop {state:=.ready,pending:=none,fn,tmps,params:=#[27,28],assign:=mC,body:=lJ,defers:=D})) l=some (.loop {state:=.ready,pending:=none,fn,tmps,params:=#[27,28],assign:=mC,body:=lJ,defers:=D}):=eB;obtain⟨rec,hrec⟩:∃rec:Loop,rec= {state:=.ready,pending:=none,fn,tmps,params:=#[27,28],assign:=mC,body:=lJ,defers:=D}:=⟨_,rfl⟩;rw[←hrec] at ul bl ⊢;generalize h19.set l (.loop rec)=h20 at *;have e20:=e19.trans ul;have fresh_l:h l=none:=e19.none hl0;have f17:h r17=none:=e11.none hr17;have fs:h rs=none:=e17.none hrs;have n: [l,r1,r3,r5,r11,rm,rs,r17].Nodup:=by
   have a1:r1≠r3:=B1.apart hr3;have a2:r1≠r5:=(B1.ext u3).apart hr5;have a3:r3≠r5:=B3.apart hr5;have a4:r1≠r11:=C1.apart hr11;have a5:r3≠r11:=C3.apart hr11;have a6:r5≠r11:=B5.apart hr11;have a7:r1≠r17:=(C1.ext u11).apart hr17;have a8:r3≠r17:=(C3.ext u11).apart hr17;have a9:r5≠r17:=(B5.ext u11).apart hr17;have a10:r11≠r17:=B11.apart hr17;have b1:r1≠rs:=D1.apart hrs;have b2:r3≠rs:=D3.apart hrs;have b3:r5≠rs:=D5.apart hrs;have b4:r11≠rs:=D11.apart hrs;have b5:r17≠rs:=B17.apart hrs;have c1:r1≠rm:=(D1.ext us).apart hrm;have c2:r3≠rm:=(D3.ext us).apart hrm;have c3:r5≠rm:=(D5.ext us).apart hrm;have c4:r11≠rm:=(D11.ext us).apart hrm;have c5:r17≠rm:=(B17.ext us).apart hrm;have c6:rs≠rm:=Bs.apart hrm;have d1:r1≠l:=(D1.ext usm).apart hl0;have d2:r3≠l:=(D3.ext usm).apart hl0;have d3:r5≠l:=(D5.ext usm).apart hl0;have d4:r11≠l:=(D11.ext usm).apart hl0;have d5:r17≠l:=(B17.ext usm).apart hl0;have d6:rs≠l:=Bs2.apart hl0;have d7:rm≠l:=Bm.apart hl0;simp only[aFX,iM,zLg,or_false,not_or,List.nodup_nil,and_true];exact⟨⟨d1.symm,d2.symm,d3.symm,d4.symm,d7.symm,d6.symm,d5.symm⟩,⟨a1,a2,a4,c1,b1,a7⟩,⟨a3,a5,c2,b2,a8⟩,⟨a6,c3,b3,a9⟩,⟨c4,b4,a10⟩,⟨c6.symm,c5.symm⟩,b5.symm,not_false⟩
  have um2:=usm.trans ul;show bW PG aCI #[aGC l,pT rm 0,pT rs 0] h20 _;refine aVE ok hs g1 g2 hrec hsz t4 t5 t6 t10 t11 n ⟨bl,D1.ext um2,D3.ext um2,D5.ext um2,D11.ext um2,Bm.ext ul,Bs2.ext ul,B17.ext um2,eD.nil,(λb hb=>by cases hb),(λb hb=>by cases hb),e20,fresh_l,f17,fs⟩ λh21 v' F' t J=>?_;refine aLl J.loop (by rw[hrec];exact .inl rfl) ?_;have ep:rec.pending=none:=by rw[hrec]
  have hn':=(nd8 n).1.2.2.2.2.2.2;have u22:cV [l] h21 (h21.set l (.loop {rec with state:=.exhausted})):=cV.set (by simp);generalize h21.set l (.loop {rec with state:=.exhausted})=h22 at *;rw[ep];show bZ _ _;have B22:=J.b17.upd u22 hn';simp only[dE.load,gI B22,cD,reduceIte,cJ,Nat.reduceAdd];have:=hk h22 v' F' (J.own.upd u22 (λb hb hm=>by
   simp only[iI] at hm;exact J.apart b hb (by simp[hm]))) J.fresh (J.ext.fresh u22 (dX.one fresh_l))
  rw[if_neg c0] at this;exact this
def uG(w:Nat×Tx):List Value:=[.int .i64 (w.1:Int),.string (tx w.2)]
def uG.isC(w:Nat×Tx):∀v∈uG w,fH v=true:=by simp[uG,fH]
structure qF(a:Nat)(d:Dk)(h:PH)(F:List Nat):Prop where
 here:∃sv bv Fs Fb,F=a::(Fs++Fb)∧Bx h a [.int .i64 (d.size:Int),.int .i64 (d.sectors:Int),sv,bv,.int .i64 (d.arm:Int)]∧eD h bR 1 sv (d.st.map kA) Fs∧eD h eO 2 bv (d.buf.map uG) Fb∧a∉Fs∧a∉Fb∧∀b∈Fs,b∉Fb
 ok:d.Ok
 arm:d.arm<9223372036854775808
def qF.known{a:Nat}{d:Dk}{h:PH}{F:List Nat}(H:qF a d h F):∀b∈F,h b≠none:=by
 obtain⟨sv,bv,Fs,Fb,rfl,B,S,W,-⟩:=H.here;intro b hb;simp only[iM,xA] at hb;rcases hb with rfl|hb|hb
 ·exact B.known
 ·exact S.known b hb
 ·exact W.known b hb
def qF.upd{a:Nat}{d:Dk}{h h':PH}{F K:List Nat}(H:qF a d h F)(u:cV K h h')(hK:∀b∈F,b∉K):qF a d h' F:=by
 obtain⟨sv,bv,Fs,Fb,rfl,B,S,W,n1,n2,n3⟩:=H.here;exact⟨⟨sv,bv,Fs,Fb,rfl,B.upd u (hK a (by simp)),S.upd u (λb hb=>hK b (by simp[hb])),W.upd u (λb hb=>hK b (by simp[hb])),n1,n2,n3⟩,H.ok,H.arm⟩
def qF.good(a:Nat)(d:Dk):aHM (qF a d):=⟨λH=>H.known,λH u hK=>H.upd u hK⟩
def qF.ext{a:Nat}{d:Dk}{h h':PH}{F:List Nat}(H:qF a d h F)(u:cX h h'):qF a d h' F:=(qF.good a d).ext H u
def aPj{h:PH}{v:Value}{rows:List (List Value)}{F:List Nat}(O:eD h bR 1 v rows F){i:Nat}(hi:i<rows.length){x:Value}(hx:fH x=true):
  ∃b o,cC PG (indexAt dE v (.int .i64 (i:Int)))=some (pT b o)∧∀{k:cF},(∀h',eD h' bR 1 v (rows.set i [x]) F->cV F h h'->k undef h')->cM PG (cP bR (pT b o) x) h k:=by
 have S:=O.slR;rcases O.here with⟨-,e,-⟩|⟨b,cap,cs,rfl,rfl,hb,hle,hm,hsz,ht⟩
 ·rw[e] at hi;exact absurd hi (by simp)
 ·have ea:cC PG (indexAt dE (.slice (some ⟨b,0,none⟩) rows.length cap) (.int .i64 (i:Int)))=some (pT b i):=by
   have:=aGK (P:=PG) (t:=dE) (b:=b) (o:=0) (len:=rows.length) (cap:=cap) (k:=.i64) (j:=(i:Int)) dE.und bR.info bR.size (by omega) (by omega);rw[this];simp
  refine⟨b,i,ea,λhk=>?_⟩;refine kJ bR.und rfl hb (by omega) hx bR.info bR.size ?_;refine hk _ ?_ (cV.set (by simp));have hr:Rows 1 (rows.set i [x]):=λr hr=>by
   rcases List.mem_or_eq_of_mem_set hr with e|e
   ·exact O.ok r e
   ·rw[e];rfl
  have hl:(rows.set i [x]).length=rows.length:=List.length_set;have:=eD.mk' (h:=h.set b (.cells (cs.setIfInBounds i x) bR (0,0))) (e:=bR) (b:=b) (cap:=cap) (size:=1) (cs:=cs.setIfInBounds i x) hr eB (by omega) hm (by simpa using hsz) (by
   rw[hl,Nat.mul_one,Array.toList_setIfInBounds];rw[Nat.mul_one] at ht;have fl1:∀{l:List (List Value)},Rows 1 l->∀j:Nat,l.flatten[j]? =(l[j]?).bind (λr:List Value=>r[0]?):=by
    intro l hl;induction l with
    | nil=>intro j;rfl
    | cons y l ih=>
     intro j;have hy:=hl y (by simp);obtain⟨z,rfl⟩:∃z,y=[z]:=by
      cases y with
      | nil=>cases hy
      | cons z t=>cases t with
       | nil=>exact⟨z,rfl⟩
       | cons _ _=>simp at hy
     have ih:=ih (λr hr=>hl r (by simp[hr]));cases j with
     | zero=>rfl
     | succ j=>
      show l.flatten[j]? =_;rw[ih j];rfl
   apply aK8;intro j;rw[fl1 hr,aEV,List.getElem?_set,List.getElem?_set];have htj:(cs.toList.take rows.length)[j]? =rows.flatten[j]?:=by rw[ht]
   rw[fl1 O.ok,aEV] at htj;have hcl:cs.toList.length=cs.size:=by simp
   by_cases c:i=j
   ·subst c;rw[if_pos hi,if_pos rfl,if_pos rfl,if_pos hi,if_pos (by rw[hcl];omega)];rfl
   ·rw[if_neg c,if_neg c];exact htj)
  rw[hl] at this;exact this
def aED(d:Dk):Value:=.agg #[.int .i64 (d.size:Int),.int .i64 (d.sectors:Int)]
def aD6{h:PH}(d:Dk){k:cF}(hk:∀h',cX h h'->k (.int .i64 (d.size:Int)) h'):bW PG jZ #[aED d] h k:=by
 apply zR.call;unfold zR;intro r1 hr1
 try rw[cO]
 have u1:cX h (h.set r1 (.cells (Value.cells (aED d)) dZ)):=cV.new hr1;have B1:Bx (h.set r1 (.cells (Value.cells (aED d)) dZ)) r1 [.int .i64 (d.size:Int),.int .i64 (d.sectors:Int)]:=Bx.new;generalize h.set r1 (.cells (Value.cells (aED d)) dZ)=h1 at *;have c0:cU h1 ⟨r1,0,none⟩=some (.int .i64 (d.size:Int)):=B1.cell 0;simp only[dZ.f0,aR.load,c0,cD,reduceIte,cJ,Nat.reduceAdd];exact hk h1 u1
def aLP{h:PH}(d:Dk){k:cF}(hk:∀h',cX h h'->k (.int .i64 (d.sectors:Int)) h'):bW PG rU #[aED d] h k:=by
 apply uS.call;unfold uS;intro r1 hr1
 try rw[cO]
 have u1:cX h (h.set r1 (.cells (Value.cells (aED d)) dZ)):=cV.new hr1;have B1:Bx (h.set r1 (.cells (Value.cells (aED d)) dZ)) r1 [.int .i64 (d.size:Int),.int .i64 (d.sectors:Int)]:=Bx.new;generalize h.set r1 (.cells (Value.cells (aED d)) dZ)=h1 at *;have c0:cU h1 ⟨r1,0+1,none⟩=some (.int .i64 (d.sectors:Int)):=B1.cell 1;simp only[dZ.f1,aR.load,c0,cD,reduceIte,cJ,Nat.reduceAdd];exact hk h1 u1
def aOj{h:PH}(d:Dk)(n:Int){k:cF}(hk:∀h',cX h h'->k (.bool (decide (0≤n∧n<(d.sectors:Int)))) h'):bW PG tR #[aED d,.int .i64 n] h k:=by
 apply xM.call;unfold xM;intro r1 hr1
 try rw[cO]
 have u1:cX h (h.set r1 (.cells (Value.cells (aED d)) dZ)):=cV.new hr1;have B1:Bx (h.set r1 (.cells (Value.cells (aED d)) dZ)) r1 [.int .i64 (d.size:Int),.int .i64 (d.sectors:Int)]:=Bx.new;generalize h.set r1 (.cells (Value.cells (aED d)) dZ)=h1 at *;have c0:cU h1 ⟨r1,0+1,none⟩=some (.int .i64 (d.sectors:Int)):=B1.cell 1;have hk:=hk h1 u1;by_cases c:0≤n
 ·have g:((0:Int)≤n)=True:=eq_true c;have e:decide (n<(d.sectors:Int))=decide (0≤n∧n<(d.sectors:Int)):=by
   rw[xE,decide_eq_true_iff,decide_eq_true_iff];exact⟨λh=>⟨c,h⟩,λh=>h.2⟩
  simp only[g,dZ.f1,aR.load,c0,cD,reduceIte,cJ,Nat.reduceAdd];rw[e];exact hk
 ·have g:((0:Int)≤n)=False:=eq_false c;have e:decide (0≤n∧n<(d.sectors:Int))=false:=decide_eq_false (λh=>c h.1);rw[e] at hk;simp only[g,cD,reduceIte,cJ,Nat.reduceAdd];exact hk
structure DkB(a:Nat)(d:Dk)(h:PH)(sv bv:Value):Prop where
 geo:cB PG h (loadAt dZ (pT a 0))=some (aED d)
 size:cU h ⟨a,0,none⟩=some (.int .i64 (d.size:Int))
 st:cU h ⟨a,0+2,none⟩=some sv
 buf:cU h ⟨a,0+3,none⟩=some bv
 arm:cU h ⟨a,0+4,none⟩=some (.int .i64 (d.arm:Int))
def DkB.of{a:Nat}{d:Dk}{h:PH}{sv bv:Value}(B:Bx h a [.int .i64 (d.size:Int),.int .i64 (d.sectors:Int),sv,bv,.int .i64 (d.arm:Int)]):DkB a d h sv bv:=⟨dZ.agg B (by show 0+2≤5;decide),B.cell 0,B.cell 2,B.cell 3,B.cell 4⟩
def aOo{h:PH}{a:Nat}{d:Dk}{F:List Nat}(D:qF a d h F){k:cF}(hk:∀h',qF a d.tick h' F->cV F h h'->k (.bool (decide (d.arm=1))) h'):bW PG yS #[pT a 0] h k:=by
 apply aCC.call;unfold aCC;have ha:=D.arm;obtain⟨sv,bv,Fs,Fb,rfl,B,S,W,n1,n2,n3⟩:=D.here;have L:=DkB.of B;by_cases c:d.arm=0
 ·have q:((d.arm:Int)==0)=true:=by simp[c]
  have e:decide (d.arm=1)=false:=by rw[c];rfl
  have et:d.tick=d:=by
   unfold Dk.tick;rw[c];obtain⟨x1,x2,x3,x4,x5⟩:=d;simp only at c;subst c;rfl
  rw[e,et] at hk;simp only[eM.f3,aR.load,L.arm,fO,q,cD,reduceIte,cJ,Nat.reduceAdd];exact hk h D cV.refl
 ·have q:((d.arm:Int)==0)=false:=by rw[beq_eq_false_iff_ne];omega
  have w:IntKind.i64.wrap ((d.arm:Int)-1)=((d.arm-1:Nat):Int):=by rw[eI (by omega) (by omega)];omega
  simp only[eM.f3,aR.load,L.arm,fO,q,w,cD,reduceIte,cJ,Nat.reduceAdd];refine aR.put B (o:=4) (by show 4<5;decide) rfl λh2 B2 u2=>?_;have B2:Bx h2 a [.int .i64 (d.tick.size:Int),.int .i64 (d.tick.sectors:Int),sv,bv,.int .i64 (d.tick.arm:Int)]:=B2;have L2:=DkB.of B2;have e:(((d.arm-1:Nat):Int)==0)=decide (d.arm=1):=by
   rw[xE,beq_iff_eq,decide_eq_true_iff];omega
  have c4:cU h2 ⟨a,0+4,none⟩=some (.int .i64 ((d.arm-1:Nat):Int)):=B2.cell 4;simp only[eM.f3,aR.load,c4,fO,e,cD,reduceIte,cJ,Nat.reduceAdd];refine hk h2 ⟨⟨sv,bv,Fs,Fb,rfl,B2,S.upd u2 (λb hb hm=>?_),W.upd u2 (λb hb hm=>?_),n1,n2,n3⟩,D.ok.tick,by show d.arm-1<_;omega⟩ (u2.mono λb hb=>.inl (by simp only[iI] at hb;simp[hb]))
  ·simp only[iI] at hm;exact n1 (hm▸hb)
  ·simp only[iI] at hm;exact n2 (hm▸hb)
def aWv(n:Int)(s:ByteArray):cC PG (build eO #[(0,.int .i64 n),(1,.string s)])=some (.agg #[.int .i64 n,.string s]):=by kernel_rfl
def aWZ(n:Int)(s:ByteArray):jT PG (buildSlice fE 1 #[(0,.agg #[.int .i64 n,.string s])])=some (.cells #[.int .i64 n,.string s] eO,λr=>pure (.slice (some ⟨r,0,none⟩) 1 1)):=by kernel_rfl
def aRf{h:PH}{a:Nat}{d:Dk}{F:List Nat}(D:qF a d h F)(n:Int)(s:Tx)(hb:d.buf.length≤1000000){k:cF}(hk:∀h' F',qF a (d.wr n s).1 h' F'->eX h F h' F'->k (.int .i64 (d.wr n s).2) h'):bW PG aCO #[pT a 0,.int .i64 n,.string (tx s)] h k:=by
 apply aCA.call;unfold aCA;obtain⟨sv,bv,Fs,Fb,eF,B,S,W,n1,n2,n3⟩:=id D.here;have L:=DkB.of B;have hok:=D.ok.wr n s;unfold Dk.wr at hk hok;simp only[eM.f0,L.geo,cD,reduceIte,cJ,Nat.reduceAdd];refine aOj d n λh1 u1=>?_;have D1:=D.ext u1;have L1:=DkB.of (B.ext u1);by_cases c1:0≤n∧n<(d.sectors:Int)
 ·by_cases c2:s.length=d.size
  ·have q2:((s.length:Int) !=(d.size:Int))=false:=by simp[c2]
   rw[if_neg (by omega)] at hk hok;simp only[c1,decide_true,and_self,iL,eM.f0,dZ.f0,aR.load,L1.size,dY,q2,cD,reduceIte,cJ,Nat.reduceAdd];refine aOo D1 λh2 D2 u2=>?_;have st2:eX h F h2 F:=(eX.ext u1).trans ⟨u2,λb hb=>.inl hb⟩;by_cases c3:d.arm=1
   ·rw[if_pos c3] at hk;simp only[c3,decide_true,cD,reduceIte,cJ,Nat.reduceAdd];exact hk h2 F D2 st2
   ·rw[if_neg c3] at hk hok;obtain⟨sv,bv,Fs,Fb,eF,B2,S2,W2,n1,n2,n3⟩:=D2.here;have L2:=DkB.of B2;simp only[c3,decide_false,eM.f2,fE.load,L2.buf,aWv,aWZ,cD,reduceIte,cJ,Nat.reduceAdd];intro r44 hr44;refine gV ?_
    try rw[cO]
    have Sl:hC (h2.set r44 (.cells #[.int .i64 n,.string (tx s)] eO)) 2 (.slice (some ⟨r44,0,none⟩) 1 1) [[.int .i64 n,.string (tx s)]]:=(eD.lit (e:=eO) (size:=2) (rows:=[[.int .i64 n,.string (tx s)]]) (n:=1) (λr hr=>by simp only[iI] at hr;rw[hr];rfl) eB rfl (by decide) rfl).slR;have u3:cX h2 (h2.set r44 (.cells #[.int .i64 n,.string (tx s)] eO)):=cV.new hr44;generalize h2.set r44 (.cells #[.int .i64 n,.string (tx s)] eO)=h3 at *;have bl:(d.tick.buf.map uG).length=d.buf.length:=by rw[iF];rfl
    refine lG fE.und fE.und eO.info eO.size eO.bytes eO.zero rfl (by decide) (W2.ext u3) Sl (by simp[fH]) (by rw[bl];simp only[iN,kW];omega) ?_;intro v4 h4 F4 O4 u4 g4 _;have B4:=(B2.ext u3).upd u4 n2;have en:n=((n.toNat:Nat):Int):=by omega
    have O4:eD h4 eO 2 v4 ((d.buf++[(n.toNat,s)]).map uG) F4:=by
     rw[wA];have:uG (n.toNat,s)=[.int .i64 n,.string (tx s)]:=by unfold uG;simp only;rw[←en]
     rw[hM,jA,this];exact O4
    have S4:=(S2.ext u3).upd u4 n3;have k3:∀b,h2 b≠none->h3 b≠none:=λb hb=>by
     cases e:h2 b with
     | none=>exact absurd e hb
     | some o=>rw[u3.get e];simp
    have na4:a∉F4:=λhm=>by
     rcases g4 a hm with e|e
     ·exact n2 e
     ·exact k3 a B2.known e
    have ns4:∀b∈Fs,b∉F4:=λb hb hm=>by
     rcases g4 b hm with e|e
     ·exact n3 b hb e
     ·exact k3 b (S2.known b hb) e
    refine fE.put B4 (o:=3) (by show 3<5;decide) O4.slR.isc λh5 B5 u5=>?_;have B5:Bx h5 a [.int .i64 (d.size:Int),.int .i64 (d.sectors:Int),sv,v4,.int .i64 ((d.arm-1:Nat):Int)]:=B5;have ha:=D.arm;refine hk h5 (a::(Fs++F4)) ⟨⟨sv,v4,Fs,F4,rfl,B5,S4.upd u5 (λb hb hm=>?_),O4.upd u5 (λb hb hm=>?_),n1,na4,ns4⟩,hok,by show d.arm-1<_;omega⟩ (st2.trans ⟨?_,?_⟩)
    ·simp only[iI] at hm;exact n1 (hm▸hb)
    ·simp only[iI] at hm;exact na4 (hm▸hb)
    ·rw[eF];intro b o hbo hnm;simp only[iM,xA,not_or] at hnm;exact u5.get (u4.get (u3.get hbo) hnm.2.2) (by simp only[iI];exact hnm.1)
    ·intro b hb;rw[eF];simp only[iM,xA] at hb ⊢;rcases hb with rfl|hb|hb
     ·exact .inl (.inl rfl)
     ·exact .inl (.inr (.inl hb))
     ·rcases g4 b hb with e|e
      ·exact .inl (.inr (.inr e))
      ·right;cases e2:h2 b with
       | none=>rfl
       | some o=>rw[u3.get e2] at e;cases e
  ·have q2:((s.length:Int) !=(d.size:Int))=true:=by rw[bne_iff_ne];omega
   rw[if_pos (by omega)] at hk;simp only[c1,decide_true,and_self,iL,eM.f0,dZ.f0,aR.load,L1.size,dY,q2,cD,reduceIte,cJ,Nat.reduceAdd];exact hk h1 F D1 (eX.ext u1)
 ·rw[if_pos (by omega)] at hk;simp only[c1,decide_false,cD,reduceIte,cJ,Nat.reduceAdd];exact hk h1 F D1 (eX.ext u1)
def aT9{h:PH}{v:Value}{l:List (Nat×Tx)}(S:hC h 2 v (l.map uG)){i:Nat}{w:Nat×Tx}(hx:l[i]? =some w):∃a,cC PG (indexAt fE v (.int .i64 (i:Int)))=some (.pointer (some a))∧cB PG h (loadAt eO (.pointer (some a)))=some (.agg (uG w).toArray):=
 S.loadAgg (t:=fE) (k:=.i64) (j:=(i:Int)) fE.und eO.info eO.size eO.und rfl (by omega) (by rw[wU,wV,hx];rfl)
def aSU{h:PH}{v:Value}{l:List (Nat×Tx)}(S:hC h 2 v (l.map uG)):cC PG (Builtin.len_ #[fE] aR #[v])=some (.int .i64 l.length):=by
 have:=S.len (t':=aR) fE.und;rw[iF] at this;exact this
def aIH{st:List Tx}{l:List (Nat×Tx)}{i:Nat}{w:Nat×Tx}(hx:l[i]? =some w):lM st (l.take (i+1))=(lM st (l.take i)).set w.1 w.2:=by
 rw[zLR,hx];exact aIL _ _ _
def aMy(l:List Tx)(i:Nat)(x:Tx):(l.map kA).set i [.string (tx x)]=(l.set i x).map kA:=by rw[List.map_set];rfl
def aOE{h:PH}{a:Nat}{d:Dk}{F:List Nat}(D:qF a d h F)(hb:d.buf.length≤1000000){k:cF}(hk:∀h' F',qF a d.fl.1 h' F'->eX h F h' F'->k (.int .i64 d.fl.2) h'):bW PG zH #[pT a 0] h k:=by
 apply vP.call;unfold vP;have hok:=D.ok.fl;unfold Dk.fl at hk hok;refine aOo D λh1 D1 u1=>?_;have st1:eX h F h1 F:=⟨u1,λb hb=>.inl hb⟩;by_cases c:d.arm=1
 ·rw[if_pos c] at hk;simp only[c,decide_true,cD,reduceIte,cJ,Nat.reduceAdd];exact hk h1 F D1 st1
 ·rw[if_neg c] at hk hok;obtain⟨sv,bv,Fs,Fb,eF,B,S,W,n1,n2,n3⟩:=D1.here;have L:=DkB.of B;have B:Bx h1 a [.int .i64 (d.size:Int),.int .i64 (d.sectors:Int),sv,bv,.int .i64 ((d.arm-1:Nat):Int)]:=B;have S:eD h1 bR 1 sv (d.st.map kA) Fs:=S;have W:eD h1 eO 2 bv (d.buf.map uG) Fb:=W;simp only[c,decide_false,eM.f2,fE.load,L.buf,aSU W.slR,cD,reduceIte,cJ,Nat.reduceAdd];refine⟨λvs h'=>∃i:Nat,i≤d.buf.length∧vs=[pT a 0,bv,.int .i64 (d.buf.length:Int),.int .i64 (i:Int)]∧eD h' bR 1 sv ((lM d.st (d.buf.take i)).map kA) Fs∧cV Fs h1 h',fN d.buf.length 3,⟨0,by omega,rfl,S,cV.refl⟩,?_⟩;rintro ρ h' ⟨i,hi,hvs,S2,w⟩;simp only[hM,jA,kP,and_true] at hvs;obtain⟨x0,x10,x11,x12⟩:=hvs;unfold aGE;rw[x0,x10,x11,x12];have B2:=B.upd w n1;have W2:=W.upd w (λb hb hm=>n3 b hm hb);by_cases hlt:i<d.buf.length
  ·have g:((i:Int)<(d.buf.length:Int))=True:=eq_true (by omega);have gi:=nR (i:=i) (by omega);obtain⟨x,hx⟩:∃x,d.buf[i]? =some x:=⟨_,kV hlt⟩;have hxb:=D.ok.buf x (aAB hx);obtain⟨p,i1,i2⟩:=aT9 W2.slR hx;simp only[g,i1,i2,cD,reduceIte,cJ,Nat.reduceAdd];intro r12 hr12
   try rw[cO]
   refine eO.fill (vs:=uG x) hr12 rfl (uG.isC x) λh3 B3 u3=>?_;have c0:cU h3 ⟨r12,0,none⟩=some (.int .i64 (x.1:Int)):=B3.cell 0;have c1:cU h3 ⟨r12,0+1,none⟩=some (.string (tx x.2)):=B3.cell 1;have cs:cU h3 ⟨a,0+2,none⟩=some sv:=(B2.ext u3).cell 2;have hx1:x.1<((lM d.st (d.buf.take i)).map kA).length:=by rw[iF,zP,D.ok.len];exact hxb.1
   obtain⟨b,o,j1,j2⟩:=aPj (S2.ext u3) hx1 (x:=.string (tx x.2)) rfl;simp only[eM.f1,dE.load,cs,eO.f0,eO.f1,aR.load,bR.load,c0,c1,j1,cD,reduceIte,cJ,Nat.reduceAdd];refine j2 λh4 S4 u4=>?_;simp only[gi,cD,reduceIte,cJ,Nat.reduceAdd];refine⟨⟨i+1,by omega,rfl,?_,(w.trans u3.upd).trans u4⟩,by simp[fN,x12];omega⟩;rw[aIH hx,←aMy];exact S4
  ·have g:((i:Int)<(d.buf.length:Int))=False:=eq_false (by omega);have ei:d.buf.take i=d.buf:=rN (by omega);rw[ei] at S2;simp only[g,eM.f2,cD,reduceIte,cJ,Nat.reduceAdd];refine fE.put B2 (o:=3) (by show 3<5;decide) rfl λh3 B3 u3=>?_;have B3:Bx h3 a [.int .i64 (d.size:Int),.int .i64 (d.sectors:Int),sv,.slice none 0 0,.int .i64 ((d.arm-1:Nat):Int)]:=B3;have ha:=D.arm;refine hk h3 (a::(Fs++[])) ⟨⟨sv,.slice none 0 0,Fs,[],rfl,B3,S2.upd u3 (λb hb hm=>?_),eD.nil,n1,by simp,by simp⟩,hok,by show d.arm-1<_;omega⟩ (st1.trans ⟨?_,?_⟩)
   ·simp only[iI] at hm;exact n1 (hm▸hb)
   ·rw[eF];exact(w.mono λb hb=>.inl (by simp[hb])).trans (u3.mono λb hb=>.inl (by simp only[iI] at hb;simp[hb]))
   ·intro b hb;rw[eF];simp only[zLQ,iM,xA] at hb ⊢;rcases hb with rfl|hb
    ·exact .inl (.inl rfl)
    ·exact .inl (.inr (.inl hb))
def aUK{d:Dk}(H:d.Ok){n:Nat}(hn:n<d.sectors){i:Nat}{w:Nat×Tx}(hx:d.buf[i]? =some w):(lM d.st (d.buf.take (i+1))).getD n []=if w.1=n then w.2 else(lM d.st (d.buf.take i)).getD n []:=by
 rw[aIH hx,aDm,aDm,List.getElem?_set];have hl:(lM d.st (d.buf.take i)).length=d.sectors:=by rw[zP,H.len]
 by_cases c:w.1=n
 ·rw[if_pos c,if_pos c,if_pos (by omega)];rfl
 ·rw[if_neg c,if_neg c]
def aTF{h:PH}{a:Nat}{d:Dk}{F:List Nat}(D:qF a d h F)(n:Int)(hb:d.buf.length≤1000000){k:cF}(hk:∀h',cX h h'->k (.tuple #[.string (tx (d.rd n).1),.int .i64 (d.rd n).2]) h'):bW PG aC7 #[pT a 0,.int .i64 n] h k:=by
 apply aCi.call;unfold aCi;obtain⟨sv,bv,Fs,Fb,eF,B,S,W,n1,n2,n3⟩:=id D.here;have L:=DkB.of B;unfold Dk.rd at hk;simp only[eM.f0,L.geo,cD,reduceIte,cJ,Nat.reduceAdd];refine aOj d n λh1 u1=>?_;have B1:=B.ext u1;have S1:=S.ext u1;have W1:=W.ext u1;have L1:=DkB.of B1;by_cases c1:0≤n∧n<(d.sectors:Int)
 ·rw[if_neg (by omega)] at hk;have en:n=((n.toNat:Nat):Int):=by omega
  have hn:n.toNat<d.sectors:=by omega
  obtain⟨m,hm⟩:∃m,n.toNat=m:=⟨_,rfl⟩;rw[hm] at en hn hk;obtain⟨x,hx⟩:∃x,d.st[m]? =some x:=⟨_,kV (by rw[D.ok.len];exact hn)⟩;obtain⟨p,i1,i2⟩:=aI9 S1.slR hx;subst en;simp only[c1,and_self,decide_true,eM.f1,eM.f2,dE.load,fE.load,L1.st,L1.buf,i1,i2,aSU W1.slR,cD,reduceIte,cJ,Nat.reduceAdd];refine⟨λvs h'=>∃i:Nat,i≤d.buf.length∧vs=[.int .i64 (m:Int),.string (tx ((lM d.st (d.buf.take i)).getD m [])),bv,.int .i64 (d.buf.length:Int),.int .i64 (i:Int)]∧cX h h',fN d.buf.length 4,⟨0,by omega,?_,u1⟩,?_⟩
  ·have:(lM d.st (d.buf.take 0)).getD m []=x:=by
    rw[zLd,aDm];show(d.st[m]?).getD []=x;rw[hx];rfl
   rw[this];rfl
  rintro ρ h' ⟨i,hi,hvs,w⟩;simp only[hM,jA,kP,and_true] at hvs;obtain⟨x1,x6,x26,x27,x28⟩:=hvs;unfold aFm;rw[x1,x6,x26,x27,x28];by_cases hlt:i<d.buf.length
  ·have g:((i:Int)<(d.buf.length:Int))=True:=eq_true (by omega);have gi:=nR (i:=i) (by omega);obtain⟨y,hy⟩:∃y,d.buf[i]? =some y:=⟨_,kV hlt⟩;obtain⟨q,j1,j2⟩:=aT9 (W.ext w).slR hy;simp only[g,j1,j2,cD,reduceIte,cJ,Nat.reduceAdd];intro r21 hr21
   try rw[cO]
   refine eO.fill (vs:=uG y) hr21 rfl (uG.isC y) λh3 B3 u3=>?_;have c0:cU h3 ⟨r21,0,none⟩=some (.int .i64 (y.1:Int)):=B3.cell 0;have c1:cU h3 ⟨r21,0+1,none⟩=some (.string (tx y.2)):=B3.cell 1;have st:=aUK D.ok hn hy;by_cases c:y.1=m
   ·have q0:((y.1:Int)==(m:Int))=true:=by simp[c]
    rw[if_pos c] at st;simp only[eO.f0,eO.f1,aR.load,bR.load,c0,c1,fO,q0,zJ,aCP,gi,cD,reduceIte,cJ,Nat.reduceAdd];refine⟨⟨i+1,by omega,?_,w.trans u3⟩,by simp[fN,x28];omega⟩;rw[st]
   ·have q0:((y.1:Int)==(m:Int))=false:=by rw[beq_eq_false_iff_ne];omega
    rw[if_neg c] at st;simp only[eO.f0,aR.load,c0,fO,q0,zJ,aCP,gi,cD,reduceIte,cJ,Nat.reduceAdd];refine⟨⟨i+1,by omega,?_,w.trans u3⟩,by simp[fN,x28];omega⟩;rw[st]
  ·have g:((i:Int)<(d.buf.length:Int))=False:=eq_false (by omega);have ei:d.buf.take i=d.buf:=rN (by omega);simp only[g,ei,cD,reduceIte,cJ,Nat.reduceAdd];exact hk h' w
 ·rw[if_pos (by omega)] at hk;simp only[c1,decide_false,cD,reduceIte,cJ,Nat.reduceAdd];exact hk h1 u1
def Dk.new(size sectors:Nat):Dk:=⟨size,sectors,List.replicate sectors (kQ size),[],0⟩
def Dk.new_ok{size sectors:Nat}(ok:fS size)(h1:1≤sectors)(h2:sectors≤4096):(Dk.new size sectors).Ok:=⟨aGG,ok,h1,h2,λs hs=>by rw[List.eq_of_mem_replicate hs];exact vT _,by simp[Dk.new]⟩
def aWc(a b:Int):cC PG (build dZ #[(0,.int .i64 a),(1,.int .i64 b)])=some (.agg #[.int .i64 a,.int .i64 b]):=by kernel_rfl
def aW2(a b:Int)(r n m:Nat):cC PG (build eM #[(0,.agg #[.int .i64 a,.int .i64 b]),(1,.slice (some ⟨r,0,none⟩) n m)])=some (.agg #[.int .i64 a,.int .i64 b,.slice (some ⟨r,0,none⟩) n m,.slice none 0 0,.int .i64 0]):=by kernel_rfl
def aDU(size n i:Nat):List Tx:=List.replicate i (kQ size)++List.replicate (n-i) []
def aRV{size n i:Nat}(hi:i<n):(aDU size n i).set i (kQ size)=aDU size n (i+1):=by
 unfold aDU;obtain⟨m,rfl⟩:∃m,n=i+(m+1):=⟨n-i-1,by omega⟩;rw[List.set_append_right _ _ (by rw[aGG];exact mS _),aGG,aIC,aB0,show i+(m+1)-(i+1)=m from by omega,List.replicate_succ,List.set_cons_zero];rw[List.replicate_succ',uV];rfl
def aJv(size n i:Nat)(hi:i≤n):(aDU size n i).length=n:=by unfold aDU;rw[jK,aGG,aGG];omega
def aUH{h:PH}(size sectors:Nat)(ok:fS size)(h1:1≤sectors)(h2:sectors≤4096){k:cF}(hk:∀h' a F,qF a (Dk.new size sectors) h' F->dX h F->cX h h'->k (.tuple #[pT a 0,.int .i64 0]) h'):bW PG aII #[.int .i64 (size:Int),.int .i64 (sectors:Int)] h k:=by
 apply aFK.call;unfold aFK;have h64:=ok.1;have h512:=ok.2;have g1:((size:Int)<64)=False:=eq_false (by omega);have g2:((512:Int)<(size:Int))=False:=eq_false (by omega);have g3:((sectors:Int)<1)=False:=eq_false (by omega);have g4:((4096:Int)<(sectors:Int))=False:=eq_false (by omega);obtain⟨zs,hm,hzz⟩:=aEc (P:=PG) (n:=sectors) dE.und bR.info bR.size bR.bytes bR.zero rfl (by decide) (by omega) (by omega);simp only[g1,g2,g3,g4,aWc,hm,cD,reduceIte,cJ,Nat.reduceAdd];intro r27 hr27;refine gV ?_
 try rw[cO]
 have O1:eD (h.set r27 (.cells zs bR (0,0))) bR 1 (.slice (some ⟨r27,0,none⟩) sectors sectors) ((aDU size sectors 0).map kA) [r27]:=eD.lit (e:=bR) (size:=1) (rows:=(aDU size sectors 0).map kA) (n:=sectors) (λr hr=>by obtain⟨m,_,rfl⟩:=pQ.1 hr;rfl) eB (by rw[iF,aJv _ _ _ (by omega)]) (zLE h2 (by decide)) (by
  rw[hzz];unfold aDU;rw[List.replicate_zero,zLU,Nat.sub_zero,List.map_replicate];rfl)
 have u1:cX h (h.set r27 (.cells zs bR (0,0))):=cV.new hr27;generalize h.set r27 (.cells zs bR (0,0))=h2 at *;simp only[aW2,cD,reduceIte,cJ,Nat.reduceAdd];intro r32 hr32
 try rw[cO]
 have u2:cX h2 (h2.set r32 (.cells (Value.cells (.agg #[.int .i64 (size:Int),.int .i64 (sectors:Int),.slice (some ⟨r27,0,none⟩) sectors sectors,.slice none 0 0,.int .i64 0])) eM)):=cV.new hr32;have B2:Bx (h2.set r32 (.cells (Value.cells (.agg #[.int .i64 (size:Int),.int .i64 (sectors:Int),.slice (some ⟨r27,0,none⟩) sectors sectors,.slice none 0 0,.int .i64 0])) eM)) r32 [.int .i64 (size:Int),.int .i64 (sectors:Int),.slice (some ⟨r27,0,none⟩) sectors sectors,.slice none 0 0,.int .i64 0]:=Bx.new;generalize h2.set r32 (.cells (Value.cells (.agg #[.int .i64 (size:Int),.int .i64 (sectors:Int),.slice (some ⟨r27,0,none⟩) sectors sectors,.slice none 0 0,.int .i64 0])) eM)=h3 at *;have O3:=O1.ext u2;have e3:=u1.trans u2;have n1:r32≠r27:=λe=>O1.known r27 (by simp) (e▸hr32);have f1:dX h [r27]:=dX.one hr27;have f2:h r32=none:=u1.none hr32;have c2:cU h3 ⟨r32,0+2,none⟩=some (.slice (some ⟨r27,0,none⟩) sectors sectors):=B2.cell 2;have ln:cC PG (Builtin.len_ #[dE] aR #[.slice (some ⟨r27,0,none⟩) sectors sectors])=some (.int .i64 (sectors:Int)):=by
  have:=aAR O1.slR;rw[aJv _ _ _ (by omega)] at this;exact this
 simp only[eM.f1,dE.load,c2,ln,cD,reduceIte,cJ,Nat.reduceAdd];refine⟨λvs h'=>∃i:Nat,i≤sectors∧vs=[.int .i64 (size:Int),pT r32 0,.int .i64 (sectors:Int),.int .i64 (i:Int)]∧eD h' bR 1 (.slice (some ⟨r27,0,none⟩) sectors sectors) ((aDU size sectors i).map kA) [r27]∧cV [r27] h3 h',fN sectors 3,⟨0,by omega,rfl,O3,cV.refl⟩,?_⟩;rintro ρ h' ⟨i,hi,hvs,O,w⟩;simp only[hM,jA,kP,and_true] at hvs;obtain⟨x0,x6,x33,x34⟩:=hvs;unfold aJt;rw[x0,x6,x33,x34];have B:=B2.upd w (by simpa using n1);by_cases hlt:i<sectors
 ·have g:((i:Int)<(sectors:Int))=True:=eq_true (by omega);have gi:=nR (i:=i) (by omega);have c3:cU h' ⟨r32,0+2,none⟩=some (.slice (some ⟨r27,0,none⟩) sectors sectors):=B.cell 2;simp only[g,eM.f1,dE.load,c3,cD,reduceIte,cJ,Nat.reduceAdd];refine aKF (by omega) λh4 u4=>?_;have c4:cU h4 ⟨r32,0+2,none⟩=some (.slice (some ⟨r27,0,none⟩) sectors sectors):=(B.ext u4).cell 2;have hin:i<((aDU size sectors i).map kA).length:=by rw[iF,aJv _ _ _ hi];exact hlt
  obtain⟨b,o,j1,j2⟩:=aPj (O.ext u4) hin (x:=.string (tx (kQ size))) rfl;refine⟨c4,?_⟩;simp only[j1,cD,reduceIte,cJ,Nat.reduceAdd];refine j2 λh5 O5 u5=>?_;simp only[gi,cD,reduceIte,cJ,Nat.reduceAdd];rw[aMy,aRV hlt] at O5;exact⟨⟨i+1,by omega,rfl,O5,(w.trans u4.upd).trans u5⟩,by simp[fN,x34];omega⟩
 ·have g:((i:Int)<(sectors:Int))=False:=eq_false (by omega);obtain rfl:i=sectors:=by omega
  have en:aDU size i i=(Dk.new size i).st:=by unfold aDU;rw[aIC];simp[Dk.new]
  rw[en] at O;simp only[g,cD,reduceIte,cJ,Nat.reduceAdd];refine hk h' r32 (r32::([r27]++[])) ⟨⟨_,_,[r27],[],rfl,B,O,eD.nil,by simpa using n1,by simp,by simp⟩,Dk.new_ok ok h1 h2,by show 0<_;omega⟩ (λb hb=>?_) (e3.fresh w f1);simp only[zLQ,iM,zLg,or_false] at hb;rcases hb with rfl|rfl
  ·exact f2
  ·exact hr27
end
section
open Go
open Bld
def qX(a:Nat):Value:=.agg #[pT a 0]
def qF.geo{a:Nat}{d:Dk}{h:PH}{F:List Nat}(D:qF a d h F):cB PG h (loadAt dZ (pT a 0))=some (aED d):=by
 obtain⟨sv,bv,Fs,Fb,rfl,B,-⟩:=D.here;exact(DkB.of B).geo
def aGr{h:PH}{a:Nat}{d:Dk}{F:List Nat}(D:qF a d h F)(h2:2≤d.sectors){k:cF}(hk:∀h',cX h h'->k (.int .i64 (d.segs:Int)) h'):bW PG pG #[qX a] h k:=by
 apply aAQ.call;unfold aAQ;have hm:=D.ok.many;intro r1 hr1
 try rw[cO]
 have u1:cX h (h.set r1 (.cells (Value.cells (qX a)) dW)):=cV.new hr1;have B1:Bx (h.set r1 (.cells (Value.cells (qX a)) dW)) r1 [pT a 0]:=Bx.new;generalize h.set r1 (.cells (Value.cells (qX a)) dW)=h1 at *;have D1:=D.ext u1;have w1:IntKind.i64.wrap ((d.sectors:Int)-2)=((d.sectors-2:Nat):Int):=by rw[eI (by omega) (by omega)];omega
 have w2:cC PG (binOp .quo aR (.int .i64 ((d.sectors-2:Nat):Int)) (.int .i64 2))=some (.int .i64 (d.segs:Int)):=by
  have e:Int.tdiv ((d.sectors-2:Nat):Int) 2=(d.segs:Int):=rfl;have e2:IntKind.i64.wrap (d.segs:Int)=(d.segs:Int):=eI (by omega) (by unfold Dk.segs;omega);rw[aJb (by decide),e,e2]
 simp only[dW.f0,gC.load,gI B1,eM.f0,D1.geo,cD,reduceIte,cJ,Nat.reduceAdd];refine aLP d λh3 u3=>?_;simp only[w1,w2,cD,reduceIte,cJ,Nat.reduceAdd];exact hk h3 (u1.trans u3)
def aMV{h:PH}{a:Nat}{d:Dk}{F:List Nat}(D:qF a d h F)(h2:2≤d.sectors)(seg:Nat)(hs:seg≤1){k:cF}(hk:∀h',cX h h'->k (.int .i64 (d.base seg:Int)) h'):bW PG vX #[qX a,.int .i64 (seg:Int)] h k:=by
 apply aCu.call;unfold aCu;have hm:=D.ok.many;intro r1 hr1
 try rw[cO]
 have u1:cX h (h.set r1 (.cells (Value.cells (qX a)) dW)):=cV.new hr1;have B1:Bx (h.set r1 (.cells (Value.cells (qX a)) dW)) r1 [pT a 0]:=Bx.new;generalize h.set r1 (.cells (Value.cells (qX a)) dW)=h1 at *;have D1:=D.ext u1;have l1:cB PG h1 (loadAt dW (pT r1 0))=some (qX a):=dW.agg B1 (by show 0+1≤1;decide);have hsg:d.segs≤4096:=by unfold Dk.segs;omega
 have hsm:seg*d.segs≤1*d.segs:=zLO _ hs;have w1:IntKind.i64.wrap ((seg:Int)*(d.segs:Int))=((seg*d.segs:Nat):Int):=by rw[←Int.natCast_mul,eI (by omega) (by omega)]
 have w2:IntKind.i64.wrap ((2:Int)+((seg*d.segs:Nat):Int))=(d.base seg:Int):=by
  rw[eI (by omega) (by omega)];unfold Dk.base;omega
 simp only[l1,cD,reduceIte,cJ,Nat.reduceAdd];refine aGr D1 h2 λh3 u3=>?_;simp only[mX,w1,w2,cD,reduceIte,cJ,Nat.reduceAdd];exact hk h3 (u1.trans u3)
def aM3(d:Dk)(n i:Nat):(d.secs n (i+1)).flatten=(d.secs n i).flatten++d.at (n+i):=by
 unfold Dk.secs;rw[List.range_succ,wA,zLG];simp
def aFs{d:Dk}(H:d.Ok){n k:Nat}(h:n+k≤d.sectors):∀s∈d.secs n k,s.length=d.size:=by
 intro s hs;unfold Dk.secs at hs;obtain⟨i,hi,rfl⟩:=pQ.1 hs;rw[aGT] at hi;exact H.at_len (by omega)
def aLH{h:PH}{a:Nat}{d:Dk}{F:List Nat}(D:qF a d h F)(n m:Nat)(hnm:n+m≤d.sectors)(hb:d.buf.length≤1000000){k:cF}(hk:∀h',cX h h'->k (.string (tx (d.secs n m).flatten)) h'):bW PG vZ #[qX a,.int .i64 (n:Int),.int .i64 (m:Int)] h k:=by
 apply aCh.call;unfold aCh;have hm:=D.ok.many;have hz:=D.ok.size;unfold fS at hz;intro r1 hr1
 try rw[cO]
 have u1:cX h (h.set r1 (.cells (Value.cells (qX a)) dW)):=cV.new hr1;have B1:Bx (h.set r1 (.cells (Value.cells (qX a)) dW)) r1 [pT a 0]:=Bx.new;generalize h.set r1 (.cells (Value.cells (qX a)) dW)=h1 at *;rw[zB];intro r3 hr3
 try rw[cO]
 have u3:cX h1 (h1.set r3 (.cells #[.pointer none,.slice none 0 0] dA)):=cV.new hr3;have b3:BAt (h1.set r3 (.cells #[.pointer none,.slice none 0 0] dA)) r3 [] [r3]:=BAt.zero eB;have hne:r1≠r3:=B1.apart hr3;have B3:=B1.ext u3;generalize h1.set r3 (.cells #[.pointer none,.slice none 0 0] dA)=h3 at *;have e3:=u1.trans u3;have f3:h r3=none:=u1.none hr3;refine⟨λvs h'=>∃(i:Nat) (G:List Nat),i≤m∧vs=[.int .i64 (n:Int),pT r1 0,pT r3 0,.int .i64 (m:Int),.int .i64 (i:Int)]∧Bx h' r1 [pT a 0]∧BAt h' r3 (d.secs n i).flatten G∧dX h G∧r1∉G∧cX h h',fN m 4,⟨0,[r3],by omega,rfl,B3,b3,dX.one f3,by simpa using hne,e3⟩,?_⟩;rintro ρ h' ⟨i,G,hi,hvs,B,b,fG,nG,w⟩;simp only[hM,jA,kP,and_true] at hvs;obtain⟨x1,x3,x7,x11,x12⟩:=hvs;unfold aGc;rw[x1,x3,x7,x11,x12];have hfl:(d.secs n i).flatten.length=i*d.size:=by rw[aBd (aFs D.ok (by omega)),Dk.secs_len]
 have him:i*d.size≤4096*512:=Nat.mul_le_mul (by omega) hz.2;by_cases hlt:i<m
 ·have g:((i:Int)<(m:Int))=True:=eq_true (by omega);have gi:=nR (i:=i) (by omega);have gn:IntKind.i64.wrap ((n:Int)+(i:Int))=((n+i:Nat):Int):=by rw[eI (by omega) (by omega)];omega
  have erd:d.rd ((n+i:Nat):Int)=(d.at (n+i),0):=by
   unfold Dk.rd;rw[if_neg (by omega)];rfl
  have hal:=D.ok.at_len (n:=n+i) (by omega);simp only[g,dW.f0,gC.load,gI B,gn,cD,reduceIte,cJ,Nat.reduceAdd];refine aTF (D.ext w) _ hb λh5 u5=>?_;rw[erd];simp only[cD,reduceIte,cJ,Nat.reduceAdd];refine Bld.WriteString_ok (b.ext u5) (by omega) λh6 G6 b6 u6 g6=>?_;simp only[gi,cD,reduceIte,cJ,Nat.reduceAdd];have w5:=w.trans u5;refine⟨⟨i+1,G6,by omega,rfl,(B.ext u5).upd u6 nG,by rw[aM3];exact b6,λx hx=>?_,λhx=>?_,w5.fresh u6 fG⟩,by simp[fN,x12];omega⟩
  ·rcases g6 x hx with e|e
   ·exact fG x e
   ·exact w5.none e
  ·rcases g6 r1 hx with e|e
   ·exact nG e
   ·exact(B.ext u5).known e
 ·have g:((i:Int)<(m:Int))=False:=eq_false (by omega);obtain rfl:i=m:=by omega
  simp only[g,cD,reduceIte,cJ,Nat.reduceAdd];refine Bld.String_ok b λh5 u5=>?_;exact hk h5 (w.fresh u5 fG)
def eD.step{h h':PH}{e:TypeId}{n:Nat}{v:Value}{rows:List (List Value)}{F F' G:List Nat}(O:eD h e n v rows G)(s:eX h F h' F')(hd:∀b∈G,b∉F):eD h' e n v rows G∧∀b∈G,b∉F':=
 ⟨O.upd s.upd hd,λb hb hm=>by
  rcases s.grow b hm with e1|e1
  ·exact hd b hb e1
  ·exact O.known b hb e1⟩
def Bx.step{h h':PH}{r:Nat}{cs:List Value}{F F':List Nat}(B:Bx h r cs)(s:eX h F h' F')(hd:r∉F):Bx h' r cs∧r∉F':=
 ⟨B.upd s.upd hd,λhm=>by
  rcases s.grow r hm with e1|e1
  ·exact hd e1
  ·exact B.known e1⟩
def aJQ(d:Dk)(n:Nat)(s:Tx)(l:List Tx):iQ d n (s::l)=if (d.wr (n:Int) s).2≠0 then((d.wr (n:Int) s).1,(d.wr (n:Int) s).2) else iQ (d.wr (n:Int) s).1 (n+1) l:=rfl
def aOP(d:Dk)(n:Int)(s:Tx):(d.wr n s).1.buf.length≤d.buf.length+1:=by
 unfold Dk.wr;split
 ·simp
 ·split
  ·show d.buf.length≤_;omega
  ·simp
def aKL{h:PH}{a:Nat}{d:Dk}{F G:List Nat}{v:Value}{l:List Tx}(D:qF a d h F)(n:Nat)(hn:n≤1000000)(O:eD h bR 1 v (l.map kA) G)(hd:∀b∈G,b∉F)(hb:d.buf.length+l.length≤1000000){k:cF}(hk:∀h' F',qF a (iQ d n l).1 h' F'->eX h F h' F'->k (.int .i64 (iQ d n l).2) h'):bW PG tM #[qX a,.int .i64 (n:Int),v] h k:=by
 apply aDe.call;unfold aDe;obtain⟨T,hT⟩:∃T,iQ d n l=T:=⟨_,rfl⟩;rw[hT] at hk;intro r1 hr1
 try rw[cO]
 have u1:cX h (h.set r1 (.cells (Value.cells (qX a)) dW)):=cV.new hr1;have B1:Bx (h.set r1 (.cells (Value.cells (qX a)) dW)) r1 [pT a 0]:=Bx.new;generalize h.set r1 (.cells (Value.cells (qX a)) dW)=h1 at *;have D1:=D.ext u1;have n1:r1∉F:=λhm=>D.known r1 hm hr1;simp only[aAR O.slR,cD,reduceIte,cJ,Nat.reduceAdd];refine⟨λvs h'=>∃(i:Nat) (d':Dk) (F':List Nat),i≤l.length∧vs=[.int .i64 (n:Int),pT r1 0,v,.int .i64 (l.length:Int),.int .i64 (i:Int)]∧Bx h' r1 [pT a 0]∧r1∉F'∧qF a d' h' F'∧eD h' bR 1 v (l.map kA) G∧(∀b∈G,b∉F')∧T=iQ d' (n+i) (l.drop i)∧d'.buf.length≤d.buf.length+i∧eX h F h' F',fN l.length 4,⟨0,d,F,by omega,rfl,B1,n1,D1,O.ext u1,hd,hT.symm,by omega,eX.ext u1⟩,?_⟩;rintro ρ h' ⟨i,d',F',hi,hvs,B,nB,D',O',hd',hT',hb',st⟩;simp only[hM,jA,kP,and_true] at hvs;obtain⟨x1,x3,x10,x11,x12⟩:=hvs;unfold aHV;rw[x1,x3,x10,x11,x12];by_cases hlt:i<l.length
 ·have g:((i:Int)<(l.length:Int))=True:=eq_true (by omega);have gi:=nR (i:=i) (by omega);have gn:IntKind.i64.wrap ((n:Int)+(i:Int))=((n+i:Nat):Int):=by rw[eI (by omega) (by omega)];omega
  obtain⟨x,hx⟩:∃x,l[i]? =some x:=⟨_,kV hlt⟩;have ed:l.drop i=x::l.drop (i+1):=by
   rw[aA3 hlt];have:l[i]=x:=by rw[kV hlt] at hx;simpa using hx
   rw[this]
  rw[ed,aJQ] at hT';obtain⟨p,i1,i2⟩:=aI9 O'.slR hx;simp only[g,i1,i2,dW.f0,gC.load,gI B,gn,cD,reduceIte,cJ,Nat.reduceAdd];refine aRf D' _ x (by omega) λh5 F5 D5 s5=>?_;have st5:=st.trans s5;by_cases c:(d'.wr ((n+i:Nat):Int) x).2=0
  ·have q:((d'.wr ((n+i:Nat):Int) x).2 !=0)=false:=by rw[c];rfl
   rw[if_neg (λe=>e c)] at hT';simp only[dY,q,gi,cD,reduceIte,cJ,Nat.reduceAdd];obtain⟨B5,nB5⟩:=B.step s5 nB;obtain⟨O5,hd5⟩:=O'.step s5 hd';have:=aOP d' ((n+i:Nat):Int) x;exact⟨⟨i+1,_,F5,by omega,rfl,B5,nB5,D5,O5,hd5,by rw[←Nat.add_assoc];exact hT',by omega,st5⟩,by simp[fN,x12];omega⟩
  ·have q:((d'.wr ((n+i:Nat):Int) x).2 !=0)=true:=bne_iff_ne.2 c;rw[if_pos c] at hT';simp only[dY,q,cD,reduceIte,cJ,Nat.reduceAdd];subst hT';exact hk h5 F5 D5 st5
 ·have g:((i:Int)<(l.length:Int))=False:=eq_false (by omega);have ed:l.drop i=[]:=aAr (by omega);rw[ed] at hT';have hT':T=d'.fl:=hT';simp only[g,dW.f0,gC.load,gI B,cD,reduceIte,cJ,Nat.reduceAdd];refine aOE D' (by omega) λh5 F5 D5 s5=>?_;subst hT';exact hk h5 F5 D5 (st.trans s5)
end
section
open Go
def aH1(room:Int)(st:Dm×Int)(x:Rc):Dm×Int:=if st.2=0 then mB st.1 room x else st
def wlk(room:Int)(x:Rc)(l:List Rc):Dm×Int:=l.foldl (aH1 room) (x.s,chk x.s room)
def Rg(x:Rc):Prop:=wY x∧x.wf
def aTi{room:Int}{x:Rc}(g:Rg x)(st:Dm×Int):mD room st x.bs=aH1 room st x:=by
 unfold mD aH1;rw[aLr g.1 g.2];simp
def aIM{room:Int}:∀(l:List Rc) {st:Dm×Int},st.2≠0->l.foldl (aH1 room) st=st
 | [],_,_=>rfl
 | x::l,st,h=>by
  rw[zLt,show aH1 room st x=st from if_neg h];exact aIM l h
def aQH{room:Int}:∀{l:List Rc} (_:∀x∈l,Rg x) (st:Dm×Int),(l.map Rc.bs).foldl (mD room) st=l.foldl (aH1 room) st
 | [],_,_=>rfl
 | x::l,h,st=>by
  rw[hM,zLt,zLt,aTi (h x (by simp))];exact aQH (λy hy=>h y (by simp[hy])) _
def aO3{room:Int}{x:Rc}{l:List Rc}(h:∀y∈x::l,Rg y)(k1:x.k=1):xJ room ((x::l).map Rc.bs)=if (wlk room x l).2≠0 then(Dm.zero,(wlk room x l).2) else wlk room x l:=by
 have gx:=h x (by simp);have gl:=λy hy=>h y (aKA _ hy);rw[hM];unfold xJ;simp only[aQH gl];have e:lK room x.bs=if chk x.s room≠0 then(Dm.zero,chk x.s room) else(x.s,0):=by
  unfold lK;rw[aLr gx.1 gx.2];simp[k1]
 rw[e];unfold wlk;by_cases c:chk x.s room=0
 ·simp only[c,ne_eq,not_true_eq_false,if_false]
 ·rw[if_pos c,aIM l (st:=(Dm.zero,chk x.s room)) c,aIM l (st:=(x.s,chk x.s room)) c];simp[c]
structure Jn where
 w:Wl
 room:Int
 s:Dm
def Jn.zero:Jn:=⟨Wl.zero,0,Dm.zero⟩
def pR(d:Dm):Rc:=⟨1,d,0,Pl.zero,[]⟩
def lL(d:Dm):Tx:=(pR d).bytes.1
def gX(ch:Int)(q:Pl)(ns:List Nt):Rc:=⟨2,Dm.zero,ch,q,ns⟩
def kZ(room:Int)(s0:Dm)(l:List Tx):Dm×Int:=if l=[] then(s0,0) else xJ room l
def iT(d:Dk)(room:Int)(p q:Pl):Dk×Jn×Int:=
 if chk ⟨p,q,[]⟩ room≠0 then(d,Jn.zero,chk ⟨p,q,[]⟩ room)
 else if (fL d).2.2≠0 then((fL d).1,Jn.zero,(fL d).2.2)
 else if (kZ room ⟨p,q,[]⟩ (fL d).2.1.2).2≠0 then((fL d).1,Jn.zero,(kZ room ⟨p,q,[]⟩ (fL d).2.1.2).2)
 else if (gK (fL d).1 (fL d).2.1.1 (lL (kZ room ⟨p,q,[]⟩ (fL d).2.1.2).1)).2.2≠0 then
  ((gK (fL d).1 (fL d).2.1.1 (lL (kZ room ⟨p,q,[]⟩ (fL d).2.1.2).1)).1,Jn.zero,(gK (fL d).1 (fL d).2.1.1 (lL (kZ room ⟨p,q,[]⟩ (fL d).2.1.2).1)).2.2)
 else((gK (fL d).1 (fL d).2.1.1 (lL (kZ room ⟨p,q,[]⟩ (fL d).2.1.2).1)).1,⟨(gK (fL d).1 (fL d).2.1.1 (lL (kZ room ⟨p,q,[]⟩ (fL d).2.1.2).1)).2.1,room,(kZ room ⟨p,q,[]⟩ (fL d).2.1.2).1⟩,0)
def aF2(d:Dk)(j:Jn)(r:Rc)(next:Dm):Dk×Wl×Int:=if fits d j.w r.bytes.1.length then kX d j.w r.bytes.1 else gK d j.w (lL next)
def aDT(d:Dk)(j:Jn)(ch:Int)(q:Pl)(ns:List Nt):Dk×Jn×Int:=
 if j.w.broken then(d,j,14)
 else if (mB j.s j.room (gX ch q ns)).2≠0 then(d,j,(mB j.s j.room (gX ch q ns)).2)
 else((aF2 d j (gX ch q ns) (mB j.s j.room (gX ch q ns)).1).1,⟨(aF2 d j (gX ch q ns) (mB j.s j.room (gX ch q ns)).1).2.1,j.room,if (aF2 d j (gX ch q ns) (mB j.s j.room (gX ch q ns)).1).2.2=0 then(mB j.s j.room (gX ch q ns)).1 else j.s⟩,(aF2 d j (gX ch q ns) (mB j.s j.room (gX ch q ns)).1).2.2)
def aR7{L:List It}(h:∀x∈L,x.p.wf){n:Nt}(hn:n.p.wf)(room:Int):∀x∈pO L room n,x.p.wf:=by
 have key:∀i:It,i.p.wf->∀x∈oW L i,x.p.wf:=λi hi x hx=>by
  rcases aPn hx with rfl|hx
  ·exact hi
  ·exact h x hx
 have keyp:∀i:It,i.p.wf->∀x∈rL L room i,x.p.wf:=λi hi=>by
  unfold rL;split
  ·exact h
  ·exact key i hi
 unfold pO;split
 ·exact h
 ·split
  ·split
   ·exact h
   ·exact keyp _ hn
  ·split
   ·split
    ·rename_i x hx;exact key _ (h x (aAD hx).1)
    ·exact keyp _ hn
   ·intro x hx;unfold qH at hx;exact h x (zLY.1 hx).1
def aPo{room:Int}:∀(l:List Nt) {L:List It} (_:∀x∈L,x.p.wf) (_:∀n∈l,n.p.wf),∀x∈(lO room L l).1,x.p.wf
 | [],L,h,_=>h
 | n::l,L,h,hl=>by
  unfold lO;split
  ·exact aR7 h (hl n (by simp)) room
  ·exact aPo l (aR7 h (hl n (by simp)) room) λm hm=>hl m (by simp[hm])
def aJj{d:Dm}{room:Int}{r:Rc}(h:(mB d room r).2=0)(hd:d.wf)(hr:r.wf):(mB d room r).1.wf:=by
 obtain⟨-,-,-,c⟩:=aFU h;rcases c with⟨-,e⟩|⟨-,-,-,e⟩
 ·rw[e];exact hr.s
 ·rw[e];refine⟨?_,?_,aPo r.ns hd.i hr.n⟩
  ·show(if r.ch=0 then r.pl else d.p0).wf;exact aOA hr.pl hd.a
  ·show(if r.ch=0 then d.p1 else r.pl).wf;exact aOA hd.b hr.pl
def aSw{i:It}(h:i.right=true):aDh i:=by
 unfold It.right at h;simp only[rZ,aGZ,decide_eq_true_eq] at h;exact⟨by omega,by omega,h.2⟩
def aFP{s:Dm}{room:Int}(H:OkD s room):wY (pR s):=by
 refine⟨?_,λ_=>⟨H.p0,H.p1,λi hi=>aSw (H.ar i hi)⟩,λh=>by cases h⟩;unfold Rc.plain;rw[if_pos (by rfl)];have:=H.len;have:=H.r2;simp only[rZ,decide_eq_true_eq];exact⟨⟨⟨rfl,rfl⟩,rfl⟩,by show s.its.length≤40;omega⟩
def aLJ{s:Dm}(w:s.wf):(pR s).wf:=⟨w,Pl.wf_zero,by simp[pR]⟩
def aOz{s:Dm}{room:Int}(H:OkD s room):lL s=(pR s).bs:=by
 unfold lL;rcases zU (pR s) with⟨-,b⟩|⟨a,-⟩
 ·rw[b]
 ·exact absurd (aFP H) a
def aHY{r:Rc}(h:wY r):r.bs.length≤4096:=by
 unfold Rc.bs;split
 case isTrue k1=>
  obtain⟨-,-,-,h40⟩:=vV h.plain k1;have:=aKy (l:=r.s.its.map It.x) (by simp only[aIK,aO7];exact(h.a k1).2.2);simp only[Pl.bs,rT,jK,gS,iF] at *;omega
 case isFalse k1=>
  obtain⟨k2,-,-,h16⟩:=qQ h.plain k1;have:=aKy (l:=r.ns.map Nt.x) (by simp only[aIK,aPD];exact(h.b k2).2);simp only[Pl.bs,rT,jK,gS,iF] at *;omega
structure aBM(d:Dk)(j:Jn):Prop where
 log:∃s0 rs,Log d j.w ((pR s0::rs).map Rc.bs)∧(∀y∈pR s0::rs,Rg y)∧wlk j.room (pR s0) rs=(j.s,0)
 ready:j.w.ready=true
 ok:OkD j.s j.room
 wf:j.s.wf
def aBM.broken{d:Dk}{j:Jn}(H:aBM d j):j.w.broken=false:=by
 obtain⟨_,_,L,-⟩:=H.log;exact L.broken
def aRu{w:Wl}(h:w.broken=false){e:Int}(he:e≠13):w.brk e=w:=by
 obtain⟨a,b,c,d,f,g⟩:=w;simp only at h;subst h;unfold Wl.brk;simp[he]
def aHh{d:Dk}{w:Wl}{l:List Tx}(L:Log d w l)(hg:w.hd.gen<18446744073709551614){s:Dm}{room:Int}(ok:OkD s room)(wf:s.wf):
  (∃d' w',gK d w (lL s)=(d',w',0)∧aBM d' ⟨w',room,s⟩∧w'.hd.gen=w.hd.gen+1∧d'.size=d.size∧d'.sectors=d.sectors)∨gK d w (lL s)=(d,w,2):=by
 have hw:=aFP ok;have hs:=aHY hw;rw[aOz ok];by_cases c:dQ d.size (pR s).bs.length≤d.segs
 ·left;obtain⟨d',w',e,L',r,g,z1,z2⟩:=aMw L hs c hg;refine⟨d',w',e,⟨⟨s,[],L',?_,?_⟩,r,ok,wf⟩,g,z1,z2⟩
  ·intro y hy;simp only[iI] at hy;rw[hy];exact⟨hw,aLJ wf⟩
  ·show(s,chk s room)=(s,0);rw[aCS.2 ok]
 ·right;have h1:=tY (n:=(pR s).bs.length) L.ok.size hs;unfold gK;rw[if_neg (by rw[L.broken];simp),if_neg (by omega),if_pos (by omega),aRu L.broken (by decide)]
def aO5{d:Dk}{j:Jn}(H:aBM d j)(hg:j.w.hd.gen<18446744073709551614){ch:Int}{q:Pl}{ns:List Nt}(wf:(gX ch q ns).wf):
  ∃d' j' e,aDT d j ch q ns=(d',j',e)∧aBM d' j'∧j'.w.hd.gen≤j.w.hd.gen+1∧j'.room=j.room∧d'.size=d.size∧d'.sectors=d.sectors∧
   ((mB j.s j.room (gX ch q ns)).2≠0->e=(mB j.s j.room (gX ch q ns)).2∧j'.s=j.s)∧
   ((mB j.s j.room (gX ch q ns)).2=0->(e=0∧j'.s=(mB j.s j.room (gX ch q ns)).1)∨(e=2∧j'.s=j.s)):=by
 unfold aDT;rw[if_neg (by rw[H.broken];simp)];by_cases c:(mB j.s j.room (gX ch q ns)).2=0
 ·rw[if_neg (by simp[c])];obtain⟨-,hr,ho,-⟩:=aFU c;have hw:=aJj c H.wf wf;obtain⟨s0,rs,L,rg,wk⟩:=H.log;have eb:(gX ch q ns).bytes.1=(gX ch q ns).bs:=by
   rcases zU (gX ch q ns) with⟨-,b⟩|⟨a,-⟩
   ·rw[b]
   ·exact absurd hr a
  unfold aF2;rw[eb];cases hf:fits d j.w (gX ch q ns).bs.length with
  | true=>
   rw[if_pos rfl];obtain⟨d',w',e,L',r,g,z1,z2⟩:=aLw L H.ready (aHY hr) hf;rw[e];refine⟨d',_,0,rfl,⟨⟨s0,rs++[gX ch q ns],?_,?_,?_⟩,r,?_,?_⟩,by show w'.hd.gen≤_;omega,rfl,z1,z2,λh=>absurd c h,λ_=>.inl ⟨rfl,show(if (0:Int)=0 then(mB j.s j.room (gX ch q ns)).1 else j.s)=_ from if_pos rfl⟩⟩
   ·rw[←zLT,wA];exact L'
   ·intro y hy;rw[←zLT] at hy;rcases xA.1 hy with hy|hy
    ·exact rg y hy
    ·simp only[iI] at hy;rw[hy];exact⟨hr,wf⟩
   ·show wlk j.room (pR s0) (rs++[gX ch q ns])=(if (0:Int)=0 then(mB j.s j.room (gX ch q ns)).1 else j.s,0);rw[if_pos rfl];unfold wlk at wk ⊢;rw[List.foldl_append,wk];show aH1 j.room (j.s,0) (gX ch q ns)=_;unfold aH1;rw[if_pos rfl];simp only;rw[←c]
   ·show OkD (if (0:Int)=0 then(mB j.s j.room (gX ch q ns)).1 else j.s) j.room;rw[if_pos rfl];exact ho
   ·show(if (0:Int)=0 then(mB j.s j.room (gX ch q ns)).1 else j.s).wf;rw[if_pos rfl];exact hw
  | false=>
   rw[if_neg (by simp)];rcases aHh L hg ho hw with⟨d',w',e,I,g,z1,z2⟩|e
   ·rw[e];refine⟨d',_,0,rfl,?_,by show w'.hd.gen≤_;omega,rfl,z1,z2,λh=>absurd c h,λ_=>.inl ⟨rfl,show(if (0:Int)=0 then(mB j.s j.room (gX ch q ns)).1 else j.s)=_ from if_pos rfl⟩⟩;show aBM d' ⟨w',j.room,if (0:Int)=0 then(mB j.s j.room (gX ch q ns)).1 else j.s⟩;rw[if_pos rfl];exact I
   ·rw[e];refine⟨d,_,2,rfl,?_,by show j.w.hd.gen≤_;omega,rfl,rfl,rfl,λh=>absurd c h,λ_=>.inr ⟨rfl,show(if (2:Int)=0 then(mB j.s j.room (gX ch q ns)).1 else j.s)=_ from if_neg (by decide)⟩⟩;show aBM d ⟨j.w,j.room,if (2:Int)=0 then(mB j.s j.room (gX ch q ns)).1 else j.s⟩;rw[if_neg (by decide)];exact H
 ·rw[if_pos c];exact⟨d,j,_,rfl,H,by omega,rfl,rfl,rfl,λ_=>⟨rfl,rfl⟩,λh=>absurd h c⟩
def aLg{d:Dk}{j:Jn}(H:aBM d j)(hg:j.w.hd.gen<18446744073709551614){p q:Pl}(hc:chk ⟨p,q,[]⟩ j.room=0):
  (∃d' w',iT d j.room p q=(d',⟨w',j.room,j.s⟩,0)∧aBM d' ⟨w',j.room,j.s⟩∧w'.hd.gen=j.w.hd.gen+1∧d'.size=d.size∧d'.sectors=d.sectors)∨(iT d j.room p q).2.2=2:=by
 obtain⟨s0,rs,L,rg,wk⟩:=H.log;have eo:=aOR L;have es:kZ j.room ⟨p,q,[]⟩ ((pR s0::rs).map Rc.bs)=(j.s,0):=by
  unfold kZ;rw[if_neg (by simp),aO3 rg rfl,wk];simp
 have L':Log d ⟨j.w.hd,j.w.slot,j.w.used,j.w.ser,false,false⟩ ((pR s0::rs).map Rc.bs):=⟨L.ok,L.arm,L.buf,L.four,L.g1,L.g2,L.seg,L.slot,L.head,L.other,L.used,L.fits,L.ser,L.recs,L.short,L.rest,L.all,rfl⟩;unfold iT;rw[if_neg (by simp[hc]),eo];simp only;rw[if_neg (by simp),es];simp only;rw[if_neg (by simp)];rcases aHh L' hg H.ok H.wf with⟨d',w',e,I,g,z1,z2⟩|e
 ·left;rw[e];simp only;rw[if_neg (by simp)];exact⟨d',w',rfl,I,g,z1,z2⟩
 ·right;rw[e];simp only;rw[if_pos (by decide)]
def aSq{d:Dk}(H:aNp d){room:Int}{p q:Pl}(wp:p.wf)(wq:q.wf):
  (∃d' w',iT d room p q=(d',⟨w',room,⟨p,q,[]⟩⟩,0)∧aBM d' ⟨w',room,⟨p,q,[]⟩⟩∧w'.hd.gen=2∧d'.size=d.size∧d'.sectors=d.sectors∧chk ⟨p,q,[]⟩ room=0)∨(iT d room p q).2.2≠0:=by
 unfold iT;by_cases hc:chk ⟨p,q,[]⟩ room=0
 ·rw[if_neg (by simp[hc])];by_cases h4:4≤d.sectors
  ·obtain⟨d1,w1,e1,L,g1,z1,z2⟩:=aLX H h4;rw[e1];simp only;rw[if_neg (by simp)];have es:kZ room ⟨p,q,[]⟩ []=(⟨p,q,[]⟩,0):=by unfold kZ;rw[if_pos rfl]
   rw[es];simp only;rw[if_neg (by simp)];rcases aHh L (by omega) (aCS.1 hc) (s:=⟨p,q,[]⟩) ⟨wp,wq,by simp⟩ with⟨d',w',e,I,g,y1,y2⟩|e
   ·left;rw[e];simp only;rw[if_neg (by simp)];exact⟨d',w',rfl,I,by omega,y1.trans z1,y2.trans z2,hc⟩
   ·right;rw[e];simp only;rw[if_pos (by decide)];show(2:Int)≠0;decide
  ·right;have:fL d=(d,(Wl.zero,[]),1):=by unfold fL;rw[if_pos (by omega)]
   rw[this];simp only;rw[if_pos (by decide)];show(1:Int)≠0;decide
 ·right;rw[if_pos hc];exact hc
def aWA(e:Int):Prop:=e≠13∧e≠14
instance (e:Int):Decidable (aWA e):=by unfold aWA;infer_instance
def aHK{d d':Dk}(h:d'.sectors=d.sectors):d'.segs=d.segs:=by unfold Dk.segs;rw[h]
def WOk.brk{d:Dk}{w:Wl}(H:WOk d w)(e:Int):WOk d (w.brk e):=⟨H.ok,H.four,H.seg,H.slot,H.used⟩
def WOk.to{d d':Dk}{w:Wl}(H:WOk d w)(ok:d'.Ok)(h:d'.sectors=d.sectors):WOk d' w:=⟨ok,by rw[h];exact H.four,H.seg,H.slot,by rw[aHK h];exact H.used⟩
def WOk.append{d:Dk}{w:Wl}(H:WOk d w)(s:Tx):WOk (kX d w s).1 (kX d w s).2.1∧(kX d w s).1.size=d.size∧(kX d w s).1.sectors=d.sectors:=by
 obtain⟨a,b,c,-⟩:=vI (fZ d.size w.hd.gen w.ser s) H.ok (d.base w.hd.seg+w.used);unfold kX;split
 ·exact⟨H,rfl,rfl⟩
 ·split
  ·exact⟨H.brk _,rfl,rfl⟩
  ·split
   ·exact⟨H.brk _,rfl,rfl⟩
   ·split
    ·exact⟨H.brk _,rfl,rfl⟩
    ·rename_i hf;split
     ·exact⟨(H.brk _).to a c,b,c⟩
     ·have hf:fits d w s.length=true:=by simpa using hf
      unfold fits at hf;rw[decide_eq_true_eq] at hf;refine⟨⟨a,by show 4≤(aAq d w s).1.sectors;unfold aAq;rw[c];exact H.four,H.seg,H.slot,?_⟩,b,c⟩;show w.used+dQ d.size s.length≤(aAq d w s).1.segs;have:=aHK (d:=d) (d':=(aAq d w s).1) c;omega
def WOk.check{d:Dk}{w:Wl}(H:WOk d w)(s:Tx):WOk (gK d w s).1 (gK d w s).2.1∧(gK d w s).1.size=d.size∧(gK d w s).1.sectors=d.sectors:=by
 obtain⟨a,b,c,-⟩:=vI (fZ d.size (iB w.hd).1.gen 0 s) H.ok (d.base (iB w.hd).1.seg);obtain⟨a',b',c',-⟩:=vI [(fQ d.size (iB w.hd).1).1] a (1-w.slot);unfold gK;split
 ·exact⟨H,rfl,rfl⟩
 ·split
  ·exact⟨H.brk _,rfl,rfl⟩
  ·split
   ·exact⟨H.brk _,rfl,rfl⟩
   ·rename_i hp;split
    ·exact⟨H.brk _,rfl,rfl⟩
    ·split
     ·exact⟨(H.brk _).to a c,b,c⟩
     ·have e2:(iQ (nJ d (iB w.hd).1 s).1 (1-w.slot) [(fQ d.size (iB w.hd).1).1]).1.sectors=d.sectors:=c'.trans c;split
      ·exact⟨(H.brk _).to a' e2,b'.trans b,e2⟩
      ·refine⟨⟨a',by show 4≤(iQ _ _ _).1.sectors;rw[e2];exact H.four,aIi _,by show 1-w.slot≤1;omega,?_⟩,b'.trans b,e2⟩;show dQ d.size s.length≤(iQ (nJ d (iB w.hd).1 s).1 (1-w.slot) [(fQ d.size (iB w.hd).1).1]).1.segs;rw[aHK e2];omega
def Wl.cells(a:Nat)(x:Wl):List Value:=[pT a 0,.int .u64 (x.hd.gen:Int),.int .i64 (x.hd.seg:Int),.int .i64 (x.slot:Int),.int .i64 (x.used:Int),.int .u64 (x.ser:Int),.bool x.ready,.bool x.broken]
structure wQ(a w:Nat)(d:Dk)(x:Wl)(h:PH)(F:List Nat):Prop where
 here:∃Fd,F=w::Fd∧Bx h w (x.cells a)∧qF a d h Fd∧w∉Fd
 ok:WOk d x
 ser:x.ser≤x.used
 gen:x.hd.gen<18446744073709551616
def wQ.upd{a w:Nat}{d:Dk}{x:Wl}{h h':PH}{F K:List Nat}(H:wQ a w d x h F)(u:cV K h h')(hK:∀b∈F,b∉K):wQ a w d x h' F:=by
 obtain⟨Fd,rfl,B,D,n⟩:=H.here;exact⟨⟨Fd,rfl,B.upd u (hK w (by simp)),D.upd u (λb hb=>hK b (by simp[hb])),n⟩,H.ok,H.ser,H.gen⟩
def wQ.known{a w:Nat}{d:Dk}{x:Wl}{h:PH}{F:List Nat}(H:wQ a w d x h F):∀b∈F,h b≠none:=by
 obtain⟨Fd,rfl,B,D,n⟩:=H.here;intro b hb;rcases iM.1 hb with rfl|hb
 ·exact B.known
 ·exact D.known b hb
def wQ.good(a w:Nat)(d:Dk)(x:Wl):aHM (wQ a w d x):=⟨λH=>H.known,λH u hK=>H.upd u hK⟩
def wQ.ext{a w:Nat}{d:Dk}{x:Wl}{h h':PH}{F:List Nat}(H:wQ a w d x h F)(u:cX h h'):wQ a w d x h' F:=(wQ.good a w d x).ext H u
structure vK(a w:Nat)(x:Wl)(h:PH):Prop where
 st:cB PG h (loadAt dW (pT w 0))=some (qX a)
 disk:cU h ⟨w,0,none⟩=some (pT a 0)
 head:cB PG h (loadAt cL (pT w (0+1)))=some x.hd.v
 gen:cU h ⟨w,0+1,none⟩=some (.int .u64 (x.hd.gen:Int))
 seg:cU h ⟨w,0+1+1,none⟩=some (.int .i64 (x.hd.seg:Int))
 slot:cU h ⟨w,0+3,none⟩=some (.int .i64 (x.slot:Int))
 used:cU h ⟨w,0+4,none⟩=some (.int .i64 (x.used:Int))
 ser:cU h ⟨w,0+5,none⟩=some (.int .u64 (x.ser:Int))
 ready:cU h ⟨w,0+6,none⟩=some (.bool x.ready)
 broken:cU h ⟨w,0+7,none⟩=some (.bool x.broken)
def vK.of{a w:Nat}{x:Wl}{h:PH}(B:Bx h w (x.cells a)):vK a w x h:=
 ⟨dW.agg B (by show 0+1≤8;decide),B.cell 0,cL.agg B (by show 0+1+2≤8;decide),B.cell 1,B.cell 2,B.cell 3,B.cell 4,B.cell 5,B.cell 6,B.cell 7⟩
def aSY{h:PH}{a w:Nat}{x:Wl}(B:vK a w x h){k:cF}(hk:k (.bool x.broken) h):bW PG aDA #[pT w 0] h k:=by
 apply aCr.call;unfold aCr;simp only[dO.f6,iY.load,B.broken,cD,reduceIte,cJ,Nat.reduceAdd];exact hk
def aPh{h:PH}{a w:Nat}{d:Dk}{x:Wl}{F:List Nat}(H:wQ a w d x h F)(n:Nat)(hn:n<1000000000000){k:cF}(hk:∀h',cX h h'->k (.bool (fits d x n)) h'):bW PG aCH #[pT w 0,.int .i64 (n:Int)] h k:=by
 apply aA1.call;unfold aA1;obtain⟨Fd,eF,B,D,n1⟩:=id H.here;have L:=vK.of B;have hm:=H.ok.ok.many;have h4:=H.ok.four;have hu:=H.ok.used;have hsg:d.segs≤4096:=by unfold Dk.segs;omega
 simp only[dO.f0,dW.f0,gC.load,L.disk,eM.f0,D.geo,cD,reduceIte,cJ,Nat.reduceAdd];refine aD6 d λh1 u1=>?_;refine aHD d.size n hn ?_;have L1:=vK.of (B.ext u1);by_cases c:dQ d.size n=0
 ·have g:((0:Int)<(dQ d.size n:Int))=False:=eq_false (by omega);have e:fits d x n=false:=by unfold fits;exact decide_eq_false (λh=>h.1 c)
  simp only[g,cD,reduceIte,cJ,Nat.reduceAdd];have:=hk h1 u1;rw[e] at this;exact⟨λh=>absurd h (by decide),this⟩
 ·have g:((0:Int)<(dQ d.size n:Int))=True:=eq_true (by omega);have w1:IntKind.i64.wrap ((d.segs:Int)-(x.used:Int))=(d.segs:Int)-(x.used:Int):=eI (by omega) (by omega);have e:decide ((dQ d.size n:Int)≤(d.segs:Int)-(x.used:Int))=fits d x n:=by
   unfold fits;rw[xE,decide_eq_true_iff,decide_eq_true_iff];omega
  simp only[g,dO.f0,dO.f3,aR.load,L1.st,L1.used,cD,reduceIte,cJ,Nat.reduceAdd];refine aGr (D.ext u1) (by omega) λh2 u2=>?_;have L2:=vK.of ((B.ext u1).ext u2);simp only[L2.used,w1,cD,reduceIte,cJ,Nat.reduceAdd];rw[e];exact⟨λh=>h,hk h2 (u1.trans u2)⟩
def aVU(a:Nat):cC PG (build dW #[(0,pT a 0)])=some (qX a):=by kernel_rfl
def aVy(a:Nat):cC PG (build dO #[(0,qX a)])=some (.agg (Wl.cells a Wl.zero).toArray):=by kernel_rfl
def aT2(a b:ByteArray):jT PG (buildSlice dE 2 #[(0,.string a),(1,.string b)])=some (.cells #[.string a,.string b] bR,λr=>pure (.slice (some ⟨r,0,none⟩) 2 2)):=by kernel_rfl
def aN1{h:PH}{r:Nat}(s t:Tx):eD (h.set r (.cells #[.string (tx s),.string (tx t)] bR)) bR 1 (.slice (some ⟨r,0,none⟩) 2 2) ([s,t].map kA) [r]:=eD.lit (n:=2) (λr hr=>by
 obtain⟨m,_,rfl⟩:=pQ.1 hr;rfl) eB rfl (by decide) rfl
def aF3{h:PH}{r:Nat}(s:Tx):eD (h.set r (.cells #[.string (tx s)] bR)) bR 1 (.slice (some ⟨r,0,none⟩) 1 1) ([s].map kA) [r]:=aFW s
def eX.none{h h':PH}{F F':List Nat}(s:eX h F h' F'){b:Nat}(hb:h' b=none):b∈F∨h b=none:=by
 by_cases c:b∈F
 ·exact .inl c
 ·cases e:h b with
  | none=>exact .inr rfl
  | some o=>have:=s.upd b o e c;rw[hb] at this;cases this
def lH{F:List Nat}{w:Nat}(n:w∉F):∀b∈F,b∉[w]:=λb hb hm=>by
 simp only[iI] at hm;exact n (hm▸hb)
def aOe{h0 h:PH}{a w:Nat}{d:Dk}{hd:Hd}{slot us se:Nat}{F0 F:List Nat}(B:Bx h w (Wl.cells a ⟨hd,slot,us,se,false,false⟩))(D:qF a d h F)(n1:w∉F)(h4:4≤d.sectors)(hs:hd.seg≤1)(h1:slot≤1)(hg:hd.gen<18446744073709551616)(hb:d.buf.length≤1000000)(st:eX h0 F0 h F)(fw:h0 w=none){k:cF}
  (hk:∀h' F' v G,wQ a w d (zI d hd slot).1 h' F'->eD h' bR 1 v ((zI d hd slot).2.map kA) G->(∀b∈G,b∉F')->eX h0 F0 h' (F'++G)->k (.tuple #[pT w 0,v,.int .i64 0]) h'):aEG k (pT a 0) (pT w 0) h:=by
 unfold aEG;have L:=vK.of B;have hm:=D.ok.many;have fit:=zZ d h4 hs;simp only[eM.f0,D.geo,dO.f0,dO.f1,cL.f0,cL.f1,cI.load,aR.load,L.gen,L.seg,L.st,cD,reduceIte,cJ,Nat.reduceAdd];refine aD6 d λh2 u2=>?_;have L2:=vK.of (B.ext u2);refine⟨L2.st,L2.seg,L2.st,L2.st,L2.gen,?_⟩;refine aMV (D.ext u2) (by omega) hd.seg hs λh3 u3=>?_;have e3:=u2.trans u3;have L3:=vK.of (B.ext e3);refine⟨L3.st,L3.st,L3.gen,?_⟩;refine aGr (D.ext e3) (by omega) λh5 u5=>?_;have e5:=e3.trans u5;have L5:=vK.of (B.ext e5);refine⟨L5.st,L5.gen,?_⟩;refine aLH (D.ext e5) (d.base hd.seg) d.segs (by omega) hb λh6 u6=>?_;have e6:=e5.trans u6;have L6:=vK.of (B.ext e6);refine⟨L6.gen,?_⟩;have hsg:d.segs≤4096:=by unfold Dk.segs;omega
 have sl:=Dk.secs_len d (d.base hd.seg) d.segs;refine aUh D.ok.size (aFs D.ok (by omega)) (by omega) λh7 v G O7 f7 u7=>?_;have e7:=e6.trans u7;rw[sl] at O7 ⊢;have hle:=aIR (size:=d.size) (gen:=hd.gen) (d.segs+1) (d.secs (d.base hd.seg) d.segs) 0;have hma:=aHv (size:=d.size) (gen:=hd.gen) (d.segs+1) (d.secs (d.base hd.seg) d.segs) 0;rw[sl] at hle;have hw:(zI d hd slot)=(⟨hd,slot,(jR d.size hd.gen (d.segs+1) (d.secs (d.base hd.seg) d.segs) 0).2,(jR d.size hd.gen (d.segs+1) (d.secs (d.base hd.seg) d.segs) 0).1.length,false,false⟩,(jR d.size hd.gen (d.segs+1) (d.secs (d.base hd.seg) d.segs) 0).1):=rfl;rw[hw] at hk;have hok:WOk d (zI d hd slot).1:=WOk.mk' D.ok h4 hs h1;rw[hw] at hok;obtain⟨R,hR⟩:∃R,jR d.size hd.gen (d.segs+1) (d.secs (d.base hd.seg) d.segs) 0=R:=⟨_,rfl⟩;rw[hR] at hk hok O7 hle hma ⊢;have B7:=B.ext e7;have D7:=D.ext e7;have cvt:cC PG (convert aR cI (.int .i64 (R.1.length:Int)))=some (.int .u64 (R.1.length:Int)):=by
  rw[show cC PG (convert aR cI (.int .i64 (R.1.length:Int)))=some (.int .u64 (IntKind.u64.wrap (R.1.length:Int))) from by kernel_rfl,jU (by omega) (by omega)]
 simp only[aAR O7.slR,cvt,dO.f3,dO.f4,cD,reduceIte,cJ,Nat.reduceAdd];refine aR.put B7 (o:=4) (by show 4<8;decide) rfl λh8 B8 u8=>?_;refine cI.put B8 (o:=5) (by show 5<8;decide) rfl λh9 B9 u9=>?_;have B9:Bx h9 w (Wl.cells a ⟨hd,slot,R.2,R.1.length,false,false⟩):=B9;have u89:=u8.trans u9;have nw:w∉G:=λhx=>B.known (e6.none (f7 w hx));have dG:∀b∈G,b∉F:=λb hb hf=>D.known b hf (e6.none (f7 b hb));refine hk h9 (w::F) v G ⟨⟨F,rfl,B9,D7.upd u89 (lH n1),n1⟩,hok,hma,hg⟩ (O7.upd u89 (lH nw)) (λb hb hm=>?_) ⟨?_,λb hb=>?_⟩
 ·rcases iM.1 hm with rfl|hm
  ·exact nw hb
  ·exact dG b hb hm
 ·exact(st.upd.trans e7.upd).then u89 (λb hb=>by
   simp only[iI] at hb;rw[hb];exact .inr fw)
 ·simp only[zLT,iM,xA] at hb;rcases hb with rfl|hb|hb
  ·exact .inr fw
  ·exact st.grow b hb
  ·exact(st.trans (eX.ext e6)).none (f7 b hb)
def aNV(size:Nat)(s:Tx):(fW size s).1.gen<18446744073709551616:=by
 have h0:Hd.zero.gen<18446744073709551616:=by decide
 have h1:(uH s).gen<18446744073709551616:=uP (0,s.drop 1) 8;unfold fW;split
 ·exact h0
 ·split
  ·exact h0
  ·split
   ·exact h0
   ·split
    ·exact h1
    ·exact h0
def aM5{b:Hd×Int}{k:Int}{x:Hd}(hb:b.1.gen<18446744073709551616)(hh:x.gen<18446744073709551616):(wK b k x).1.gen<18446744073709551616:=by
 unfold wK;split
 ·exact hh
 ·exact hb
def aLi(size:Nat)(x y:Tx):(mY size x y).1.gen<18446744073709551616:=by
 unfold mY;exact aM5 (aM5 (by decide) (aNV size x)) (aNV size y)
def aFM:∀(l:List Tx) (d:Dk) (n:Nat),(iQ d n l).1.buf.length≤d.buf.length+l.length
 | [],d,n=>by
  show d.fl.1.buf.length≤_;unfold Dk.fl;split
  ·exact mS _
  ·exact lA _
 | s::l,d,n=>by
  rw[aJQ];have h1:=aOP d (n:Int) s;split
  ·simp only[iN];show(d.wr (n:Int) s).1.buf.length≤_;omega
  ·have:=aFM l (d.wr (n:Int) s).1 (n+1);simp only[iN];omega
def aPZ(d:Dk)(n:Nat):(d.secs n 1).flatten=d.at n:=by
 show([d.at (n+0)]:List Tx).flatten=_;simp
def aSu{h:PH}{a:Nat}{d:Dk}{F:List Nat}(D:qF a d h F)(hb:d.buf.length≤999000){k:cF}
  (bad:∀h' F',qF a (fL d).1 h' F'->eX h F h' F'->(fL d).2.2≠0->k (.tuple #[.pointer none,.slice none 0 0,.int .i64 (fL d).2.2]) h')
  (hk:∀h' F' w v G,wQ a w (fL d).1 (fL d).2.1.1 h' F'->eD h' bR 1 v ((fL d).2.1.2.map kA) G->(∀b∈G,b∉F')->eX h F h' (F'++G)->(fL d).2.2=0->k (.tuple #[pT w 0,v,.int .i64 0]) h'):bW PG aIN #[pT a 0] h k:=by
 apply aFG.call;unfold aFG;have hm:=D.ok.many;have hz:=D.ok.size;unfold fL at bad hk;simp only[aVU,aVy,cD,reduceIte,cJ,Nat.reduceAdd];intro r3 hr3
 try rw[cO]
 have u3:cX h (h.set r3 (.cells (Value.cells (.agg (Wl.cells a Wl.zero).toArray)) dO)):=cV.new hr3;have B3:Bx (h.set r3 (.cells (Value.cells (.agg (Wl.cells a Wl.zero).toArray)) dO)) r3 (Wl.cells a Wl.zero):=Bx.new;generalize h.set r3 (.cells (Value.cells (.agg (Wl.cells a Wl.zero).toArray)) dO)=h3 at *;have D3:=D.ext u3;have n3:r3∉F:=λhm=>D.known r3 hm hr3;simp only[eM.f0,D3.geo,cD,reduceIte,cJ,Nat.reduceAdd];refine aLP d λh4 u4=>?_;have e4:=u3.trans u4;by_cases c4:d.sectors<4
 ·have g:((d.sectors:Int)<4)=True:=eq_true (by omega);rw[if_pos c4] at bad;simp only[g,cD,reduceIte,cJ,Nat.reduceAdd];exact bad h4 F (D.ext e4) (eX.ext e4) (by show(1:Int)≠0;decide)
 ·have g:((d.sectors:Int)<4)=False:=eq_false (by omega);rw[if_neg c4] at bad hk;simp only[g,cD,reduceIte,cJ,Nat.reduceAdd];refine aOE (D.ext e4) (by omega) λh5 F5 D5 s5=>?_;have st5:=(eX.ext (F:=F) e4).trans s5;obtain⟨B5,n5⟩:=(B3.ext u4).step s5 n3;by_cases c5:d.fl.2=0
  ·have q:(d.fl.2 !=0)=false:=by rw[c5];rfl
   rw[if_neg (λe=>e c5)] at bad hk;have L5:=vK.of B5;have eg:d.fl.1.size=d.size:=d.fl_geo.1;have es:d.fl.1.sectors=d.sectors:=d.fl_geo.2;have eb:d.fl.1.buf.length≤999000:=by
    unfold Dk.fl;split
    ·exact hb
    ·exact lA _
   simp only[dY,q,eM.f0,D5.geo,dO.f0,L5.st,cD,reduceIte,cJ,Nat.reduceAdd];refine aD6 d.fl.1 λh6 u6=>?_;have L6:=vK.of (B5.ext u6);refine⟨L6.st,L6.st,?_⟩;refine aLH (D5.ext u6) 0 1 (by omega) (by omega) λh7 u7=>?_;have e7:=u6.trans u7;have L7:=vK.of (B5.ext e7);refine⟨L7.st,?_⟩;refine aLH (D5.ext e7) 1 1 (by omega) (by omega) λh8 u8=>?_;have e8:=e7.trans u8;rw[aPZ,aPZ,eg];have al0:=D5.ok.at_len (n:=0) (by omega);have al1:=D5.ok.at_len (n:=1) (by omega);rw[eg] at al0 al1;unfold fS at hz;simp only[aT2,cD,reduceIte,cJ,Nat.reduceAdd];intro r29 hr29;refine gV ?_
   try rw[cO]
   have O9:=aN1 (h:=h8) (r:=r29) (d.fl.1.at 0) (d.fl.1.at 1);have u9:cX h8 (h8.set r29 (.cells #[.string (tx (d.fl.1.at 0)),.string (tx (d.fl.1.at 1))] bR)):=cV.new hr29;generalize h8.set r29 (.cells #[.string (tx (d.fl.1.at 0)),.string (tx (d.fl.1.at 1))] bR)=h9 at *;refine aRi d.size _ _ O9.slR (by omega) (by omega) λh10 u10=>?_;have e10:=(e8.trans u9).trans u10;have B10:=B5.ext e10;have D10:=D5.ext e10;have st10:=st5.trans (eX.ext (F:=F5) e10);obtain⟨N,hN⟩:∃N,mY d.size (d.fl.1.at 0) (d.fl.1.at 1)=N:=⟨_,rfl⟩;have hno:=aKD d.size (d.fl.1.at 0) (d.fl.1.at 1);have hng:=aLi d.size (d.fl.1.at 0) (d.fl.1.at 1);rw[hN] at bad hk hno hng ⊢;obtain⟨N1,N2⟩:=N;simp only[dO.f1,dO.f2,cD,reduceIte,cJ,Nat.reduceAdd];refine cL.put B10 (vs:=N1.cells) (o:=1) rfl (by show 1+2≤8;decide) N1.isC λh11 B11 u11=>?_;refine aR.put B11 (o:=3) (by show 3<8;decide) rfl λh12 B12 u12=>?_;have c12:cU h12 ⟨r3,0+3,none⟩=some (.int .i64 N2):=B12.cell 3;have u112:=u11.trans u12;have D12:=D10.upd u112 (lH n5);have st12:eX h F h12 F5:=⟨st10.upd.then u112 (λb hb=>by
    simp only[iI] at hb;rw[hb];exact .inr hr3),st10.grow⟩
   by_cases c:N2<0
   ·have g:(N2<0)=True:=eq_true c;rw[if_pos c] at bad hk;simp only[aR.load,c12,g,aQA,cD,reduceIte,cJ,Nat.reduceAdd];refine cL.put B12 (vs:=Hd.cells ⟨1,0⟩) (o:=1) rfl (by show 1+2≤8;decide) (Hd.isC _) λh13 B13 u13=>?_;refine aR.put B13 (o:=3) (by show 3<8;decide) rfl λh14 B14 u14=>?_;have B14:Bx h14 r3 (Wl.cells a ⟨⟨1,0⟩,1,0,0,false,false⟩):=B14;have u134:=u13.trans u14;have D14:=D12.upd u134 (lH n5);have L14:=vK.of B14;have st14:eX h F h14 F5:=⟨st12.upd.then u134 (λb hb=>by
     simp only[iI] at hb;rw[hb];exact .inr hr3),st12.grow⟩
    simp only[eM.f0,D14.geo,dO.f1,L14.head,cD,reduceIte,cJ,Nat.reduceAdd];refine aD6 d.fl.1 λh15 u15=>?_;have L15:=vK.of (B14.ext u15);refine⟨L15.head,?_⟩;refine aPA d.fl.1.size ⟨1,0⟩ (by decide) (by decide) λh16 u16=>?_;have e16:=u15.trans u16;have L16:=vK.of (B14.ext e16);rw[eg];simp only[dO.f0,dO.f2,L16.st,aR.load,L16.slot,aFj,cD,reduceIte,cJ,Nat.reduceAdd];intro r76 hr76;refine gV ?_
    try rw[cO]
    have O17:=aF3 (h:=h16) (r:=r76) (fQ d.size ⟨1,0⟩).1;have u17:cX h16 (h16.set r76 (.cells #[.string (tx (fQ d.size ⟨1,0⟩).1)] bR)):=cV.new hr76;generalize h16.set r76 (.cells #[.string (tx (fQ d.size ⟨1,0⟩).1)] bR)=h17 at *;have e17:=e16.trans u17;have n76:∀b∈[r76],b∉F5:=λb hb hf=>by
     simp only[iI] at hb;rw[hb] at hf;exact D14.known r76 hf (e16.none hr76)
    refine aKL (D14.ext e17) 1 (by decide) O17 n76 (by simp only[iN,kW];omega) λh18 F18 D18 s18=>?_;obtain⟨B18,n18⟩:=(B14.ext e17).step s18 n5;have st18:=(st14.trans (eX.ext e17)).trans s18;obtain⟨P,hP⟩:∃P,iQ d.fl.1 1 [(fQ d.size ⟨1,0⟩).1]=P:=⟨_,rfl⟩;have hpo:=vI [(fQ d.size ⟨1,0⟩).1] D5.ok 1;have hpb:=aFM [(fQ d.size ⟨1,0⟩).1] d.fl.1 1;rw[hP] at bad hk D18 hpo hpb ⊢;by_cases c6:P.2=0
    ·have q6:(P.2 !=0)=false:=by rw[c6];rfl
     rw[if_neg (λe=>e c6)] at hk;simp only[dY,q6,cD,reduceIte,cJ,Nat.reduceAdd];simp only[iN,kW] at hpb;refine aOe B18 D18 n18 (by rw[hpo.2.2.1];omega) (by decide) (by decide) (by decide) (by omega) st18 hr3 λh' F' v G W O dj st=>?_;exact hk h' F' r3 v G W O dj st rfl
    ·have q6:(P.2 !=0)=true:=bne_iff_ne.2 c6;rw[if_pos c6] at bad;simp only[dY,q6,cD,reduceIte,cJ,Nat.reduceAdd];exact bad h18 F18 D18 st18 c6
   ·have g:(N2<0)=False:=eq_false c;rw[if_neg c] at hk;simp only[aR.load,c12,g,cD,reduceIte,cJ,Nat.reduceAdd];have en:N2=((N2.toNat:Nat):Int):=by omega
    have B12:Bx h12 r3 (Wl.cells a ⟨N1,N2.toNat,0,0,false,false⟩):=by
     rw[en] at B12;exact B12
    have hno:=hno;refine aOe B12 D12 n5 (by rw[es];omega) hno.1 (by have:=hno.2;simp only at this;omega) hng (by omega) st12 hr3 λh' F' v G W O dj st=>?_;exact hk h' F' r3 v G W O dj st rfl
  ·have q:(d.fl.2 !=0)=true:=bne_iff_ne.2 c5;rw[if_pos c5] at bad;simp only[dY,q,cD,reduceIte,cJ,Nat.reduceAdd];exact bad h5 F5 D5 st5 c5
def aRX{h:PH}{a w:Nat}{d:Dk}{x:Wl}{F:List Nat}{fv:Value}(H:wQ a w d x h F){Q:Dk->Wl->Int->Prop}{k:cF}
  (body:x.broken=false->∀k':Value->PH->Prop,(∀h' F' d' x' e,wQ a w d' x' h' F'->eX h F h' F'->Q d' x' e->k' (.int .i64 e) h')->xP PG fv #[] h k')
  (hk0:x.broken=true->k (.int .i64 14) h)
  (hk:x.broken=false->∀h' F' d' x' e,wQ a w d' (x'.brk e) h' F'->eX h F h' F'->Q d' x' e->k (.int .i64 e) h'):bW PG aCj #[pT w 0,fv] h k:=by
 apply aFk.call;unfold aFk;obtain⟨Fd,eF,B,D,n1⟩:=id H.here;have L:=vK.of B;cases c:x.broken with
 | true=>
  have lb:=L.broken;rw[c] at lb;simp only[dO.f6,iY.load,lb,cD,reduceIte,cJ,Nat.reduceAdd];exact hk0 c
 | false=>
  have lb:=L.broken;rw[c] at lb;simp only[dO.f6,iY.load,lb,cD,reduceIte,cJ,Nat.reduceAdd];refine body c _ λh' F' d' x' e H' st q=>?_;obtain⟨Fd',eF',B',D',n'⟩:=H'.here;have qe:(e==13)=decide (e=13):=by rw[xE,beq_iff_eq,decide_eq_true_iff]
  simp only[fO,qe,dO.f6,cD,reduceIte,cJ,Nat.reduceAdd];refine iY.put B' (o:=7) (by show 7<8;decide) rfl λh2 B2 u2=>?_;have B2:Bx h2 w ((x'.brk e).cells a):=B2;refine hk c h2 F' d' x' e ⟨⟨Fd',eF',B2,D'.upd u2 (lH n'),n'⟩,H'.ok.brk e,H'.ser,H'.gen⟩ ?_ q;refine⟨st.upd.then u2 (λb hb=>?_),st.grow⟩;simp only[iI] at hb;exact st.grow b (by rw[eF',hb];simp)
def eX.in{h h':PH}{F F':List Nat}{w:Nat}(n:w∉F)(s:eX h F h' F'):eX h (w::F) h' (w::F'):=
 ⟨s.upd.mono λb hb=>.inl (by simp[hb]),λb hb=>by
  rcases iM.1 hb with rfl|hb
  ·exact .inl (by simp)
  ·rcases s.grow b hb with e|e
   ·exact .inl (by simp[e])
   ·exact .inr e⟩
def aPO{h:PH}{a w r1 r3:Nat}{d:Dk}{x:Wl}{F:List Nat}(H:wQ a w d x h F)(hx:x.broken=false)(s:Tx)(hs:s.length≤1000000)(hb:d.buf.length≤990000)(B1:Bx h r1 [pT w 0])(B3:Bx h r3 [.string (tx s)])(m1:r1∉F){k:cF}
  (hk:∀h' F' d' x' e,wQ a w d' x' h' F'->eX h F h' F'->kX d x s=(d',x'.brk e,e)->k (.int .i64 e) h'):bW PG aBy #[pT r1 0,pT r3 0] h k:=by
 apply tB.call;unfold tB;obtain⟨Fd,rfl,B,D,n1⟩:=id H.here;have L:=vK.of B;have hm:=D.ok.many;have h4:=H.ok.four;have hu:=H.ok.used;have hser:=H.ser;have hsg:d.segs≤4096:=by unfold Dk.segs;omega
 have hm1:r1≠w∧r1∉Fd:=by simpa using m1
 cases cr:x.ready with
 | false=>
  have lr:=L.ready;rw[cr] at lr;simp only[eA.load,gI B1,dO.f5,iY.load,lr,cD,reduceIte,cJ,Nat.reduceAdd];refine hk h _ d x 15 H eX.refl ?_;unfold kX;rw[if_neg (by rw[hx];decide),if_pos cr]
 | true=>
  have lr:=L.ready;rw[cr] at lr;simp only[eA.load,gI B1,dO.f5,iY.load,lr,dO.f0,dW.f0,gC.load,L.disk,eM.f0,D.geo,dO.f1,cL.f0,cI.load,L.gen,dO.f4,L.ser,bR.load,gI B3,cD,reduceIte,cJ,Nat.reduceAdd];refine aD6 d λh2 u2=>?_;have L2:=vK.of (B.ext u2);simp only[gI (B1.ext u2),gI (B3.ext u2),L2.gen,L2.ser,cD,reduceIte,cJ,Nat.reduceAdd];refine⟨trivial,trivial,trivial,trivial,trivial,?_⟩;refine aPE d.size x.hd.gen x.ser s D.ok.size H.gen (by omega) hs λh3 v G O3 f3 u3=>?_;have e3:=u2.trans u3;have C1:=B1.ext e3;have C3:=B3.ext e3;have H3:=H.ext e3;by_cases c1:dQ d.size s.length=0
  ·have q1:((1:Int) !=0)=true:=rfl;rw[if_pos c1];simp only[dY,q1,cD,reduceIte,cJ,Nat.reduceAdd];refine hk h3 _ d x 1 H3 (eX.ext e3) ?_;unfold kX;rw[if_neg (by rw[hx];decide),if_neg (by rw[cr];decide),if_pos c1]
  ·have q1:((0:Int) !=0)=false:=rfl;rw[if_neg c1];simp only[dY,q1,gI C1,gI C3,iL,cD,reduceIte,cJ,Nat.reduceAdd];refine aPh H3 s.length (by omega) λh4' u4=>?_;have e4:=e3.trans u4;have H4:=H.ext e4;cases cf:fits d x s.length with
   | false=>
    simp only[cD,reduceIte,cJ,Nat.reduceAdd];refine hk h4' _ d x 2 H4 (eX.ext e4) ?_;unfold kX;rw[if_neg (by rw[hx];decide),if_neg (by rw[cr];decide),if_neg c1,if_pos cf]
   | true=>
    have L4:=vK.of (B.ext e4);have hf:=cf;unfold fits at hf;rw[decide_eq_true_eq] at hf;have hbs:d.base x.hd.seg≤10000:=by
     have:=zZ d h4 H.ok.seg;omega
    have w1:IntKind.i64.wrap ((d.base x.hd.seg:Int)+(x.used:Int))=((d.base x.hd.seg+x.used:Nat):Int):=by rw[eI (by omega) (by omega)];omega
    simp only[gI (B1.ext e4),dO.f0,dO.f1,L4.st,cL.f1,aR.load,L4.seg,dO.f3,L4.used,cD,reduceIte,cJ,Nat.reduceAdd];refine aMV (D.ext e4) (by omega) x.hd.seg H.ok.seg λh5 u5=>?_;have e5:=e4.trans u5;have L5:=vK.of (B.ext e5);simp only[gI (B1.ext e5),L5.st,L5.used,w1,cD,reduceIte,cJ,Nat.reduceAdd];refine⟨trivial,trivial,trivial,trivial,?_⟩;have fl:(fZ d.size x.hd.gen x.ser s).length=dQ d.size s.length:=kK ..;have dG:∀b∈G,b∉Fd:=λb hb hf=>D.known b hf (u2.none (f3 b hb));refine aKL (D.ext e5) (d.base x.hd.seg+x.used) (by omega) (O3.ext (u4.trans u5)) dG (by omega) λh6 F6 D6 s6=>?_;obtain⟨B6,n6⟩:=(B.ext e5).step s6 n1;have st6:eX h (w::Fd) h6 (w::F6):=(eX.ext e5).trans (eX.in n1 s6);have C6:=((B1.ext e5).step s6 hm1.2).1;have hpo:=vI (fZ d.size x.hd.gen x.ser s) D.ok (d.base x.hd.seg+x.used);have hwo:=H.ok.append s;have hd':iQ d (d.base x.hd.seg+x.used) (fZ d.size x.hd.gen x.ser s)=aAq d x s:=rfl;rw[hd'] at D6 hpo ⊢;have hap:=H.ok.ap cf;by_cases c6:(aAq d x s).2=0
    ·have q6:((aAq d x s).2 !=0)=false:=by rw[c6];rfl
     have e:kX d x s=((aAq d x s).1,⟨x.hd,x.slot,x.used+dQ d.size s.length,x.ser+1,x.ready,false⟩,0):=by
      unfold kX;rw[if_neg (by rw[hx];decide),if_neg (by rw[cr];decide),if_neg c1,if_neg (by rw[cf];decide),if_neg (λe=>e c6)]
     rw[e] at hwo;have L6:=vK.of B6;have w2:IntKind.i64.wrap ((x.used:Int)+((fZ d.size x.hd.gen x.ser s).length:Int))=((x.used+dQ d.size s.length:Nat):Int):=by rw[fl,eI (by omega) (by omega)];omega
     have w3:IntKind.u64.wrap ((x.ser:Int)+1)=((x.ser+1:Nat):Int):=by rw[jU (by omega) (by omega)];omega
     simp only[dY,q6,gI C6,dO.f3,aR.load,L6.used,aAR O3.slR,w2,cD,reduceIte,cJ,Nat.reduceAdd];refine aR.put B6 (o:=4) (by show 4<8;decide) rfl λh7 B7 u7=>?_;have C7:=C6.upd u7 (by simpa using hm1.1);have c5:cU h7 ⟨w,0+5,none⟩=some (.int .u64 (x.ser:Int)):=B7.cell 5;simp only[gI C7,dO.f4,cI.load,c5,w3,cD,reduceIte,cJ,Nat.reduceAdd];refine cI.put B7 (o:=5) (by show 5<8;decide) rfl λh8 B8 u8=>?_;have B8:Bx h8 w (Wl.cells a ⟨x.hd,x.slot,x.used+dQ d.size s.length,x.ser+1,x.ready,x.broken⟩):=B8;rw[hx] at B8;have u78:=u7.trans u8;refine hk h8 (w::F6) (aAq d x s).1 ⟨x.hd,x.slot,x.used+dQ d.size s.length,x.ser+1,x.ready,false⟩ 0 ⟨⟨F6,rfl,B8,D6.upd u78 (lH n6),n6⟩,hwo.1,by show x.ser+1≤x.used+dQ d.size s.length;omega,H.gen⟩ ⟨st6.upd.trans (u78.mono λb hb=>.inl (by simp only[iI] at hb;simp[hb])),st6.grow⟩ ?_;rw[e];rfl
    ·have q6:((aAq d x s).2 !=0)=true:=bne_iff_ne.2 c6;simp only[dY,q6,cD,reduceIte,cJ,Nat.reduceAdd];refine hk h6 (w::F6) (aAq d x s).1 x (aAq d x s).2 ⟨⟨F6,rfl,B6,D6,n6⟩,H.ok.to hpo.1 hpo.2.2.1,H.ser,H.gen⟩ st6 ?_;unfold kX;rw[if_neg (by rw[hx];decide),if_neg (by rw[cr];decide),if_neg c1,if_neg (by rw[cf];decide),if_pos c6]
def aQT{h:PH}{a w:Nat}{d:Dk}{x:Wl}{F:List Nat}(H:wQ a w d x h F)(s:Tx)(hs:s.length≤1000000)(hb:d.buf.length≤990000){k:cF}
  (hk:∀h' F',wQ a w (kX d x s).1 (kX d x s).2.1 h' F'->eX h F h' F'->k (.int .i64 (kX d x s).2.2) h'):bW PG aDB #[pT w 0,.string (tx s)] h k:=by
 apply aCw.call;unfold aCw;intro r1 hr1
 try rw[cO]
 have u1:cX h (h.set r1 (.cells (Value.cells (pT w 0)) eA)):=cV.new hr1;have B1:Bx (h.set r1 (.cells (Value.cells (pT w 0)) eA)) r1 [pT w 0]:=Bx.new;generalize h.set r1 (.cells (Value.cells (pT w 0)) eA)=h1 at *;intro r3 hr3
 try rw[cO]
 have u3:cX h1 (h1.set r3 (.cells (Value.cells (.string (tx s))) bR)):=cV.new hr3;have B3:Bx (h1.set r3 (.cells (Value.cells (.string (tx s))) bR)) r3 [.string (tx s)]:=Bx.new;generalize h1.set r3 (.cells (Value.cells (.string (tx s))) bR)=h3 at *;have e3:=u1.trans u3;have m1:r1∉F:=λhm=>H.known r1 hm hr1;simp only[eA.load,gI (B1.ext u3),aDE,cD,reduceIte,cJ,Nat.reduceAdd];refine aRX (Q:=λd' x' e=>kX d x s=(d',x'.brk e,e)) (H.ext e3) (λhx k' hk'=>?_) (λhx=>?_) (λhx h' F' d' x' e H' st q=>?_)
 ·exact aPO (H.ext e3) hx s hs hb (B1.ext u3) B3 m1 hk'
 ·have e:kX d x s=(d,x,14):=by unfold kX;rw[if_pos hx]
  rw[e] at hk;exact hk h3 F (H.ext e3) (eX.ext e3)
 ·rw[q] at hk;exact hk h' F' H' ((eX.ext e3).trans st)
def aOT{h:Hd}(hg:h.gen<18446744073709551616):(iB h).1.gen<18446744073709551616:=by
 unfold iB;split
 ·decide
 ·show h.gen+1<_;omega
def aQg{h:PH}{a w r1 r3:Nat}{d:Dk}{x:Wl}{F:List Nat}(H:wQ a w d x h F)(hx:x.broken=false)(s:Tx)(hs:s.length≤1000000)(hb:d.buf.length≤990000)(B1:Bx h r1 [pT w 0])(B3:Bx h r3 [.string (tx s)])(m1:r1∉F)(m3:r3∉F){k:cF}
  (hk:∀h' F' d' x' e,wQ a w d' x' h' F'->eX h F h' F'->gK d x s=(d',x'.brk e,e)->k (.int .i64 e) h'):bW PG yG #[pT r1 0,pT r3 0] h k:=by
 apply pD.call;unfold pD;obtain⟨Fd,rfl,B,D,n1⟩:=id H.here;have L:=vK.of B;have hm:=D.ok.many;have h4:=H.ok.four;have hu:=H.ok.used;have hser:=H.ser;have hz:=D.ok.size;have hsg:d.segs≤4096:=by unfold Dk.segs;omega
 have hm1:r1≠w∧r1∉Fd:=by simpa using m1
 have hm3:r3≠w∧r3∉Fd:=by simpa using m3
 simp only[eA.load,gI B1,dO.f0,dW.f0,gC.load,L.disk,eM.f0,D.geo,bR.load,gI B3,iL,cD,reduceIte,cJ,Nat.reduceAdd];refine aD6 d λh2 u2=>?_;have L2:=vK.of (B.ext u2);refine⟨gI (B3.ext u2),?_⟩;refine aHD d.size s.length (by omega) ?_;by_cases c1:dQ d.size s.length=0
 ·have q1:(((dQ d.size s.length:Nat):Int)==0)=true:=by rw[c1];rfl
  simp only[fO,q1,cD,reduceIte,cJ,Nat.reduceAdd];refine hk h2 _ d x 1 (H.ext u2) (eX.ext u2) ?_;unfold gK;rw[if_neg (by rw[hx];decide),if_pos c1]
 ·have q1:(((dQ d.size s.length:Nat):Int)==0)=false:=by rw[beq_eq_false_iff_ne];omega
  simp only[fO,q1,gI (B1.ext u2),dO.f0,L2.st,cD,reduceIte,cJ,Nat.reduceAdd];refine aGr (D.ext u2) (by omega) λh3 u3=>?_;have e3:=u2.trans u3;by_cases c2:d.segs<dQ d.size s.length
  ·have g2:((d.segs:Int)<(dQ d.size s.length:Int))=True:=eq_true (by omega);simp only[g2,cD,reduceIte,cJ,Nat.reduceAdd];refine hk h3 _ d x 2 (H.ext e3) (eX.ext e3) ?_;unfold gK;rw[if_neg (by rw[hx];decide),if_neg c1,if_pos c2]
  ·have g2:((d.segs:Int)<(dQ d.size s.length:Int))=False:=eq_false (by omega);have L3:=vK.of (B.ext e3);simp only[g2,gI (B1.ext e3),dO.f1,L3.head,cD,reduceIte,cJ,Nat.reduceAdd];refine aU0 x.hd H.gen λh4' u4=>?_;have e4:=e3.trans u4;obtain⟨N,hN⟩:∃N,iB x.hd=N:=⟨_,rfl⟩;have hng:=aOT H.gen;have hns:=aIi x.hd;have hnh:=aM1 (h:=x.hd) hz;have eW:gK d x s=if N.2≠0 then(d,x.brk N.2,N.2)
     else if (nJ d N.1 s).2≠0 then((nJ d N.1 s).1,x.brk (nJ d N.1 s).2,(nJ d N.1 s).2)
     else if (iQ (nJ d N.1 s).1 (1-x.slot) [(fQ d.size N.1).1]).2≠0 then
      ((iQ (nJ d N.1 s).1 (1-x.slot) [(fQ d.size N.1).1]).1,x.brk (iQ (nJ d N.1 s).1 (1-x.slot) [(fQ d.size N.1).1]).2,(iQ (nJ d N.1 s).1 (1-x.slot) [(fQ d.size N.1).1]).2)
     else((iQ (nJ d N.1 s).1 (1-x.slot) [(fQ d.size N.1).1]).1,⟨N.1,1-x.slot,dQ d.size s.length,1,true,false⟩,0):=by
    unfold gK;rw[if_neg (by rw[hx];decide),if_neg c1,if_neg c2,hN]
   rw[hN] at hng hns hnh ⊢;obtain⟨N1,N2⟩:=N;simp only at eW hng hns hnh;simp only[cD,reduceIte,cJ,Nat.reduceAdd];intro r31 hr31
   try rw[cO]
   refine cL.fill (vs:=N1.cells) hr31 rfl N1.isC λh5 B5 u5=>?_;have e5:=e4.trans u5;by_cases c3:N2=0
   ·have q3:(N2 !=0)=false:=by rw[c3];rfl
    have L5:=vK.of (B.ext e5);have n31:r31∉w::Fd:=λhm=>(H.ext e4).known r31 hm hr31;have n31':r31≠w∧r31∉Fd:=by simpa using n31
    have b0:cU h5 ⟨r31,0,none⟩=some (.int .u64 (N1.gen:Int)):=B5.cell 0;rw[if_neg (λe=>e c3)] at eW;simp only[dY,q3,gI (B1.ext e5),dO.f0,dW.f0,gC.load,L5.disk,eM.f0,(D.ext e5).geo,cL.f0,cI.load,b0,gI (B3.ext e5),cD,reduceIte,cJ,Nat.reduceAdd];refine aD6 d λh6 u6=>?_;have e6:=e5.trans u6;have b0':cU h6 ⟨r31,0,none⟩=some (.int .u64 (N1.gen:Int)):=(B5.ext u6).cell 0;refine⟨gI (B3.ext e6),b0',?_⟩;refine aPE d.size N1.gen 0 s hz hng (by decide) hs λh7 v G O7 f7 u7=>?_;have e7:=e6.trans u7;have L7:=vK.of (B.ext e7);have B7:=(B5.ext u6).ext u7;have b1:cU h7 ⟨r31,0+1,none⟩=some (.int .i64 (N1.seg:Int)):=B7.cell 1;simp only[gI (B1.ext e7),dO.f0,L7.st,cL.f1,aR.load,b1,cD,reduceIte,cJ,Nat.reduceAdd];refine aMV (D.ext e7) (by omega) N1.seg hns λh8 u8=>?_;have e8:=e7.trans u8;have L8:=vK.of (B.ext e8);refine⟨L8.st,gI (B1.ext e8),?_⟩;have fl:(fZ d.size N1.gen 0 s).length=dQ d.size s.length:=kK ..;have hfit:=zZ d h4 hns;have dG:∀b∈G,b∉Fd:=λb hb hf=>D.known b hf (e6.none (f7 b hb));refine aKL (D.ext e8) (d.base N1.seg) (by omega) (O7.ext u8) dG (by omega) λh9 F9 D9 s9=>?_;obtain⟨B9,n9⟩:=(B.ext e8).step s9 n1;have st9:eX h (w::Fd) h9 (w::F9):=(eX.ext e8).trans (eX.in n1 s9);obtain⟨C1,m1'⟩:=(B1.ext e8).step s9 hm1.2;obtain⟨C3,m3'⟩:=(B3.ext e8).step s9 hm3.2;obtain⟨Bn,mn⟩:=(B7.ext u8).step s9 n31'.2;have hpo:=vI (fZ d.size N1.gen 0 s) D.ok (d.base N1.seg);have hpb:=aFM (fZ d.size N1.gen 0 s) d (d.base N1.seg);have hd':iQ d (d.base N1.seg) (fZ d.size N1.gen 0 s)=nJ d N1 s:=rfl;rw[hd'] at D9 hpo hpb ⊢;by_cases c4:(nJ d N1 s).2=0
    ·have q4:((nJ d N1 s).2 !=0)=false:=by rw[c4];rfl
     rw[if_neg (λe=>e c4)] at eW;have L9:=vK.of B9;simp only[dY,q4,gI C1,dO.f0,dW.f0,gC.load,L9.disk,eM.f0,D9.geo,vC Bn,cD,reduceIte,cJ,Nat.reduceAdd];refine aD6 _ λh10 u10=>?_;refine⟨vC (Bn.ext u10),?_⟩;refine aPA (nJ d N1 s).1.size N1 hng (by omega) λh11 u11=>?_;have e11:=u10.trans u11;have L11:=vK.of (B9.ext e11);rw[hpo.2.1];have hsl:=H.ok.slot;have w1:IntKind.i64.wrap ((1:Int)-(x.slot:Int))=((1-x.slot:Nat):Int):=by rw[eI (by omega) (by omega)];omega
     simp only[gI (C1.ext e11),dO.f0,L11.st,dO.f2,aR.load,L11.slot,w1,aFj,cD,reduceIte,cJ,Nat.reduceAdd];intro r92 hr92;refine gV ?_
     try rw[cO]
     have O12:=aF3 (h:=h11) (r:=r92) (fQ d.size N1).1;have u12:cX h11 (h11.set r92 (.cells #[.string (tx (fQ d.size N1).1)] bR)):=cV.new hr92;generalize h11.set r92 (.cells #[.string (tx (fQ d.size N1).1)] bR)=h12 at *;have e12:=e11.trans u12;have n92:∀b∈[r92],b∉F9:=λb hb hf=>by
      simp only[iI] at hb;rw[hb] at hf;exact D9.known r92 hf (e11.none hr92)
     refine aKL (D9.ext e12) (1-x.slot) (by omega) O12 n92 (by simp only[iN,kW];omega) λh13 F13 D13 s13=>?_;obtain⟨B13,n13⟩:=(B9.ext e12).step s13 n9;have st13:eX h (w::Fd) h13 (w::F13):=(st9.trans (eX.ext e12)).trans (eX.in n9 s13);obtain⟨E1,-⟩:=(C1.ext e12).step s13 m1';obtain⟨En,-⟩:=(Bn.ext e12).step s13 mn;have hpo2:=vI [(fQ d.size N1).1] hpo.1 (1-x.slot);obtain⟨P,hP⟩:∃P,iQ (nJ d N1 s).1 (1-x.slot) [(fQ d.size N1).1]=P:=⟨_,rfl⟩;rw[hP] at D13 hpo2 eW ⊢;have geo:P.1.sectors=d.sectors:=hpo2.2.2.1.trans hpo.2.2.1;by_cases c5:P.2=0
     ·have q5:(P.2 !=0)=false:=by rw[c5];rfl
      rw[if_neg (λe=>e c5)] at eW;have L13:=vK.of B13;simp only[dY,q5,gI E1,dO.f1,dO.f2,dO.f3,dO.f4,dO.f5,vC En,aR.load,L13.slot,w1,cD,reduceIte,cJ,Nat.reduceAdd];refine cL.put B13 (vs:=N1.cells) (o:=1) rfl (by show 1+2≤8;decide) N1.isC λh14 B14 u14=>?_;have nn:r1∉[w]:=by simpa using hm1.1
      have E14:=gI (E1.upd u14 nn);refine⟨E14,E14,E14,E14,?_⟩;refine aR.put B14 (o:=3) (by show 3<8;decide) rfl λh15 B15 u15=>?_;have E15:=gI ((E1.upd u14 nn).upd u15 nn);refine⟨E15,E15,E15,?_⟩;refine aR.put B15 (o:=4) (by show 4<8;decide) rfl λh16 B16 u16=>?_;have E16:=gI (((E1.upd u14 nn).upd u15 nn).upd u16 nn);refine⟨E16,E16,?_⟩;refine cI.put B16 (o:=5) (by show 5<8;decide) rfl λh17 B17 u17=>?_;have E17:=gI ((((E1.upd u14 nn).upd u15 nn).upd u16 nn).upd u17 nn);refine⟨E17,?_⟩;refine iY.put B17 (o:=6) (by show 6<8;decide) rfl λh18 B18 u18=>?_;have B18:Bx h18 w (Wl.cells a ⟨N1,1-x.slot,dQ d.size s.length,1,true,x.broken⟩):=B18;rw[hx] at B18;have uu:=(((u14.trans u15).trans u16).trans u17).trans u18;have hwo:=H.ok.check s;rw[eW] at hwo;refine hk h18 (w::F13) P.1 ⟨N1,1-x.slot,dQ d.size s.length,1,true,false⟩ 0 ⟨⟨F13,rfl,B18,D13.upd uu (lH n13),n13⟩,hwo.1,by show 1≤dQ d.size s.length;omega,hng⟩ ⟨st13.upd.trans (uu.mono λb hb=>.inl (by simp only[iI] at hb;simp[hb])),st13.grow⟩ ?_;rw[eW];rfl
     ·have q5:(P.2 !=0)=true:=bne_iff_ne.2 c5;rw[if_pos c5] at eW;simp only[dY,q5,cD,reduceIte,cJ,Nat.reduceAdd];exact hk h13 (w::F13) P.1 x P.2 ⟨⟨F13,rfl,B13,D13,n13⟩,H.ok.to hpo2.1 geo,H.ser,H.gen⟩ st13 eW
    ·have q4:((nJ d N1 s).2 !=0)=true:=bne_iff_ne.2 c4;rw[if_pos c4] at eW;simp only[dY,q4,cD,reduceIte,cJ,Nat.reduceAdd];exact hk h9 (w::F9) (nJ d N1 s).1 x (nJ d N1 s).2 ⟨⟨F9,rfl,B9,D9,n9⟩,H.ok.to hpo.1 hpo.2.2.1,H.ser,H.gen⟩ st9 eW
   ·have q3:(N2 !=0)=true:=bne_iff_ne.2 c3;rw[if_pos c3] at eW;simp only[dY,q3,cD,reduceIte,cJ,Nat.reduceAdd];exact hk h5 _ d x N2 (H.ext e5) (eX.ext e5) eW
def aNM{h:PH}{a w:Nat}{d:Dk}{x:Wl}{F:List Nat}(H:wQ a w d x h F)(s:Tx)(hs:s.length≤1000000)(hb:d.buf.length≤980000){k:cF}
  (hk:∀h' F',wQ a w (gK d x s).1 (gK d x s).2.1 h' F'->eX h F h' F'->k (.int .i64 (gK d x s).2.2) h'):bW PG vG #[pT w 0,.string (tx s)] h k:=by
 apply zT.call;unfold zT;intro r1 hr1
 try rw[cO]
 have u1:cX h (h.set r1 (.cells (Value.cells (pT w 0)) eA)):=cV.new hr1;have B1:Bx (h.set r1 (.cells (Value.cells (pT w 0)) eA)) r1 [pT w 0]:=Bx.new;generalize h.set r1 (.cells (Value.cells (pT w 0)) eA)=h1 at *;intro r3 hr3
 try rw[cO]
 have u3:cX h1 (h1.set r3 (.cells (Value.cells (.string (tx s))) bR)):=cV.new hr3;have B3:Bx (h1.set r3 (.cells (Value.cells (.string (tx s))) bR)) r3 [.string (tx s)]:=Bx.new;generalize h1.set r3 (.cells (Value.cells (.string (tx s))) bR)=h3 at *;have e3:=u1.trans u3;have m1:r1∉F:=λhm=>H.known r1 hm hr1;have m3:r3∉F:=λhm=>(H.ext u1).known r3 hm hr3;simp only[eA.load,gI (B1.ext u3),aDE,cD,reduceIte,cJ,Nat.reduceAdd];refine aRX (Q:=λd' x' e=>gK d x s=(d',x'.brk e,e)) (H.ext e3) (λhx k' hk'=>?_) (λhx=>?_) (λhx h' F' d' x' e H' st q=>?_)
 ·exact aQg (H.ext e3) hx s hs (by omega) (B1.ext u3) B3 m1 m3 hk'
 ·have e:gK d x s=(d,x,14):=by unfold gK;rw[if_pos hx]
  rw[e] at hk;exact hk h3 F (H.ext e3) (eX.ext e3)
 ·rw[q] at hk;exact hk h' F' H' ((eX.ext e3).trans st)
def aN4{room:Int}:∀(l:List Tx) (st:Dm×Int),(st.2=0->OkD st.1 room∧st.1.wf)->(l.foldl (mD room) st).2=0->OkD (l.foldl (mD room) st).1 room∧(l.foldl (mD room) st).1.wf
 | [],st,h,h0=>h h0
 | s::l,st,h,h0=>by
  rw[zLt] at h0 ⊢;refine aN4 l _ (λe=>?_) h0;unfold mD at e ⊢;split
  ·rename_i c;rw[if_pos c] at e;split
   ·rename_i c2;rw[if_pos c2] at e;exact⟨(aFU e).2.2.1,aJj e (h c).2 (aIe s)⟩
   ·rename_i c2;rw[if_neg c2] at e;exact absurd e c2
  ·rename_i c;rw[if_neg c] at e;exact absurd e c
def aUP{room:Int}{l:List Tx}(h:(xJ room l).2=0):OkD (xJ room l).1 room∧(xJ room l).1.wf:=by
 cases l with
 | nil=>exact absurd h (by show(3:Int)≠0;decide)
 | cons s l=>
  have e0:xJ room (s::l)=if (l.foldl (mD room) (lK room s)).2≠0 then(Dm.zero,(l.foldl (mD room) (lK room s)).2) else l.foldl (mD room) (lK room s):=rfl
  rw[e0] at h ⊢;split at h
  ·rename_i c;exact absurd h c
  ·rename_i c;rw[if_neg c];refine aN4 l _ (λe=>?_) h;unfold lK at e ⊢;split at e
   ·rename_i a;exact absurd e a
   ·rename_i a;split at e
    ·cases e
    ·rename_i b;split at e
     ·rename_i d;exact absurd e d
     ·rename_i d;rw[if_neg a,if_neg b,if_neg d];exact⟨aCS.1 (Classical.not_not.1 d),(aIe s).s⟩
def aNc{room:Int}{s0:Dm}{l:List Tx}(h0:chk s0 room=0)(w0:s0.wf)(h:(kZ room s0 l).2=0):OkD (kZ room s0 l).1 room∧(kZ room s0 l).1.wf:=by
 unfold kZ at h ⊢;split
 ·exact⟨aCS.1 h0,w0⟩
 ·rename_i c;rw[if_neg c] at h;exact aUP h
def nN(v:Value)(n:Nat):List Nat:=if n=0 then [] else match v with | .slice (some a) _ _=>[a.block]|_=>[]
def nN.mem{v:Value}{n b:Nat}(h:b∈nN v n):n≠0∧∃a m c,v= .slice (some a) m c∧b=a.block:=by
 unfold nN at h;split at h
 ·cases h
 ·rename_i c;split at h
  ·rename_i a m c';simp only[iI] at h;exact⟨c,a,m,c',rfl,h⟩
  ·cases h
def nN.new{h:PH}{v:Value}{n b:Nat}(H:iD h v)(hb:b∈nN v n):h b=none:=by
 obtain⟨-,a,m,c,e,rfl⟩:=nN.mem hb;exact H a m c e
def aF0{h:PH}{v:Value}{l:List It}(S:jL h v l):∀b∈nN v l.length,h b≠none:=by
 intro b hb;obtain⟨h0,a,m,c,e,rfl⟩:=nN.mem hb;exact hC.known S (by intro e;apply h0;have:=congrArg List.length e;simpa using this) e
def aFQ{h h':PH}{v:Value}{l:List It}{K:List Nat}(S:jL h v l)(u:cV K h h')(hK:∀b∈nN v l.length,b∉K):jL h' v l:=by
 refine hC.upd0 S u λhne a n c e=>hK a.block ?_;unfold nN;rw[if_neg (by intro e0;apply hne;rw[zLN e0];rfl),e];simp
def aDo{h h':PH}{v:Value}{l:List It}{F F':List Nat}(S:jL h v l)(s:eX h F h' F')(hd:∀b∈nN v l.length,b∉F):jL h' v l∧∀b∈nN v l.length,b∉F':=
 ⟨aFQ S s.upd hd,λb hb hm=>by
  rcases s.grow b hm with e|e
  ·exact hd b hb e
  ·exact aF0 S b hb e⟩
def Jn.cells(w:Nat)(x:Jn)(iv:Value):List Value:=[pT w 0,.int .i64 x.room,.int .u64 x.s.p0.h,.int .i64 x.s.p0.i,.int .u64 x.s.p1.h,.int .i64 x.s.p1.i,iv]
structure sZ(a w j:Nat)(d:Dk)(x:Jn)(h:PH)(F:List Nat):Prop where
 here:∃Fw iv,F=j::(nN iv x.s.its.length++Fw)∧Bx h j (x.cells w iv)∧wQ a w d x.w h Fw∧jL h iv x.s.its∧j∉Fw∧j∉nN iv x.s.its.length∧∀b∈nN iv x.s.its.length,b∉Fw
 ok:OkD x.s x.room
 wf:x.s.wf
def sZ.known{a w j:Nat}{d:Dk}{x:Jn}{h:PH}{F:List Nat}(H:sZ a w j d x h F):∀b∈F,h b≠none:=by
 obtain⟨Fw,iv,rfl,B,W,S,-⟩:=H.here;intro b hb;simp only[iM,xA] at hb;rcases hb with rfl|hb|hb
 ·exact B.known
 ·exact aF0 S b hb
 ·exact W.known b hb
def sZ.upd{a w j:Nat}{d:Dk}{x:Jn}{h h':PH}{F K:List Nat}(H:sZ a w j d x h F)(u:cV K h h')(hK:∀b∈F,b∉K):sZ a w j d x h' F:=by
 obtain⟨Fw,iv,rfl,B,W,S,n⟩:=H.here;exact⟨⟨Fw,iv,rfl,B.upd u (hK j (by simp)),W.upd u (λb hb=>hK b (by simp[hb])),aFQ S u (λb hb=>hK b (by simp[hb])),n⟩,H.ok,H.wf⟩
def sZ.good(a w j:Nat)(d:Dk)(x:Jn):aHM (sZ a w j d x):=⟨λH=>H.known,λH u hK=>H.upd u hK⟩
def sZ.ext{a w j:Nat}{d:Dk}{x:Jn}{h h':PH}{F:List Nat}(H:sZ a w j d x h F)(u:cX h h'):sZ a w j d x h' F:=(sZ.good a w j d x).ext H u
def aPs(s:Dm)(b:Option Addr)(n c:Nat):cC PG (build bT #[(0,.int .i64 1),(1,s.v (.slice b n c))])=some ((pR s).v (.slice b n c) (.slice none 0 0)):=by kernel_rfl
def aU8(s:Dm)(b:Option Addr)(n c:Nat):cC PG (build aT #[(0,lC s.p0 s.p1),(1,.slice b n c)])=some (s.v (.slice b n c)):=by kernel_rfl
def aP8(ch:Int)(q:Pl)(ns:List Nt)(b:Option Addr)(n c:Nat):cC PG (build bT #[(0,.int .i64 2),(2,.int .i64 ch),(3,.agg q.cells.toArray),(4,.slice b n c)])=some ((gX ch q ns).v (.slice none 0 0) (.slice b n c)):=by kernel_rfl
def uI{h:PH}{v:Value}{n:Nat}{l:List (List Value)}(S:hC h n v l):∃b m c,v= .slice b m c:=by
 obtain⟨b,c,e,-⟩:=S.here;exact⟨b,_,c,e⟩
def aNN{h:PH}{s:Dm}{iv:Value}(S:jL h iv s.its)(wf:s.wf){k:cF}(hk:∀h',cX h h'->k (.string (tx (lL s))) h'):bW PG aBO #[s.v iv] h k:=by
 apply aDY.call;unfold aDY;intro r1 hr1
 try rw[cO]
 have u1:cX h (h.set r1 (.cells (Value.cells (s.v iv)) aT)):=cV.new hr1;have B1:Bx (h.set r1 (.cells (Value.cells (s.v iv)) aT)) r1 (s.cells iv):=Bx.new;generalize h.set r1 (.cells (Value.cells (s.v iv)) aT)=h1 at *;have l1:cB PG h1 (loadAt aT (pT r1 0))=some (s.v iv):=aT.agg B1 (by show 0+5≤5;decide);obtain⟨b,m,c,rfl⟩:=uI S;simp only[l1,aPs,cD,reduceIte,cJ,Nat.reduceAdd];refine aK3 (r:=pR s) (S.ext u1) (eD.nil (e:=cK)).slR (aLJ wf) λh2 u2=>?_;simp only[cD,reduceIte,cJ,Nat.reduceAdd];exact hk h2 (u1.trans u2)
structure JlB(w j:Nat)(x:Jn)(iv:Value)(h:PH):Prop where
 wal:cU h ⟨j,0,none⟩=some (pT w 0)
 room:cU h ⟨j,0+1,none⟩=some (.int .i64 x.room)
 st:cB PG h (loadAt aT (pT j (0+2)))=some (x.s.v iv)
 pl:cB PG h (loadAt cR (pT j (0+2)))=some (lC x.s.p0 x.s.p1)
 its:cU h ⟨j,0+2+4,none⟩=some iv
def JlB.of{w j:Nat}{x:Jn}{iv:Value}{h:PH}(B:Bx h j (x.cells w iv)):JlB w j x iv h:=
 ⟨B.cell 0,B.cell 1,aT.agg B (by show 0+2+5≤7;decide),cR.agg B (by show 0+2+4≤7;decide),B.cell 6⟩
def aSN{h:PH}{w j:Nat}{a:Nat}{x:Jn}{iv:Value}(L:JlB w j x iv h)(W:vK a w x.w h){k:cF}(hk:k (.bool x.w.broken) h):bW PG oH #[pT j 0] h k:=by
 apply tT.call;unfold tT;simp only[fM.f0,eA.load,L.wal,cD,reduceIte,cJ,Nat.reduceAdd];exact aSY W hk
def sZ.halted{a w j:Nat}{d:Dk}{x:Jn}{h:PH}{F:List Nat}(H:sZ a w j d x h F){k:cF}(hk:k (.bool x.w.broken) h):bW PG oH #[pT j 0] h k:=by
 obtain⟨Fw,iv,rfl,B,W,S,-⟩:=H.here;obtain⟨Fd,rfl,Bw,-⟩:=W.here;exact aSN (JlB.of B) (vK.of Bw) hk
def aK4{h:PH}{a w j:Nat}{d:Dk}{x:Jn}{F:List Nat}(H:sZ a w j d x h F){k:cF}(hk:∀h' v,jL h' v x.s.its->iD h v->cX h h'->k (x.s.v v) h'):bW PG mN #[pT j 0] h k:=by
 apply oO.call;unfold oO;obtain⟨Fw,iv,rfl,B,W,S,-⟩:=H.here;have hlen:=H.ok.len;have hr2:=H.ok.r2;intro r1 hr1
 try rw[cO]
 have Z1:=aT.zbox (h:=h) (r:=r1);have u1:cX h (h.set r1 (.cells (dD PG aT) aT)):=cV.new hr1;generalize h.set r1 (.cells (dD PG aT) aT)=h1 at *;have L:=JlB.of (B.ext u1);have f1:dX h [r1]:=dX.one hr1;simp only[fM.f2,aT.f0,aT.f1,L.pl,bY.load,L.its,cD,reduceIte,cJ,Nat.reduceAdd];refine aNQ (S.ext u1) (by omega) λv2 h2 S2 N2 u2=>?_;have L2:=JlB.of ((B.ext u1).ext u2);obtain⟨b,m,c,rfl⟩:=uI S2;refine⟨L2.pl,?_⟩;have hb:cC PG (build aT #[(0,lC x.s.p0 x.s.p1),(1,.slice b m c)])=some (x.s.v (.slice b m c)):=by
  exact aU8 x.s b m c
 simp only[hb,cD,reduceIte,cJ,Nat.reduceAdd];have Zx:=Z1.ext u2;refine aT.put Zx (vs:=x.s.cells (.slice b m c)) (o:=0) rfl (by show 0+5≤5;decide) (by simp[Dm.cells,fH]) λh3 B3 u3=>?_;have l3:cB PG h3 (loadAt aT (pT r1 0))=some (x.s.v (.slice b m c)):=aT.agg (cs:=x.s.cells (.slice b m c)) B3 (by show 0+5≤5;decide);simp only[l3,cD,reduceIte,cJ,Nat.reduceAdd];have N:∀a' n' c',Value.slice b m c= .slice (some a') n' c'->a'.block∉[r1]:=λa' n' c' e hm=>by
  simp only[iI] at hm;exact Z1.known (hm▸N2 a' n' c' e)
 exact hk h3 _ (S2.upd u3 N) (N2.of u1) ((u1.trans u2).fresh u3 f1)
def aTb{h0 h:PH}{a w j r:Nat}{d':Dk}{x:Jn}{w':Wl}{iv v':Value}{nx:Dm}{F0 Fw:List Nat}{e:Int}(B:Bx h j (x.cells w iv))(S:jL h iv x.s.its)(W:wQ a w d' w' h Fw)(B2:Bx h r (nx.cells v'))(S2:jL h v' nx.its)
  (n1:j∉Fw) (n2:j∉nN iv x.s.its.length) (n3:∀b∈nN iv x.s.its.length,b∉Fw) (m2:j∉nN v' nx.its.length) (m3:∀b∈nN v' nx.its.length,b∉Fw) (m4:∀b∈nN v' nx.its.length,b∈F0∨h0 b=none)
  (st:eX h0 F0 h (j::(nN iv x.s.its.length++Fw))) (ok:OkD x.s x.room) (wf:x.s.wf) (ok2:e=0->OkD nx x.room) (wf2:e=0->nx.wf) {k:cF}
  (hk:∀h' F',sZ a w j d' ⟨w',x.room,if e=0 then nx else x.s⟩ h' F'->eX h0 F0 h' F'->k (.int .i64 e) h'):oR k (pT j 0) (pT r 0) (.int .i64 e) h:=by
 unfold oR;by_cases c:e=0
 ·have q:(e==0)=true:=by rw[c];rfl
  have l2:cB PG h (loadAt aT (pT r 0))=some (nx.v v'):=aT.agg B2 (by show 0+5≤5;decide);obtain⟨b,m,c',rfl⟩:=uI S2;simp only[fO,q,l2,fM.f2,cD,reduceIte,cJ,Nat.reduceAdd];refine aT.put B (vs:=nx.cells (.slice b m c')) (o:=2) rfl (by show 2+5≤7;decide) (by simp[Dm.cells,fH]) λh3 B3 u3=>?_;unfold rV;have B3:Bx h3 j (Jn.cells w ⟨w',x.room,nx⟩ (.slice b m c')):=B3;rw[if_pos c] at hk;refine hk h3 (j::(nN (.slice b m c') nx.its.length++Fw)) ⟨⟨Fw,_,rfl,B3,W.upd u3 (lH n1),aFQ S2 u3 (lH m2),n1,m2,m3⟩,ok2 c,wf2 c⟩ ⟨?_,λb hb=>?_⟩
  ·exact st.upd.then u3 (λb hb=>by
    simp only[iI] at hb;exact st.grow b (by rw[hb];simp))
  ·simp only[iM,xA] at hb;rcases hb with rfl|hb|hb
   ·exact st.grow _ (by simp)
   ·exact m4 b hb
   ·exact st.grow b (by simp[hb])
 ·have q:(e==0)=false:=by rw[beq_eq_false_iff_ne];exact c
  rw[if_neg c] at hk;simp only[fO,q,cD,reduceIte,cJ,Nat.reduceAdd];unfold rV;exact hk h _ ⟨⟨Fw,iv,rfl,B,W,S,n1,n2,n3⟩,ok,wf⟩ st
def aFb{r:Rc}(wf:wY r):r.bytes.1.length≤4096:=by
 rcases zU r with⟨-,b⟩|⟨a,-⟩
 ·rw[b];exact aHY wf
 ·exact absurd wf a
def aOZ{h:PH}{a w j:Nat}{d:Dk}{x:Jn}{F:List Nat}{vn:Value}{ns:List Nt}(H:sZ a w j d x h F)(ch:Int)(q:Pl)(hq:q.wf)(N:yC h vn ns)(hn:∀y∈ns,y.p.wf)(hb:d.buf.length≤900000){k:cF}
  (hk:∀h' F',sZ a w j (aDT d x ch q ns).1 (aDT d x ch q ns).2.1 h' F'->eX h F h' F'->k (.int .i64 (aDT d x ch q ns).2.2) h'):bW PG pM #[pT j 0,.int .i64 ch,.agg q.cells.toArray,vn] h k:=by
 apply pB.call;unfold pB;obtain⟨Fw,iv,eF,B,W,S,n1,n2,n3⟩:=id H.here;have hlen:=H.ok.len;have hr2:=H.ok.r2;have wfr:(gX ch q ns).wf:=⟨⟨Pl.wf_zero,Pl.wf_zero,by simp[gX,Dm.zero]⟩,hq,hn⟩;intro r1 hr1
 try rw[cO]
 have u1:cX h (h.set r1 (.cells (Value.cells (.agg q.cells.toArray)) cG)):=cV.new hr1;have B1:Bx (h.set r1 (.cells (Value.cells (.agg q.cells.toArray)) cG)) r1 q.cells:=Bx.new;generalize h.set r1 (.cells (Value.cells (.agg q.cells.toArray)) cG)=h1 at *;have H1:=H.ext u1;refine sZ.halted H1 ?_;unfold aDT at hk;cases hx:x.w.broken with
 | true=>
  rw[if_pos hx] at hk;simp only[cD,reduceIte,cJ,Nat.reduceAdd];exact hk h1 F H1 (eX.ext u1)
 | false=>
  rw[if_neg (by rw[hx];decide)] at hk;have l1:cB PG h1 (loadAt cG (pT r1 0))=some (.agg q.cells.toArray):=cG.agg B1 (by show 0+2≤2;decide);obtain⟨bn,mn,cn,rfl⟩:=uI N;simp only[l1,aP8 ch q ns,cD,reduceIte,cJ,Nat.reduceAdd];intro r7 hr7
  try rw[cO]
  refine bT.fill (vs:=(gX ch q ns).cells (.slice none 0 0) (.slice bn mn cn)) hr7 rfl (by simp[Rc.cells,fH]) λh2 B7 u2=>?_;have e2:=u1.trans u2;have L:=JlB.of (B.ext e2);have l7:cB PG h2 (loadAt bT (pT r7 0))=some ((gX ch q ns).v (.slice none 0 0) (.slice bn mn cn)):=bT.agg B7 (by show 0+10≤10;decide);simp only[fM.f1,fM.f2,L.st,aR.load,L.room,l7,cD,reduceIte,cJ,Nat.reduceAdd];have nz:jL h2 (.slice none 0 0) (gX ch q ns).s.its:=(eD.nil (e:=cE)).slR;refine aPg (r:=gX ch q ns) (S.ext e2) nz (N.ext e2) wfr (by omega) λh3 v' S3 N3 u3=>?_;have e3:=e2.trans u3;obtain⟨P,hP⟩:∃P,mB x.s x.room (gX ch q ns)=P:=⟨_,rfl⟩;have hgood:=aFU (d:=x.s) (room:=x.room) (r:=gX ch q ns);have hpwf:=aJj (d:=x.s) (room:=x.room) (r:=gX ch q ns);rw[hP] at hk S3 hgood hpwf ⊢;simp only[cD,reduceIte,cJ,Nat.reduceAdd];intro r22 hr22
  try rw[cO]
  obtain⟨b',m',c',rfl⟩:=uI S3;refine aT.fill (vs:=P.1.cells (.slice b' m' c')) hr22 rfl (by simp[Dm.cells,fH]) λh4 B22 u4=>?_;have e4:=e3.trans u4;by_cases c:P.2=0
  ·have qc:(P.2 !=0)=false:=by rw[c];rfl
   rw[if_neg (λe=>e c)] at hk;obtain⟨-,hrc,hok2,-⟩:=hgood c;have hwf2:=hpwf c H.wf wfr;have l7':cB PG h4 (loadAt bT (pT r7 0))=some ((gX ch q ns).v (.slice none 0 0) (.slice bn mn cn)):=bT.agg ((B7.ext u3).ext u4) (by show 0+10≤10;decide);simp only[dY,qc,l7',cD,reduceIte,cJ,Nat.reduceAdd];refine aK3 (r:=gX ch q ns) (eD.nil (e:=cE)).slR (N.ext e4) wfr λh5 u5=>?_;have e5:=e4.trans u5;have L5:=JlB.of (B.ext e5);simp only[fM.f0,eA.load,L5.wal,iL,cD,reduceIte,cJ,Nat.reduceAdd];have hsb:=aFb hrc;refine aPh (W.ext e5) _ (by omega) λh6 u6=>?_;have e6:=e5.trans u6;have L6:=JlB.of (B.ext e6);have W6:=W.ext e6;have S6:jL h6 (.slice b' m' c') P.1.its:=((S3.ext u4).ext u5).ext u6;have nb:∀b∈nN (.slice b' m' c') P.1.its.length,h2 b=none:=λb hb=>nN.new N3 hb;have d1:j∉nN (.slice b' m' c') P.1.its.length:=λhm=>(B.ext e2).known (nb j hm);have d2:∀b∈nN (.slice b' m' c') P.1.its.length,b∉Fw:=λb hb hf=>(W.ext e2).known b hf (nb b hb);have d3:∀b∈nN (.slice b' m' c') P.1.its.length,h b=none:=λb hb=>e2.none (nb b hb);have fin:∀h7 Fw' d' w' e,wQ a w d' w' h7 Fw'->eX h6 Fw h7 Fw'->aF2 d x (gX ch q ns) P.1=(d',w',e)->oR k (pT j 0) (pT r22 0) (.int .i64 e) h7:=by
    intro h7 Fw' d' w' e W7 s7 eq;rw[eq] at hk;have r22F:r22∉Fw:=λhm=>(W.ext e3).known r22 hm hr22;obtain⟨B7',k1⟩:=(B.ext e6).step s7 n1;obtain⟨B22',-⟩:=((B22.ext u5).ext u6).step s7 r22F;obtain⟨S7,k2⟩:=aDo S6 s7 d2;obtain⟨S7',k3⟩:=aDo (S.ext e6) s7 n3;refine aTb (x:=x) B7' S7' W7 B22' S7 k1 n2 k3 d1 k2 (λb hb=>.inr (d3 b hb)) ?_ H.ok H.wf (λ_=>hok2) (λ_=>hwf2) hk;refine⟨?_,λb hb=>?_⟩
    ·exact e6.upd.then s7.upd (λb hb=>.inl (by rw[eF];simp[hb]))
    ·rw[eF];simp only[iM,xA] at hb ⊢;rcases hb with rfl|hb|hb
     ·exact .inl (.inl rfl)
     ·exact .inl (.inr (.inl hb))
     ·rcases s7.grow b hb with e|e
      ·exact .inl (.inr (.inr e))
      ·exact .inr (e6.none e)
   unfold aF2 at fin;cases cf:fits d x.w (gX ch q ns).bytes.1.length with
   | true=>
    rw[if_pos cf] at fin;simp only[fM.f0,eA.load,L6.wal,cD,reduceIte,cJ,Nat.reduceAdd];refine aQT W6 _ (by omega) (by omega) λh7 F7 W7 s7=>?_;exact fin h7 F7 _ _ _ W7 s7 rfl
   | false=>
    rw[if_neg (by rw[cf];decide)] at fin;have l22:cB PG h6 (loadAt aT (pT r22 0))=some (P.1.v (.slice b' m' c')):=aT.agg ((B22.ext u5).ext u6) (by show 0+5≤5;decide);simp only[fM.f0,eA.load,L6.wal,l22,cD,reduceIte,cJ,Nat.reduceAdd];refine aNN S6 hwf2 λh7 u7=>?_;have L7:=JlB.of ((B.ext e6).ext u7);refine⟨L7.wal,?_⟩;have hsw:=aFb (aFP hok2);refine aNM (W6.ext u7) _ (by unfold lL;omega) (by omega) λh8 F8 W8 s8=>?_;exact fin h8 F8 _ _ _ W8 ((eX.ext u7).trans s8) rfl
  ·have qc:(P.2 !=0)=true:=bne_iff_ne.2 c;rw[if_pos c] at hk;simp only[dY,qc,cD,reduceIte,cJ,Nat.reduceAdd];exact hk h4 F (H.ext e4) (eX.ext e4)
def aVz(w:Nat)(room:Int)(x:Wl)(s:Dm)(b:Option Addr)(n c:Nat):cC PG (build fM #[(0,pT w 0),(1,.int .i64 room),(2,s.v (.slice b n c))])=some (.agg (Jn.cells w ⟨x,room,s⟩ (.slice b n c)).toArray):=by kernel_rfl
def aMG(p q:Pl):cC PG (build aT #[(0,lC p q)])=some (Dm.v ⟨p,q,[]⟩ (.slice none 0 0)):=by kernel_rfl
def aN7{h0 h:PH}{a w r:Nat}{d:Dk}{x:Wl}{F0 Fw:List Nat}{room:Int}{s:Dm}{iv:Value}(W:wQ a w d x h Fw)(B:Bx h r (s.cells iv))(S:jL h iv s.its)(n1:∀b∈nN iv s.its.length,b∉Fw)(rF:r∉Fw)(m4:∀b∈nN iv s.its.length,b∈F0∨h0 b=none)
  (st:eX h0 F0 h Fw) (ok:OkD s room) (wf:s.wf) (hb:d.buf.length≤900000) {k:cF}
  (bad:∀h' F',qF a (gK d x (lL s)).1 h' F'->eX h0 F0 h' F'->(gK d x (lL s)).2.2≠0->k (.tuple #[.pointer none,.int .i64 (gK d x (lL s)).2.2]) h')
  (hk:∀h' F' j,sZ a w j (gK d x (lL s)).1 ⟨(gK d x (lL s)).2.1,room,s⟩ h' F'->eX h0 F0 h' F'->(gK d x (lL s)).2.2=0->k (.tuple #[pT j 0,.int .i64 0]) h'):aBf k (.int .i64 room) (pT r 0) (pT w 0) h:=by
 unfold aBf;have l1:cB PG h (loadAt aT (pT r 0))=some (s.v iv):=aT.agg B (by show 0+5≤5;decide);simp only[l1,cD,reduceIte,cJ,Nat.reduceAdd];refine aNN S wf λh1 u1=>?_;have hsw:=aFb (aFP ok);refine aNM (W.ext u1) _ (by unfold lL;omega) (by omega) λh2 F2 W2 s2=>?_;have st2:=st.trans ((eX.ext (F:=Fw) u1).trans s2);obtain⟨P,hP⟩:∃P,gK d x (lL s)=P:=⟨_,rfl⟩;rw[hP] at bad hk W2 ⊢;by_cases c:P.2.2=0
 ·have q:(P.2.2 !=0)=false:=by rw[c];rfl
  obtain⟨B2,-⟩:=(B.ext u1).step s2 rF;obtain⟨S2,k2⟩:=aDo (S.ext u1) s2 n1;have l2:cB PG h2 (loadAt aT (pT r 0))=some (s.v iv):=aT.agg B2 (by show 0+5≤5;decide);obtain⟨b,m,c',rfl⟩:=uI S2;simp only[dY,q,l2,aVz w room P.2.1 s,cD,reduceIte,cJ,Nat.reduceAdd];intro r37 hr37
  try rw[cO]
  have u3:cX h2 (h2.set r37 (.cells (Value.cells (.agg (Jn.cells w ⟨P.2.1,room,s⟩ (.slice b m c')).toArray)) fM)):=cV.new hr37;have B3:Bx (h2.set r37 (.cells (Value.cells (.agg (Jn.cells w ⟨P.2.1,room,s⟩ (.slice b m c')).toArray)) fM)) r37 (Jn.cells w ⟨P.2.1,room,s⟩ (.slice b m c')):=Bx.new;generalize h2.set r37 (.cells (Value.cells (.agg (Jn.cells w ⟨P.2.1,room,s⟩ (.slice b m c')).toArray)) fM)=h3 at *;refine hk h3 (r37::(nN (.slice b m c') s.its.length++F2)) r37 ⟨⟨F2,_,rfl,B3,W2.ext u3,S2.ext u3,λhm=>W2.known r37 hm hr37,λhm=>aF0 S2 r37 hm hr37,k2⟩,ok,wf⟩ ⟨st2.upd.trans u3.upd,λb hb=>?_⟩ c;simp only[iM,xA] at hb;rcases hb with rfl|hb|hb
  ·exact st2.none hr37
  ·exact m4 b hb
  ·exact st2.grow b hb
 ·have q:(P.2.2 !=0)=true:=bne_iff_ne.2 c;simp only[dY,q,cD,reduceIte,cJ,Nat.reduceAdd];obtain⟨Fd,eF,-,D2,-⟩:=W2.here;exact bad h2 Fd D2 ⟨st2.upd,λb hb=>st2.grow b (by rw[eF];simp[hb])⟩ c
def aIB{d:Dk}(H:d.Ok):(fL d).2.1.2.length≤d.segs:=by
 have key:∀(d':Dk) (hd:Hd) (slot:Nat),d'.sectors=d.sectors->(zI d' hd slot).2.length≤d.segs:=λd' hd slot e=>by
  have h1:=aIR (size:=d'.size) (gen:=hd.gen) (d'.segs+1) (d'.secs (d'.base hd.seg) d'.segs) 0;have h2:=aHv (size:=d'.size) (gen:=hd.gen) (d'.segs+1) (d'.secs (d'.base hd.seg) d'.segs) 0;rw[Dk.secs_len] at h1;have:=aHK (d:=d) (d':=d') e;show(jR d'.size hd.gen (d'.segs+1) (d'.secs (d'.base hd.seg) d'.segs) 0).1.length≤_;omega
 unfold fL;split
 ·exact lA _
 ·split
  ·exact lA _
  ·split
   ·split
    ·exact lA _
    ·exact key _ _ _ (((vI _ H.fl 1).2.2.1).trans d.fl_geo.2)
   ·exact key _ _ _ d.fl_geo.2
def aRT(d:Dk):d.fl.1.buf.length≤d.buf.length:=by
 unfold Dk.fl;split
 ·exact mS _
 ·exact lA _
def aKw(d:Dk):(fL d).1.buf.length≤d.buf.length+1:=by
 have hf:=aRT d;have hp:=aFM [(fQ d.size ⟨1,0⟩).1] d.fl.1 1;simp only[iN,kW] at hp;unfold fL;split
 ·show d.buf.length≤_;omega
 ·split
  ·show d.fl.1.buf.length≤_;omega
  ·split
   ·split
    ·show(iQ d.fl.1 1 [(fQ d.size ⟨1,0⟩).1]).1.buf.length≤_;omega
    ·show(iQ d.fl.1 1 [(fQ d.size ⟨1,0⟩).1]).1.buf.length≤_;omega
   ·show d.fl.1.buf.length≤_;omega
def aTl{h:PH}{a:Nat}{d:Dk}{F:List Nat}(D:qF a d h F)(room:Int)(p q:Pl)(wp:p.wf)(wq:q.wf)(hs:d.sectors≤1000)(hb:d.buf.length≤800000){k:cF}
  (bad:∀h' F',qF a (iT d room p q).1 h' F'->eX h F h' F'->(iT d room p q).2.2≠0->k (.tuple #[.pointer none,.int .i64 (iT d room p q).2.2]) h')
  (hk:∀h' F' w j,sZ a w j (iT d room p q).1 (iT d room p q).2.1 h' F'->eX h F h' F'->(iT d room p q).2.2=0->k (.tuple #[pT j 0,.int .i64 0]) h'):bW PG yQ #[pT a 0,.int .i64 room,lC p q] h k:=by
 apply aEa.call;unfold aEa;intro r1 hr1
 try rw[cO]
 have u1:cX h (h.set r1 (.cells (Value.cells (lC p q)) cR)):=cV.new hr1;have B1:Bx (h.set r1 (.cells (Value.cells (lC p q)) cR)) r1 (p.cells++q.cells):=Bx.new;generalize h.set r1 (.cells (Value.cells (lC p q)) cR)=h1 at *;have l1:cB PG h1 (loadAt cR (pT r1 0))=some (lC p q):=cR.agg B1 (by show 0+4≤4;decide);simp only[l1,aMG,cD,reduceIte,cJ,Nat.reduceAdd];intro r5 hr5
 try rw[cO]
 refine aT.fill (vs:=Dm.cells ⟨p,q,[]⟩ (.slice none 0 0)) hr5 rfl (by simp[Dm.cells,fH]) λh2 B2 u2=>?_;have e2:=u1.trans u2;have l2:cB PG h2 (loadAt aT (pT r5 0))=some (Dm.v ⟨p,q,[]⟩ (.slice none 0 0)):=aT.agg B2 (by show 0+5≤5;decide);have r5F:r5∉F:=λhm=>(D.ext u1).known r5 hm hr5;simp only[l2,cD,reduceIte,cJ,Nat.reduceAdd];have nz:∀{h:PH},jL h (.slice none 0 0) (⟨p,q,[]⟩:Dm).its:=(eD.nil (e:=cE)).slR;refine aIo (d:=⟨p,q,[]⟩) nz (by simp) λh3 u3=>?_;have e3:=e2.trans u3;unfold iT at bad hk;have wf0:(⟨p,q,[]⟩:Dm).wf:=⟨wp,wq,by simp⟩;by_cases c:chk ⟨p,q,[]⟩ room=0
 ·have qc:(chk ⟨p,q,[]⟩ room !=0)=false:=by rw[c];rfl
  rw[if_neg (λe=>e c)] at bad hk;simp only[dY,qc,cD,reduceIte,cJ,Nat.reduceAdd];refine aSu (D.ext e3) (by omega) (λh4 F4 D4 s4 ne=>?_) (λh4 F4 w v G W4 O4 dj s4 e0=>?_)
  ·have q4:((fL d).2.2 !=0)=true:=bne_iff_ne.2 ne;rw[if_pos ne] at bad;simp only[dY,q4,cD,reduceIte,cJ,Nat.reduceAdd];exact bad h4 F4 D4 ((eX.ext e3).trans s4) ne
  ·have q4:((0:Int) !=0)=false:=rfl;rw[if_neg (λe=>e e0)] at bad hk;have hfw:=aIB D.ok;have hbw:=aKw d;have hsg:d.segs≤1000:=by unfold Dk.segs;omega
   have st4:=(eX.ext (F:=F) e3).trans s4;obtain⟨B4,r54⟩:=(B2.ext u3).step s4 r5F;have r5w:r5∉F4:=λhm=>r54 (by simp[hm]);have st4':eX h F h4 F4:=⟨st4.upd,λb hb=>st4.grow b (by simp[hb])⟩;have hmay:=aNc (room:=room) (s0:=⟨p,q,[]⟩) (l:=(fL d).2.1.2) c wf0;obtain⟨l,hl⟩:∃l,(fL d).2.1.2=l:=⟨_,rfl⟩;rw[hl] at bad hk O4 hfw hmay;have lv:=aAR O4.slR;by_cases c0:l=[]
   ·have es:kZ room ⟨p,q,[]⟩ l=(⟨p,q,[]⟩,0):=by unfold kZ;rw[if_pos c0]
    rw[es] at bad hk hmay;rw[if_neg (λe=>e rfl)] at bad hk;have g:((0:Int)<(l.length:Int))=False:=eq_false (by rw[c0];simp);simp only[dY,q4,lv,g,cD,reduceIte,cJ,Nat.reduceAdd];refine aN7 (h0:=h) (F0:=F) W4 B4 nz (λb hb=>by cases hb) r5w (λb hb=>by cases hb) st4' (hmay rfl).1 wf0 (by omega) (λh' F' D' st ne=>?_) (λh' F' j J st e=>?_)
    ·rw[if_pos ne] at bad;exact bad h' F' D' st ne
    ·rw[if_neg (λx=>x e)] at hk;exact hk h' F' w j J st rfl
   ·have es:kZ room ⟨p,q,[]⟩ l=xJ room l:=by unfold kZ;rw[if_neg c0]
    rw[es] at bad hk hmay;have hpos:0<l.length:=aId.2 c0;have g:((0:Int)<(l.length:Int))=True:=eq_true (by omega);simp only[dY,q4,lv,g,cD,reduceIte,cJ,Nat.reduceAdd];refine aRg O4.slR (by omega) λh5 v5 S5 N5 u5=>?_;obtain⟨R,hR⟩:∃R,xJ room l=R:=⟨_,rfl⟩;rw[hR] at bad hk hmay S5 ⊢;simp only[cD,reduceIte,cJ,Nat.reduceAdd];have B5:=B4.ext u5;obtain⟨b',m',c',rfl⟩:=uI S5;refine aT.put B5 (vs:=R.1.cells (.slice b' m' c')) (o:=0) rfl (by show 0+5≤5;decide) (by simp[Dm.cells,fH]) λh6 B6 u6=>?_;have W6:=(W4.ext u5).upd u6 (lH r5w);have m5:∀b∈nN (.slice b' m' c') R.1.its.length,h4 b=none:=λb hb=>nN.new N5 hb;have r5s:r5∉nN (.slice b' m' c') R.1.its.length:=λhm=>B4.known (m5 r5 hm);have S6:=aFQ S5 u6 (lH r5s);have f5:h r5=none:=u1.none hr5;have st6:eX h F h6 F4:=⟨(st4'.upd.trans u5.upd).then u6 (λb hb=>by
     simp only[iI] at hb;rw[hb];exact .inr f5),st4'.grow⟩
    by_cases c2:R.2=0
    ·have q2:(R.2 !=0)=false:=by rw[c2];rfl
     rw[if_neg (λe=>e c2)] at bad hk;simp only[dY,q2,cD,reduceIte,cJ,Nat.reduceAdd];refine aN7 (h0:=h) (F0:=F) (s:=R.1) (iv:=.slice b' m' c') W6 B6 S6 (λb hb hf=>W4.known b hf (m5 b hb)) r5w (λb hb=>st4'.none (m5 b hb)) st6 (hmay c2).1 (hmay c2).2 (by omega) (λh' F' D' st ne=>?_) (λh' F' j J st e=>?_)
     ·rw[if_pos ne] at bad;exact bad h' F' D' st ne
     ·rw[if_neg (λx=>x e)] at hk;exact hk h' F' w j J st rfl
    ·have q2:(R.2 !=0)=true:=bne_iff_ne.2 c2;rw[if_pos c2] at bad;simp only[dY,q2,cD,reduceIte,cJ,Nat.reduceAdd];obtain⟨Fd,eF,-,D6,-⟩:=W6.here;exact bad h6 Fd D6 ⟨st6.upd,λb hb=>st6.grow b (by rw[eF];simp[hb])⟩ c2
 ·have qc:(chk ⟨p,q,[]⟩ room !=0)=true:=bne_iff_ne.2 c;rw[if_pos c] at bad;simp only[dY,qc,cD,reduceIte,cJ,Nat.reduceAdd];exact bad h3 F (D.ext e3) (eX.ext e3) c
def aTD(x:W)(m:Nat)(h0:0<m)(hm:m<4294967296):cC PG (binOp .rem fD (wv x) (.int .u32 (m:Int)))=some (.int .u32 ((x.toNat%m:Nat):Int)):=by
 have hx:=x.isLt;unfold wv;rw[aSp (by omega)];have e:Int.tmod (x.toNat:Int) (m:Int)=((x.toNat%m:Nat):Int):=rfl;rw[e]
def aTU(x:W)(m:Nat)(h0:0<m)(hm:m<4294967296):cC PG (binOp .quo fD (wv x) (.int .u32 (m:Int)))=some (.int .u32 ((x.toNat/m:Nat):Int)):=by
 have hx:=x.isLt;unfold wv;rw[aJb (by omega)];have e:Int.tdiv (x.toNat:Int) (m:Int)=((x.toNat/m:Nat):Int):=rfl;have:=Nat.div_le_self x.toNat m;rw[e,aFJ];generalize x.toNat/m=q at *;congr 2;omega
def aHr(x:W)(n:Nat):(x>>>n).toNat=x.toNat/2^n:=by rw[BitVec.toNat_ushiftRight,Nat.shiftRight_eq_div_pow]
def aXE(x:W):Value.int .u32 ((x.toNat/2:Nat):Int)=wv (x>>>1):=by unfold wv;rw[aHr]
def aTe{h:PH}(x:W){k:cF}(hk:k (wv (aKC x)) h):bW PG aBX #[wv x] h k:=by
 apply aAN.call;unfold aAN;have r2:cC PG (binOp .rem fD (wv x) (.int .u32 2))=some (.int .u32 ((x.toNat%2:Nat):Int)):=aTD x 2 (by decide) (by decide);have q2:cC PG (binOp .quo fD (wv x) (.int .u32 2))=some (wv (x>>>1)):=by rw[←aXE];exact aTU x 2 (by decide) (by decide)
 have xr:cC PG (binOp .xor fD (wv (x>>>1)) (.int .u32 3988292384))=some (wv ((x>>>1) ^^^ 3988292384)):=aNn (y:=3988292384);unfold aKC at hk;by_cases c:x.toNat%2=1
 ·have q:(((x.toNat%2:Nat):Int)==1)=true:=by rw[c];rfl
  rw[if_pos c] at hk;simp only[r2,fO,q,q2,xr,cD,reduceIte,cJ,Nat.reduceAdd];exact hk
 ·have q:(((x.toNat%2:Nat):Int)==1)=false:=by rw[beq_eq_false_iff_ne];omega
  rw[if_neg c] at hk;simp only[r2,fO,q,q2,cD,reduceIte,cJ,Nat.reduceAdd];exact hk
def aXP(b:UInt8):cC PG (convert dJ fD (.int .u8 (b.toNat:Int)))=some (wv (BitVec.ofNat 32 b.toNat)):=by
 have e:cC PG (convert dJ fD (.int .u8 (b.toNat:Int)))=some (.int .u32 (IntKind.u32.wrap (b.toNat:Int))):=by kernel_rfl
 rw[e];unfold wv;rw[aFJ,BitVec.toNat_ofNat];rfl
def aPQ{h:PH}{s:Tx}{i:Nat}(hi:i<s.length)(hs:s.length≤1000000)(y:W){n1:fY}{R:cF}
  (hk:n1 [wv (aIq 8 y),.string (tx s),.int .i64 ((i+1:Nat):Int)] h):
  gU [0,1,5,6] (λn8 ρ h=>aBc R n1 n8 (ρ 0) (ρ 1) (ρ 5) (ρ 6) h) [wv y,.string (tx s),.int .i64 (i:Int),.int .i64 0] h:=by
 refine⟨λvs h'=>∃k:Nat,k≤8∧vs=[wv (aIq k y),.string (tx s),.int .i64 (i:Int),.int .i64 (k:Int)]∧h'=h,fN 8 3,⟨0,by omega,rfl,rfl⟩,?_⟩;rintro ρ h' ⟨k,hkk,hvs,rfl⟩;simp only[hM,jA,kP,and_true] at hvs;obtain⟨x0,x1,x5,x6⟩:=hvs;unfold aBc;rw[x0,x1,x5,x6];by_cases hlt:k<8
 ·have g:((k:Int)<8)=True:=eq_true (by omega);have gi:=nR (i:=k) (by omega);simp only[g,cD,reduceIte,cJ,Nat.reduceAdd];refine aTe _ ?_;simp only[gi,cD,reduceIte,cJ,Nat.reduceAdd];exact⟨⟨k+1,by omega,rfl,by first|rfl|trivial⟩,by simp[fN,x6];omega⟩
 ·have g:((k:Int)<8)=False:=eq_false (by omega);have gi:=nR (i:=i) (by omega);obtain rfl:k=8:=by omega
  simp only[g,gi,cD,reduceIte,cJ,Nat.reduceAdd];exact hk
def aSy{h:PH}(x:W)(s:Tx)(hs:s.length≤1000000){k:cF}(hk:k (wv (aGm x s)) h):bW PG aBU #[wv x,.string (tx s)] h k:=by
 apply sK.call;unfold sK;refine⟨λvs h'=>∃i:Nat,i≤s.length∧vs=[wv (aGm x (s.take i)),.string (tx s),.int .i64 (i:Int)]∧h'=h,fN s.length 2,⟨0,by omega,rfl,rfl⟩,?_⟩;rintro ρ h' ⟨i,hi,hvs,rfl⟩;simp only[hM,jA,kP,and_true] at hvs;obtain⟨x0,x1,x5⟩:=hvs;unfold aEu;rw[x0,x1,x5];by_cases hlt:i<s.length
 ·have g:((i:Int)<(s.length:Int))=True:=eq_true (by omega);obtain⟨b,hb⟩:∃b,s[i]? =some b:=⟨_,kV hlt⟩;have ib:cC PG (Instr.index bR (.string (tx s)) (.int .i64 (i:Int)))=some (.int .u8 b.toNat):=nL bR.und hb;have et:aGm x (s.take (i+1))=aLU (aGm x (s.take i)) b:=by
   unfold aGm;rw[zLR,hb,List.foldl_append];rfl
  simp only[iL,g,ib,aXP,aNn,cD,reduceIte,cJ,Nat.reduceAdd];refine aPQ hlt hs _ ?_;rw[show aIq 8 (aGm x (s.take i) ^^^ BitVec.ofNat 32 b.toNat)=aGm x (s.take (i+1)) from et.symm];exact⟨⟨i+1,by omega,rfl,by first|rfl|trivial⟩,by simp[fN,x5];omega⟩
 ·have g:((i:Int)<(s.length:Int))=False:=eq_false (by omega);simp only[iL,g,cD,reduceIte,cJ,Nat.reduceAdd];rw[rN (by omega)];exact hk
def aN8(x:W):cC PG (binOp .sub fD (.int .u32 4294967295) (wv x))=some (wv (~~~x)):=by
 have hx:=x.isLt;have e:cC PG (binOp .sub fD (.int .u32 4294967295) (wv x))=some (.int .u32 (IntKind.u32.wrap (4294967295-(x.toNat:Int)))):=by unfold wv;exact aJ3
 rw[e];unfold wv;rw[aFJ,BitVec.toNat_not];congr 2;omega
def aTm{h:PH}(s:Tx)(hs:s.length≤1000000){k:cF}(hk:k (wv (aMH s)) h):bW PG aBw #[.string (tx s)] h k:=by
 apply aBH.call;unfold aBH;apply xQ.call;unfold xQ;have e0:cC PG (binOp .sub fD (.int .u32 4294967295) (.int .u32 0))=some (wv 4294967295):=aN8 0;simp only[e0,cD,reduceIte,cJ,Nat.reduceAdd];refine aSy _ s hs ?_;simp only[aN8,cD,reduceIte,cJ,Nat.reduceAdd];rw[aTx];exact hk
def aWb(a b c d:Int):jT PG (buildSlice cS 4 #[(0,.int .u8 a),(1,.int .u8 b),(2,.int .u8 c),(3,.int .u8 d)])=some (.cells #[.int .u8 a,.int .u8 b,.int .u8 c,.int .u8 d] dJ,λr=>pure (.slice (some ⟨r,0,none⟩) 4 4)):=by kernel_rfl
def aRM{h:PH}(x:W){k:cF}(hk:∀h',cX h h'->k (.string (tx (aFS x))) h'):bW PG aA0 #[wv x] h k:=by
 apply yO.call;unfold yO;have hx:=x.isLt;have cv:∀n:Nat,n<256->cC PG (convert fD dJ (.int .u32 (n:Int)))=some (.int .u8 (n:Int)):=λn hn=>by
  have e:cC PG (convert fD dJ (.int .u32 (n:Int)))=some (.int .u8 (IntKind.u8.wrap (n:Int))):=by kernel_rfl
  rw[e,aIO];congr 2;omega
 have hq:∀m:Nat,0<m->m<4294967296->cC PG (binOp .quo fD (wv x) (.int .u32 (m:Int)))=some (wv (BitVec.ofNat 32 (x.toNat/m))):=λm h0 hm=>by
  rw[aTU x m h0 hm];unfold wv;have:=Nat.div_le_self x.toNat m;rw[BitVec.toNat_ofNat,aIn (by omega)]
 have r1:cC PG (binOp .rem fD (wv x) (.int .u32 256))=some (.int .u32 ((x.toNat%256:Nat):Int)):=aTD x 256 (by decide) (by decide);have q2:cC PG (binOp .quo fD (wv x) (.int .u32 256))=some (wv (BitVec.ofNat 32 (x.toNat/256))):=hq 256 (by decide) (by decide);have q3:cC PG (binOp .quo fD (wv x) (.int .u32 65536))=some (wv (BitVec.ofNat 32 (x.toNat/65536))):=hq 65536 (by decide) (by decide);have q4:cC PG (binOp .quo fD (wv x) (.int .u32 16777216))=some (.int .u32 ((x.toNat/16777216:Nat):Int)):=aTU x 16777216 (by decide) (by decide);have rr:∀n:Nat,n<4294967296->cC PG (binOp .rem fD (wv (BitVec.ofNat 32 n)) (.int .u32 256))=some (.int .u32 ((n%256:Nat):Int)):=λn hn=>by
  have:=aTD (BitVec.ofNat 32 n) 256 (by decide) (by decide);rw[BitVec.toNat_ofNat,aIn (a:=n) (by omega)] at this;exact this
 have m1:x.toNat%256<256:=zLB _ (by decide);have m2:x.toNat/256%256<256:=zLB _ (by decide);have m3:x.toNat/65536%256<256:=zLB _ (by decide);have m4:x.toNat/16777216<256:=by omega
 simp only[r1,cv _ m1,q2,rr (x.toNat/256) (by omega),cv _ m2,q3,rr (x.toNat/65536) (by omega),cv _ m3,q4,cv _ m4,aWb,cD,reduceIte,cJ,Nat.reduceAdd];intro r11 hr11;refine gV ?_
 try rw[cO]
 have ec:(aFS x).map jM=[[.int .u8 ((x.toNat%256:Nat):Int)],[.int .u8 ((x.toNat/256%256:Nat):Int)],[.int .u8 ((x.toNat/65536%256:Nat):Int)],[.int .u8 ((x.toNat/16777216:Nat):Int)]]:=by
  have e8:(x>>>8).toNat=x.toNat/256:=aHr x 8;have e16:(x>>>16).toNat=x.toNat/65536:=aHr x 16;have e24:(x>>>24).toNat=x.toNat/16777216:=aHr x 24;unfold aFS jM;simp only[hM,jA,UInt8.toNat_ofNat',e8,e16,e24];rw[show(2:Nat)^8=256 from rfl,aIn (a:=x.toNat/16777216) m4]
 have u1:cX h (h.set r11 (.cells #[.int .u8 ((x.toNat%256:Nat):Int),.int .u8 ((x.toNat/256%256:Nat):Int),.int .u8 ((x.toNat/65536%256:Nat):Int),.int .u8 ((x.toNat/16777216:Nat):Int)] dJ)):=cV.new hr11;have O:eD (h.set r11 (.cells #[.int .u8 ((x.toNat%256:Nat):Int),.int .u8 ((x.toNat/256%256:Nat):Int),.int .u8 ((x.toNat/65536%256:Nat):Int),.int .u8 ((x.toNat/16777216:Nat):Int)] dJ)) dJ 1 (.slice (some ⟨r11,0,none⟩) 4 4) ((aFS x).map jM) [r11]:=eD.lit (n:=4) (λr hr=>by obtain⟨m,_,rfl⟩:=pQ.1 hr;rfl) eB rfl (by decide) (by rw[ec];rfl);have hcv:=aEo cS.und dJ.und bR.und O.slR;simp only[hcv,cD,reduceIte,cJ,Nat.reduceAdd];exact hk _ u1
def aLK{h:PH}(s:Tx)(hs:s.length≤1000000){k:cF}(hk:∀h',cX h h'->k (.string (tx (mV s))) h'):bW PG pH #[.string (tx s)] h k:=by
 apply aAT.call;unfold aAT;refine aTm s hs ?_;refine aRM _ λh3 u3=>?_;have ea:cC PG (binOp .add bR (.string (tx s)) (.string (tx (aFS (aMH s)))))=some (.string (tx (mV s))):=jQ (by show s.length+4≤_;omega);simp only[ea,cD,reduceIte,cJ,Nat.reduceAdd];exact hk h3 u3
def aM7{h:PH}(s:Tx)(hs:s.length≤1000000){k:cF}(hk:∀h',cX h h'->k (.bool (nP s)) h'):bW PG uN #[.string (tx s)] h k:=by
 apply yX.call;unfold yX;by_cases h4:4≤s.length
 ·have g:((4:Int)≤(s.length:Int))=True:=eq_true (by omega);have w4:IntKind.i64.wrap ((s.length:Int)-4)=((s.length-4:Nat):Int):=by rw[eI (by omega) (by omega)];omega
  have c1:cC PG (Instr.sliceAt bR (.string (tx s)) none (some (.int .i64 ((s.length-4:Nat):Int))) none)=some (.string (tx (s.take (s.length-4)))):=by
   have:=kI (P:=PG) (t:=bR) (l:=s) (i:=0) (j:=s.length-4) (lo:=none) (hi:=some (.int .i64 ((s.length-4:Nat):Int))) bR.und (.inl ⟨rfl,rfl⟩) (.inr ⟨_,rfl⟩) (by omega) (by omega);rw[this,zLb]
  simp only[iL,g,w4,c1,cD,reduceIte,cJ,Nat.reduceAdd];refine aLK _ (by rw[mH];omega) λh2 u2=>?_;have ed:decide (s=mV (s.take (s.length-4)))=nP s:=by
   unfold nP mV;rw[xE,decide_eq_true_iff,decide_eq_true_iff];constructor
   ·intro e;refine⟨h4,?_⟩;have e2:=congrArg (List.drop (s.length-4)) e;rw[List.drop_left' (by rw[mH];omega)] at e2;exact e2.symm
   ·intro ⟨_,e⟩;rw[e,zL6]
  simp only[aEy,ed,cD,reduceIte,cJ,Nat.reduceAdd];exact hk h2 u2
 ·have g:((4:Int)≤(s.length:Int))=False:=eq_false (by omega);have ed:nP s=false:=by
   unfold nP;simp[h4]
  rw[ed] at hk;simp only[iL,g,cD,reduceIte,cJ,Nat.reduceAdd];exact hk h cV.refl
structure rQ(r:Nat)(d:Dk)(h:PH)(F:List Nat):Prop where
 here:∃bv Fb,F=r::Fb∧Bx h r [.int .i64 (d.size:Int),.int .i64 (d.sectors:Int),.string (tx d.st.flatten),bv,.int .i64 (d.arm:Int)]∧eD h dV 2 bv (d.buf.map uG) Fb∧r∉Fb
 ok:d.Ok
 arm:d.arm<9223372036854775808
def rQ.known{r:Nat}{d:Dk}{h:PH}{F:List Nat}(H:rQ r d h F):∀b∈F,h b≠none:=by
 obtain⟨bv,Fb,rfl,B,W,-⟩:=H.here;intro b hb;rcases iM.1 hb with rfl|hb
 ·exact B.known
 ·exact W.known b hb
def rQ.upd{r:Nat}{d:Dk}{h h':PH}{F K:List Nat}(H:rQ r d h F)(u:cV K h h')(hK:∀b∈F,b∉K):rQ r d h' F:=by
 obtain⟨bv,Fb,rfl,B,W,n⟩:=H.here;exact⟨⟨bv,Fb,rfl,B.upd u (hK r (by simp)),W.upd u (λb hb=>hK b (by simp[hb])),n⟩,H.ok,H.arm⟩
def rQ.good(r:Nat)(d:Dk):aHM (rQ r d):=⟨λH=>H.known,λH u hK=>H.upd u hK⟩
def rQ.ext{r:Nat}{d:Dk}{h h':PH}{F:List Nat}(H:rQ r d h F)(u:cX h h'):rQ r d h' F:=(rQ.good r d).ext H u
structure DoB(r:Nat)(d:Dk)(h:PH)(bv:Value):Prop where
 size:cU h ⟨r,0,none⟩=some (.int .i64 (d.size:Int))
 sectors:cU h ⟨r,0+1,none⟩=some (.int .i64 (d.sectors:Int))
 st:cU h ⟨r,0+2,none⟩=some (.string (tx d.st.flatten))
 buf:cU h ⟨r,0+3,none⟩=some bv
 arm:cU h ⟨r,0+4,none⟩=some (.int .i64 (d.arm:Int))
def DoB.of{r:Nat}{d:Dk}{h:PH}{bv:Value}(B:Bx h r [.int .i64 (d.size:Int),.int .i64 (d.sectors:Int),.string (tx d.st.flatten),bv,.int .i64 (d.arm:Int)]):DoB r d h bv:=⟨B.cell 0,B.cell 1,B.cell 2,B.cell 3,B.cell 4⟩
def rQ.b{r:Nat}{d:Dk}{h:PH}{F:List Nat}(H:rQ r d h F):∃bv,DoB r d h bv:=by
 obtain⟨bv,Fb,rfl,B,-⟩:=H.here;exact⟨bv,DoB.of B⟩
def aNf{h:PH}{r:Nat}{d:Dk}{F:List Nat}(D:rQ r d h F){k:cF}(hk:∀h',rQ r d.tick h' F->cV F h h'->k (.bool (decide (d.arm=1))) h'):bW PG qD #[pT r 0] h k:=by
 apply sO.call;unfold sO;have ha:=D.arm;obtain⟨bv,Fb,rfl,B,W,n1⟩:=id D.here;have L:=DoB.of B;have e:((d.arm:Int)==1)=decide (d.arm=1):=by rw[xE,beq_iff_eq,decide_eq_true_iff];omega
 by_cases c:d.arm=0
 ·have g:((0:Int)<(d.arm:Int))=False:=eq_false (by omega);have et:d.tick=d:=by
   unfold Dk.tick;rw[c];obtain⟨x1,x2,x3,x4,x5⟩:=d;simp only at c;subst c;rfl
  rw[et] at hk;simp only[cY.f4,aR.load,L.arm,g,pS,fO,e,cD,reduceIte,cJ,Nat.reduceAdd];exact hk h D cV.refl
 ·have g:((0:Int)<(d.arm:Int))=True:=eq_true (by omega);have w:IntKind.i64.wrap ((d.arm:Int)-1)=((d.arm-1:Nat):Int):=by rw[eI (by omega) (by omega)];omega
  simp only[cY.f4,aR.load,L.arm,g,w,cD,reduceIte,cJ,Nat.reduceAdd];refine aR.put B (o:=4) (by show 4<5;decide) rfl λh2 B2 u2=>?_;simp only[pS,fO,e,cD,reduceIte,cJ,Nat.reduceAdd];exact hk h2 ⟨⟨bv,Fb,rfl,B2,W.upd u2 (lH n1),n1⟩,D.ok.tick,by show d.arm-1<_;omega⟩ (u2.mono λb hb=>.inl (by simp only[iI] at hb;simp[hb]))
def aUL{h:PH}{r size sectors n:Nat}{st:List Tx}{bv av:Value}{s:Tx}(B:Bx h r [.int .i64 (size:Int),.int .i64 (sectors:Int),.string (tx st.flatten),bv,av])(hx:∀s∈st,s.length=size)(hn:n<st.length)(hs:s.length≤size)(hz:size≤512)(hl:st.length≤4096){k:cF}
  (hk:∀h',Bx h' r [.int .i64 (size:Int),.int .i64 (sectors:Int),.string (tx (st.set n (s++(st.getD n []).drop s.length)).flatten),bv,av]->cV [r] h h'->k (.tuple #[]) h'):bW PG xG #[pT r 0,.int .i64 (n:Int),.string (tx s)] h k:=by
 apply oN.call;unfold oN;have c0:cU h ⟨r,0,none⟩=some (.int .i64 (size:Int)):=B.cell 0;have c2:cU h ⟨r,0+2,none⟩=some (.string (tx st.flatten)):=B.cell 2;have fl:=aBd hx;have m0:st.length*size≤4096*512:=Nat.mul_le_mul hl hz;have m1:n*size≤st.length*size:=zLO _ (by omega);have m2:(n+1)*size≤st.length*size:=zLO _ (by omega);have m3:(n+1)*size=n*size+size:=Nat.succ_mul _ _;have w1:IntKind.i64.wrap ((n:Int)*(size:Int))=((n*size:Nat):Int):=by rw[←Int.natCast_mul,eI (by omega) (by omega)]
 have w2:IntKind.i64.wrap (((n*size:Nat):Int)+(s.length:Int))=((n*size+s.length:Nat):Int):=by rw[eI (by omega) (by omega)];omega
 have k1:cC PG (Instr.sliceAt bR (.string (tx st.flatten)) none (some (.int .i64 ((n*size:Nat):Int))) none)=some (.string (tx (st.flatten.take (n*size)))):=by
  have:=kI (P:=PG) (t:=bR) (l:=st.flatten) (i:=0) (j:=n*size) (lo:=none) (hi:=some (.int .i64 ((n*size:Nat):Int))) bR.und (.inl ⟨rfl,rfl⟩) (.inr ⟨_,rfl⟩) (by omega) (by omega);rw[this,zLb]
 have k2:cC PG (Instr.sliceAt bR (.string (tx st.flatten)) (some (.int .i64 ((n*size+s.length:Nat):Int))) none none)=some (.string (tx (st.flatten.drop (n*size+s.length)))):=by
  have:=kI (P:=PG) (t:=bR) (l:=st.flatten) (i:=n*size+s.length) (j:=st.flatten.length) (lo:=some (.int .i64 ((n*size+s.length:Nat):Int))) (hi:=none) bR.und (.inr ⟨_,rfl⟩) (.inl ⟨rfl,rfl⟩) (by omega) (by omega);rw[this,zLJ]
 have a1:cC PG (binOp .add bR (.string (tx (st.flatten.take (n*size)))) (.string (tx s)))=some (.string (tx (st.flatten.take (n*size)++s))):=jQ (by rw[mH];omega);have a2:cC PG (binOp .add bR (.string (tx (st.flatten.take (n*size)++s))) (.string (tx (st.flatten.drop (n*size+s.length)))))=some (.string (tx (st.flatten.take (n*size)++s++st.flatten.drop (n*size+s.length)))):=jQ (by rw[jK,mH,jE];omega);simp only[cY.f0,cY.f2,aR.load,bR.load,c0,c2,mX,w1,k1,a1,iL,w2,k2,a2,cD,reduceIte,cJ,Nat.reduceAdd];refine bR.put B (o:=2) (by show 2<5;decide) rfl λh2 B2 u2=>?_;refine hk h2 ?_ u2;rw[←aTQ hx hn hs];exact B2
def aVn(n:Int)(s:ByteArray):cC PG (build dV #[(0,.int .i64 n),(1,.string s)])=some (.agg #[.int .i64 n,.string s]):=by kernel_rfl
def aWR(n:Int)(s:ByteArray):jT PG (buildSlice dH 1 #[(0,.agg #[.int .i64 n,.string s])])=some (.cells #[.int .i64 n,.string s] dV,λr=>pure (.slice (some ⟨r,0,none⟩) 1 1)):=by kernel_rfl
def aWY:jT PG (buildSlice dH 0 #[])=some (.cells #[] dV,λr=>pure (.slice (some ⟨r,0,none⟩) 0 0)):=by kernel_rfl
def aOJ{h:PH}{v:Value}{l:List (Nat×Tx)}(S:hC h 2 v (l.map uG)):cC PG (Builtin.len_ #[dH] aR #[v])=some (.int .i64 l.length):=by
 have:=S.len (t':=aR) dH.und;rw[iF] at this;exact this
def aT5{h:PH}{v:Value}{l:List (Nat×Tx)}(S:hC h 2 v (l.map uG)){i:Nat}{w:Nat×Tx}(hx:l[i]? =some w):∃b o,cC PG (indexAt dH v (.int .i64 (i:Int)))=some (pT b o)∧cU h ⟨b,o,none⟩=some (.int .i64 (w.1:Int))∧cU h ⟨b,o+1,none⟩=some (.string (tx w.2)):=by
 obtain⟨b,o,h1,hf⟩:=S.fields (t:=dH) (k:=.i64) (j:=i) dH.und dV.info dV.size (r:=uG w) (by rw[wV,hx];rfl);exact⟨b,o,h1,hf.1 0 _ rfl,hf.1 1 _ rfl⟩
def aQy{h:PH}{r:Nat}{d:Dk}{F:List Nat}(D:rQ r d h F)(n:Int)(s:Tx)(hb:d.buf.length≤1000000){k:cF}(hk:∀h' F',rQ r (d.wr n s).1 h' F'->eX h F h' F'->k (.int .i64 (d.wr n s).2) h'):bW PG vU #[pT r 0,.int .i64 n,.string (tx s)] h k:=by
 apply sQ.call;unfold sQ;obtain⟨bv,L⟩:=D.b;have hok:=D.ok.wr n s;unfold Dk.wr at hk hok;have bad:(n<0∨(d.sectors:Int)≤n∨s.length≠d.size)->k (.int .i64 1) h:=λc=>by
  rw[if_pos c] at hk;exact hk h F D eX.refl
 by_cases c0:n<0
 ·have g:(n<0)=True:=eq_true c0;simp only[g,cD,reduceIte,cJ,Nat.reduceAdd];exact bad (.inl c0)
 ·have g:(n<0)=False:=eq_false c0;by_cases c1:(d.sectors:Int)≤n
  ·have g1:((d.sectors:Int)≤n)=True:=eq_true c1;simp only[g,cY.f1,aR.load,L.sectors,g1,cD,reduceIte,cJ,Nat.reduceAdd];exact bad (.inr (.inl c1))
  ·have g1:((d.sectors:Int)≤n)=False:=eq_false c1;by_cases c2:s.length=d.size
   ·have q2:((s.length:Int) !=(d.size:Int))=false:=by simp[c2]
    rw[if_neg (by omega)] at hk hok;simp only[g,cY.f0,cY.f1,aR.load,L.sectors,L.size,g1,iL,dY,q2,cD,reduceIte,cJ,Nat.reduceAdd];refine aNf D λh2 D2 u2=>?_;have st2:eX h F h2 F:=⟨u2,λb hb=>.inl hb⟩;by_cases c3:d.arm=1
    ·rw[if_pos c3] at hk;simp only[c3,decide_true,cD,reduceIte,cJ,Nat.reduceAdd];exact hk h2 F D2 st2
    ·rw[if_neg c3] at hk hok;obtain⟨bv,Fb,eF,B2,W2,n1⟩:=D2.here;simp only[c3,decide_false,aWY,cD,reduceIte,cJ,Nat.reduceAdd];intro r54 hr54;refine gV ?_
     try rw[cO]
     have O3:eD (h2.set r54 (.cells #[] dV)) dV 2 (.slice (some ⟨r54,0,none⟩) 0 0) [] [r54]:=eD.lit (n:=0) (λr hr=>by cases hr) eB rfl (by decide) rfl;have u3:cX h2 (h2.set r54 (.cells #[] dV)):=cV.new hr54;generalize h2.set r54 (.cells #[] dV)=h3 at *;have L3:=DoB.of (B2.ext u3);have bl:(d.tick.buf.map uG).length=d.buf.length:=by rw[iF];rfl
     have f54:h2 r54=none:=hr54;simp only[cY.f3,dH.load,L3.buf,cD,reduceIte,cJ,Nat.reduceAdd];refine lG dH.und dH.und dV.info dV.size dV.bytes dV.zero rfl (by decide) O3 (W2.slR.ext u3) (by
      intro r hr u hu;obtain⟨m,_,rfl⟩:=pQ.1 hr;exact uG.isC m u hu) (by rw[bl];simp only[kW];omega) ?_
     intro v4 h4 F4 O4 u4 g4 _;rw[zLU] at O4;have g4':∀b∈F4,h2 b=none:=λb hb=>by
      rcases g4 b hb with e|e
      ·simp only[iI] at e;rw[e];exact f54
      ·exact u3.none e
     have e4:cX h2 h4:=u3.fresh u4 (dX.one f54);simp only[aVn,aWR,cD,reduceIte,cJ,Nat.reduceAdd];intro r64 hr64;refine gV ?_
     try rw[cO]
     have Sl:hC (h4.set r64 (.cells #[.int .i64 n,.string (tx s)] dV)) 2 (.slice (some ⟨r64,0,none⟩) 1 1) [[.int .i64 n,.string (tx s)]]:=(eD.lit (e:=dV) (size:=2) (rows:=[[.int .i64 n,.string (tx s)]]) (n:=1) (λr hr=>by simp only[iI] at hr;rw[hr];rfl) eB rfl (by decide) rfl).slR;have u5:cX h4 (h4.set r64 (.cells #[.int .i64 n,.string (tx s)] dV)):=cV.new hr64;generalize h4.set r64 (.cells #[.int .i64 n,.string (tx s)] dV)=h5 at *;refine lG dH.und dH.und dV.info dV.size dV.bytes dV.zero rfl (by decide) (O4.ext u5) Sl (by simp[fH]) (by rw[bl];simp only[iN,kW];omega) ?_;intro v6 h6 F6 O6 u6 g6 _;have g6':∀b∈F6,h2 b=none:=λb hb=>by
      rcases g6 b hb with e|e
      ·exact g4' b e
      ·exact(e4.trans u5).none e
     have e6:cX h2 h6:=(e4.trans u5).fresh u6 g4';have en:n=((n.toNat:Nat):Int):=by omega
     have O6:eD h6 dV 2 v6 ((d.buf++[(n.toNat,s)]).map uG) F6:=by
      rw[wA];have:uG (n.toNat,s)=[.int .i64 n,.string (tx s)]:=by unfold uG;simp only;rw[←en]
      rw[hM,jA,this];exact O6
     have n6:r∉F6:=λhm=>B2.known (g6' r hm);refine dH.put (B2.ext e6) (o:=3) (by show 3<5;decide) O6.slR.isc λh7 B7 u7=>?_;have ha:=D.arm;refine hk h7 (r::F6) ⟨⟨v6,F6,rfl,B7,O6.upd u7 (lH n6),n6⟩,hok,by show d.arm-1<_;omega⟩ (st2.trans ⟨?_,?_⟩)
     ·rw[eF];exact(e6.upd.trans (u7.mono λb hb=>.inl (by simp only[iI] at hb;simp[hb])))
     ·intro b hb;rw[eF];rcases iM.1 hb with rfl|hb
      ·exact .inl (by simp)
      ·exact .inr (g6' b hb)
   ·have q2:((s.length:Int) !=(d.size:Int))=true:=by rw[bne_iff_ne];omega
    simp only[g,cY.f0,cY.f1,aR.load,L.sectors,L.size,g1,iL,dY,q2,cD,reduceIte,cJ,Nat.reduceAdd];exact bad (.inr (.inr c2))
end
end Go.Proofs.YtiohehjhlghikaaGreatDoor
