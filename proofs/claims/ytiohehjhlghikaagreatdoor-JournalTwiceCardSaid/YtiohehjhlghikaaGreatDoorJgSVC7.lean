/- The texts of this claim, put together. -/
import Derived.Test.YtiohehjhlghikaaGreatDoorJgSVC6
set_option linter.all false
set_option maxRecDepth 100000
open Go.Instr (loadAt fieldAt indexAt extract buildSlice build)
namespace Go.Proofs.YtiohehjhlghikaaGreatDoor
section
open Go
def aXx{h:PH}{x y:Operand}(a b:UInt8):cD PG h (fV .eql dM x y (.int .u8 (a.toNat:Int)) (.int .u8 (b.toNat:Int)))=some (.bool (decide (a=b))):=by
 rw[gA];congr 2;rw[xF];simp[UInt8.toNat_inj,Int.natCast_inj]
def iV(s:Tx):cB PG (Builtin.len_ #[aT] aR #[.string (tx s)])=some (.int .i64 (s.length:Int)):=by rw[uZ aT.und,lJ]
def aUj{h:PH}(s:Tx)(hs:s.length≤1000000){k:cE}(hk:∀n,n≤s.length->(∀x∈s.drop n,x=0)->(n=0∨s[n-1]?≠some 0)->k (.string (tx (s.take n))) h):bT PG yT #[.string (tx s),.int .u8 0] h k:=by
 apply vU.call;unfold vU;refine⟨λvs h'=>∃n:Nat,n≤s.length∧vs=[.string (tx (s.take n)),.int .u8 0]∧h'=h∧∀x∈s.drop n,x=0,λvs _=>(match vs with | .string b::_=>b.size|_=>0),⟨s.length,lM _,by rw[zLJ],rfl,by simp⟩,?_⟩;rintro ρ h' ⟨n,hn,hvs,rfl,hz⟩;simp only[iG,jB,kZ,and_true] at hvs;obtain⟨x0,x1⟩:=hvs;unfold aC0;rw[x0,x1];have hl:(s.take n).length=n:=by rw[lU];omega
 by_cases h0:n=0
 ·have g:((0:Int)<((s.take n).length:Int))=False:=eq_false (by omega);simp only[iV,g,cC,reduceIte,cI,Nat.reduceAdd];exact hk n hn hz (.inl h0)
 ·have g:((0:Int)<((s.take n).length:Int))=True:=eq_true (by omega);have gw:IntKind.i64.wrap (((s.take n).length:Int)-1)=((n-1:Nat):Int):=by rw[eB (by omega) (by omega)];omega
  obtain⟨b,hb⟩:∃b,(s.take n)[n-1]? =some b:=⟨_,kF (by omega)⟩;have hb':s[n-1]? =some b:=by rw[aDn,if_pos (by omega)] at hb;exact hb
  have ib:cB PG (Instr.index aT (.string (tx (s.take n))) (.int .i64 ((n-1:Nat):Int)))=some (.int .u8 b.toNat):=oB aT.und hb;have e8:∀{x y:Operand},cD PG h' (fV .eql dM x y (.int .u8 (b.toNat:Int)) (.int .u8 0))=some (.bool (decide (b=0))):=aXx b 0;by_cases hb0:b=0
  ·have c:cB PG (Instr.sliceAt aT (.string (tx (s.take n))) none (some (.int .i64 ((n-1:Nat):Int))) none)=some (.string (tx (s.take (n-1)))):=by
    have:=kD (P:=PG) (t:=aT) (l:=s.take n) (i:=0) (j:=n-1) (lo:=none) (hi:=some (.int .i64 ((n-1:Nat):Int))) aT.und (.inl ⟨rfl,rfl⟩) (.inr ⟨_,rfl⟩) (by omega) (by omega);rw[this,zLb,aI0,aG6 (by omega)]
   simp only[iV,g,gw,ib,e8,hb0,decide_true,c,cC,reduceIte,cI,Nat.reduceAdd];refine⟨⟨n-1,by omega,rfl,by first|rfl|trivial,λx hx=>?_⟩,?_⟩
   ·have e:s.drop (n-1)=b::s.drop n:=by
     rw[aAs (show n-1<s.length by omega),show n-1+1=n by omega];have:s[n-1]=b:=by rw[kF (show n-1<s.length by omega)] at hb';simpa using hb'
     rw[this]
    rw[e] at hx;rcases iW.1 hx with rfl|hx
    ·exact hb0
    ·exact hz x hx
   ·simp only[iG,x0,lJ,lU];omega
  ·simp only[iV,g,gw,ib,e8,hb0,decide_false,cC,reduceIte,cI,Nat.reduceAdd];exact hk n hn hz (.inr (by rw[hb'];simpa using hb0))
def aUT{h:PH}(s:Tx)(hs:s.length≤1000000){k:cE}(hk:∀n,n≤s.length->(∀x∈s.take n,x=0)->k (.string (tx (s.drop n))) h):bT PG zU #[.string (tx s),.int .u8 0] h k:=by
 apply xP.call;unfold xP;refine⟨λvs h'=>∃n:Nat,n≤s.length∧vs=[.string (tx (s.drop n)),.int .u8 0]∧h'=h∧∀x∈s.take n,x=0,λvs _=>(match vs with | .string b::_=>b.size|_=>0),⟨0,kT _,rfl,rfl,by simp⟩,?_⟩;rintro ρ h' ⟨n,hn,hvs,rfl,hz⟩;simp only[iG,jB,kZ,and_true] at hvs;obtain⟨x0,x1⟩:=hvs;unfold aDf;rw[x0,x1];have hl:(s.drop n).length=s.length-n:=jC;by_cases h0:n=s.length
 ·have g:((0:Int)<((s.drop n).length:Int))=False:=eq_false (by omega);simp only[iV,g,cC,reduceIte,cI,Nat.reduceAdd];exact hk n hn hz
 ·have g:((0:Int)<((s.drop n).length:Int))=True:=eq_true (by omega);obtain⟨b,hb⟩:∃b,s[n]? =some b:=⟨_,kF (show n<s.length by omega)⟩;have ib:cB PG (Instr.index aT (.string (tx (s.drop n))) (.int .i64 0))=some (.int .u8 b.toNat):=oB (j:=0) aT.und (by rw[aJs];exact hb);have e8:∀{x y:Operand},cD PG h' (fV .eql dM x y (.int .u8 (b.toNat:Int)) (.int .u8 0))=some (.bool (decide (b=0))):=aXx b 0;by_cases hb0:b=0
  ·have c:cB PG (Instr.sliceAt aT (.string (tx (s.drop n))) (some (.int .i64 1)) none none)=some (.string (tx (s.drop (n+1)))):=by
    have:=kD (P:=PG) (t:=aT) (l:=s.drop n) (i:=1) (j:=(s.drop n).length) (lo:=some (.int .i64 1)) (hi:=none) aT.und (.inr ⟨_,rfl⟩) (.inl ⟨rfl,rfl⟩) (by omega) (by omega);rw[this,zLJ,qK]
   simp only[iV,g,ib,e8,hb0,decide_true,c,cC,reduceIte,cI,Nat.reduceAdd];refine⟨⟨n+1,by omega,rfl,by first|rfl|trivial,λx hx=>?_⟩,?_⟩
   ·rw[zLR,hb] at hx;rcases tK.1 hx with hx|hx
    ·exact hz x hx
    ·simp at hx;rw[hx];exact hb0
   ·simp only[iG,x0,lJ,jC];omega
  ·simp only[iV,g,ib,e8,hb0,decide_false,cC,reduceIte,cI,Nat.reduceAdd];exact hk n hn hz
def aWz{h:PH}(s:Tx)(hs:s.length≤1000000){k:cE}(hk:∀t:Tx,(t=[]↔∀x∈s,x=0)->k (.string (tx t)) h):bT PG aE0 #[.string (tx s),.string {data:=#[0]}] h k:=by
 apply aBc.call;unfold aBc;have e0:∀{x y:Operand} (l:Tx),cD PG h (fV .eql aT x y (.string (tx l)) (.string {data:=#[]}))=some (.bool (decide (l=[]))):=λl=>aFd l [];have e1:∀{x y:Operand},cD PG h (fV .eql aT x y (.string {data:=#[0]}) (.string {data:=#[]}))=some (.bool false):=by
  intro x y;have:=aFd (h:=h) (t:=aT) (x:=x) (y:=y) [0] [];exact this
 have l0:cB PG (Builtin.len_ #[aT] aR #[.string {data:=#[0]}])=some (.int .i64 1):=iV [0];have i0:cB PG (Instr.index aT (.string {data:=#[0]}) (.int .i64 0))=some (.int .u8 0):=oB (l:=[0]) (j:=0) aT.und rfl;have q1:((1:Int)==1)=true:=rfl;have g128:((0:Int)<128)=True:=eq_true (by decide);by_cases c:s=[]
 ·simp only[e0,c,decide_true,cC,reduceIte,cI,Nat.reduceAdd];exact hk [] (by simp[c])
 ·simp only[e0,e1,c,decide_false,l0,gA,q1,i0,g128,cC,reduceIte,cI,Nat.reduceAdd];refine aUj s hs λn hn hz hl=>?_;refine aUT (s.take n) (by rw[lU];omega) λm hm hy=>?_;refine hk _ ⟨λe=>?_,λe=>?_⟩
  ·have hm2:m=(s.take n).length:=by
    have:=congrArg List.length e;rw[jC,kV] at this;omega
   rw[hm2,zLJ] at hy;intro x hx;rw[←zL6 n s] at hx;rcases tK.1 hx with hx|hx
   ·exact hy x hx
   ·exact hz x hx
  ·rcases hl with hl|hl
   ·rw[hl];simp
   ·exfalso;cases hx:s[n-1]? with
    | none=>
     have hge:=List.getElem?_eq_none_iff.1 hx;have hn0:n≤s.length:=hn;have:s.length≠0:=λh=>c (zLN h);omega
    | some b=>
     rw[hx] at hl;exact hl (by rw[e b (zX hx)])
def aKp{h:PH}(size:Nat){k:cE}(hk:k (.bool (decide (gB size))) h):bT PG aBM #[.int .i64 (size:Int)] h k:=by
 apply aGW.call;unfold aGW;by_cases h1:64≤size
 ·have g1:((64:Int)≤(size:Int))=True:=eq_true (by omega);have e:decide ((size:Int)≤512)=decide (gB size):=by
   rw[xF,decide_eq_true_iff,decide_eq_true_iff];unfold gB;omega
  simp only[g1,cC,reduceIte,cI,Nat.reduceAdd];rw[e];exact hk
 ·have g1:((64:Int)≤(size:Int))=False:=eq_false (by omega);have e:decide (gB size)=false:=decide_eq_false (λx=>h1 x.1);rw[e] at hk;simp only[g1,cC,reduceIte,cI,Nat.reduceAdd];exact hk
def aH4{h:PH}(size n:Nat)(hn:n<1000000000000){k:cE}(hk:k (.int .i64 (dL size n:Int)) h):bT PG uC #[.int .i64 (size:Int),.int .i64 (n:Int)] h k:=by
 apply aGO.call;unfold aGO;refine aKp size ?_;unfold dL at hk;by_cases c:gB size
 ·have g0:((n:Int)<0)=False:=eq_false (by omega);by_cases c4:n≤4096
  ·have g4:((4096:Int)<(n:Int))=False:=eq_false (by omega);rw[if_pos ⟨c,c4⟩] at hk;have h64:=c.1;have h512:=c.2;have w1:IntKind.i64.wrap ((size:Int)-25)=((size-25:Nat):Int):=by rw[eB (by omega) (by omega)];omega
   have w2:IntKind.i64.wrap ((n:Int)+((size-25:Nat):Int))=((n+(size-25):Nat):Int):=by rw[eB (by omega) (by omega)];omega
   have w3:IntKind.i64.wrap (((n+(size-25):Nat):Int)-1)=((n+(size-25)-1:Nat):Int):=by rw[eB (by omega) (by omega)];omega
   have hq:((n+(size-25)-1:Nat):Int).tdiv ((size-25:Nat):Int)=(((n+(size-25)-1)/(size-25):Nat):Int):=by
    rw[Int.tdiv_eq_ediv_of_nonneg (by omega)];rfl
   have hqb:(n+(size-25)-1)/(size-25)≤n+(size-25)-1:=Nat.div_le_self _ _;obtain⟨Q,hQ⟩:∃Q,(n+(size-25)-1)/(size-25)=Q:=⟨_,rfl⟩;rw[hQ] at hq hqb hk;have q:cB PG (binOp .quo aR (.int .i64 ((n+(size-25)-1:Nat):Int)) (.int .i64 ((size-25:Nat):Int)))=some (.int .i64 (Q:Int)):=by
    rw[aKZ (by omega),hq,eB (by omega) (by omega)]
   have m:(if (1:Int)<(Q:Int) then(Q:Int) else 1)=((max 1 Q:Nat):Int):=by
    split<;>omega
   simp only[c,decide_true,g0,g4,w1,w2,w3,q,aLS,m,cC,reduceIte,cI,Nat.reduceAdd];exact hk
  ·have g4:((4096:Int)<(n:Int))=True:=eq_true (by omega);rw[if_neg (λx=>c4 x.2)] at hk;simp only[c,decide_true,g0,g4,cC,reduceIte,cI,Nat.reduceAdd];exact hk
 ·rw[if_neg (λx=>c x.1)] at hk;simp only[c,decide_false,cC,reduceIte,cI,Nat.reduceAdd];exact hk
def kK.cells(f:kK):List Value:=[.int .u64 (f.gen:Int),.int .u64 (f.ser:Int),.int .i64 (f.part:Int),.int .i64 (f.parts:Int),.string (tx f.b)]
def kK.v(f:kK):Value:=.agg f.cells.toArray
def kK.isC(f:kK):∀v∈f.cells,fL v=true:=by simp[kK.cells,fL]
def vJ:cB PG (build cS #[])=some kK.zero.v:=by kernel_rfl
def aUt(a b c d:Int)(s:ByteArray):cB PG (build cS #[(0,.int .u64 a),(1,.int .u64 b),(2,.int .i64 c),(3,.int .i64 d),(4,.string s)])=some (.agg #[.int .u64 a,.int .u64 b,.int .i64 c,.int .i64 d,.string s]):=by kernel_rfl
def aOt{h:PH}{r:Nat}{f:kK}(B:Bx h r f.cells):cD PG h (loadAt cS (pT r 0))=some f.v:=cS.agg B (by show 0+5≤5;decide)
def aVp{h:PH}{x y:Operand}(l:Tx):cD PG h (fV .neq aT x y (.string (tx l)) (.string {data:=#[82]}))=some (.bool (!decide (l=[82]))):=aLd l [82]
def aML{h:PH}{x y:Operand}(l:Tx):cD PG h (fV .neq aT x y (.string (tx l)) (.string {data:=#[]}))=some (.bool (!decide (l=[]))):=aLd l []
def aXQ{h:PH}{x y:Operand}(l:Tx):cD PG h (fV .eql aT x y (.string (tx l)) (.string {data:=#[]}))=some (.bool (decide (l=[]))):=aFd l []
def aOf{st:gY}:(fK st 1).1<256:=wX st 1
def aWm{h:PH}(size:Nat)(s:Tx)(hs:s.length≤1000000){k:cE}(hk:∀h',dA h h'->k (.tuple #[(fW size s).1.v,.int .i64 (fW size s).2]) h'):bT PG aHN #[.int .i64 (size:Int),.string (tx s)] h k:=by
 apply aDM.call;unfold aDM;intro r1 hr1
 try rw[cR]
 have Z1:=cS.zbox (h:=h) (r:=r1);have u1:dA h (h.set r1 (.cells (dJ PG cS) cS)):=cX.new hr1;generalize h.set r1 (.cells (dJ PG cS) cS)=h1 at *;have f1:eD h [r1]:=eD.one hr1;have fin:∀{h':PH} (f:kK) (e:Int),fW size s=(f,e)->(∃cs:List Value,cs.length=5∧Bx h' r1 cs)->dA h h'->cN PG (cP cS (pT r1 0) f.v) h' λ_ h8=>bY (cD PG h8 (loadAt cS (pT r1 0))) λv9=>k (.tuple #[v9,.int .i64 e]) h8:=by
  intro h' f e hr ⟨cs,hcs,B⟩ w;refine cS.put B (vs:=f.cells) (o:=0) rfl (by omega) f.isC λh2 B2 u2=>?_;rw[zLd,zLU,yQ (by omega),zLQ] at B2;simp only[aOt B2,cC,reduceIte,cI,Nat.reduceAdd];have:=hk h2 (w.fresh u2 f1);rw[hr] at this;exact this
 have bad:∀{h':PH} (e:Int),fW size s=(kK.zero,e)->(∃cs:List Value,cs.length=5∧Bx h' r1 cs)->dA h h'->cN PG (cP cS (pT r1 0) kK.zero.v) h' λ_ h8=>bY (cD PG h8 (loadAt cS (pT r1 0))) λv9=>k (.tuple #[v9,.int .i64 e]) h8:=λe=>fin kK.zero e;refine aKp size ?_;by_cases ok:gB size
 ·have h64:=ok.1;have h512:=ok.2;simp only[ok,decide_true,iV,eI,cC,reduceIte,cI,Nat.reduceAdd];by_cases hl:s.length=size
  ·have q:((s.length:Int) !=(size:Int))=false:=by simp[hl]
   simp only[q,cC,reduceIte,cI,Nat.reduceAdd];refine aQN s hs λh4 u4=>?_;cases hsl:oE s with
   | false=>
    have er:fW size s=(kK.zero,8):=by unfold fW;rw[if_neg (by simpa using ok),if_neg (by simpa using hl),if_pos hsl]
    simp only[vJ,cC,reduceIte,cI,Nat.reduceAdd];exact bad 8 er ⟨_,rfl,Z1.ext u4⟩ (u1.trans u4)
   | true=>
    have e4:=u1.trans u4;obtain⟨s',hs'⟩:∃s',s.take (size-4)=s':=⟨_,rfl⟩;have hl':s'.length=size-4:=by rw[←hs',lU];omega
    have er:fW size s=if aIk s'∧aHn size (aBI s')∧aIu size (aBI s') then(aBI s',0) else(kK.zero,5):=by
     unfold fW;rw[if_neg (by simpa using ok),if_neg (by simpa using hl),if_neg (by simp[hsl]),hs']
    have w1:IntKind.i64.wrap ((size:Int)-4)=((size-4:Nat):Int):=by rw[eB (by omega) (by omega)];omega
    have w2:IntKind.i64.wrap ((size:Int)-25)=((size-25:Nat):Int):=by rw[eB (by omega) (by omega)];omega
    have c1:cB PG (Instr.sliceAt aT (.string (tx s)) none (some (.int .i64 ((size-4:Nat):Int))) none)=some (.string (tx s')):=by
     have:=kD (P:=PG) (t:=aT) (l:=s) (i:=0) (j:=size-4) (lo:=none) (hi:=some (.int .i64 ((size-4:Nat):Int))) aT.und (.inl ⟨rfl,rfl⟩) (.inr ⟨_,rfl⟩) (by omega) (by omega);rw[this,zLb,hs']
    simp only[w1,c1,cC,reduceIte,cI,Nat.reduceAdd];refine aIA s' λa h5 R5 u5 ha=>?_;have Z5:=(Z1.ext u4).ext u5;have n1a:r1≠a:=(Z1.ext u4).apart ha;have fa:eD h [a]:=eD.one (e4.none ha);have e5:=e4.trans u5;refine aNC R5 1 λh6 R6 u6=>?_;refine aB5 R6 λh7 R7 u7=>?_;refine aB5 R7 λh8 R8 u8=>?_;refine aAw R8 λh9 R9 u9=>?_;refine aAw R9 λh10 R10 u10=>?_;refine aPb R10 λh11 R11 u11=>?_;have R11:lF h11 a (yC s').2.1 (yC s').2.2:=R11;show bY (cB PG (build cS #[(0,.int .u64 ((frG s').1:Int)),(1,.int .u64 ((frN s').1:Int)),(2,.int .i64 ((yD s').1:Int)),(3,.int .i64 ((vQ s').1:Int)),(4,.string (tx (yC s').1))])) _;have u11':=((((u6.trans u7).trans u8).trans u9).trans u10).trans u11;have Z11:=Z5.upd u11' (by simpa using n1a);have e11:=e5.fresh u11' fa;simp only[aUt,cC,reduceIte,cI,Nat.reduceAdd];intro r40 hr40
    try rw[cR]
    refine cS.fill (vs:=(aBI s').cells) hr40 rfl (aBI s').isC λh12 B12 u12=>?_;have Z12:=Z11.ext u12;have n40a:r40≠a:=λe=>by
     have:=R11.here;rw[←e,hr40] at this;cases this
    have e12:=e11.trans u12;refine aQI (R11.ext u12) ?_;have eL:(if (yC s').2.1=0 then((yC s').2.2.length:Int) else 0)=((aJp (yC s').2:Nat):Int):=by
     unfold aJp;split<;>rfl
    rw[eL];refine aNC (R11.ext u12) _ λh13 R13 u13=>?_;have R13:lF h13 a (frZ s').2.1 (frZ s').2.2:=R13;have B13:=B12.upd u13 (by simpa using n40a);have Z13:=Z12.upd u13 (by simpa using n1a);have e13:=e12.fresh u13 fa;have b2:cV h13 ⟨r40,0+2,none⟩=some (.int .i64 ((yD s').1:Int)):=B13.cell 2;have b3:cV h13 ⟨r40,0+3,none⟩=some (.int .i64 ((vQ s').1:Int)):=B13.cell 3;have b4:cV h13 ⟨r40,0+4,none⟩=some (.string (tx (yC s').1)):=B13.cell 4;have kp:=aOf (st:=(frN s').2);have kq:=aOf (st:=(yD s').2);have kp:(yD s').1<256:=kp;have kq:(vQ s').1<256:=kq;have w3:IntKind.i64.wrap (((vQ s').1:Int)-1)=((vQ s').1:Int)-1:=eB (by omega) (by omega);have zl:(frZ s').1.length≤1000000:=by
     have:(frZ s').1.length≤s'.length:=by
      unfold frZ;have h1:=aJq (yC s').2 (aJp (yC s').2);have h2:aJp (yC s').2≤s'.length:=by
       have F:=aRv (size:=size) h64 hl';rw[F.t];unfold aJp;split
       ·split
        ·simp only[jC];omega
        ·exact kT _
       ·split
        ·rename_i h0;exact absurd h0 (by simp)
        ·exact kT _
      omega
     omega
    simp only[cS.f2,cS.f3,cS.f4,aR.load,aT.load,b2,b3,w3,w2,eV.f0,gA,cC,reduceIte,cI,Nat.reduceAdd];refine aEl R13 ?_;have bad5:¬(aIk s'∧aHn size (aBI s')∧aIu size (aBI s'))->fW size s=(kK.zero,5):=λh=>by rw[er,if_neg h]
    have Zx:∃cs:List Value,cs.length=5∧Bx h13 r1 cs:=⟨_,rfl,Z13⟩;by_cases c1:(frZ s').2.1=0
    ·have q1:((frZ s').2.1 !=0)=false:=by simp[c1]
     by_cases c2:(mL (0,s') 1).1=[82]
     ·have q2:decide ((mL (0,s') 1).1=[82])=true:=decide_eq_true c2;simp only[eI,q1,aVp,q2,cC,reduceIte,cI,Nat.reduceAdd];refine aWz _ zl λt ht=>?_;by_cases c3:∀x∈(frZ s').1,x=0
      ·have q3:decide (t=[])=true:=decide_eq_true (ht.2 c3);by_cases c4:(yD s').1<(vQ s').1
       ·have q4:(((vQ s').1:Int)≤((yD s').1:Int))=False:=eq_false (by omega);have k1:aIk s':=⟨c1,c2,c3,c4⟩;have lB:cB PG (Builtin.len_ #[aT] aR #[.string (tx (yC s').1)])=some (.int .i64 ((yC s').1.length:Int)):=iV _;have hlen:(yC s').1.length≤65536:=by
         have F:=aRv (size:=size) h64 hl';rw[F.t];split
         ·show(mK s').length≤65536;unfold mK;rw[lU,jC];omega
         ·simp
        have hm:(yD s').1*(size-25)≤256*512:=Nat.mul_le_mul (by omega) (by omega);have w4:IntKind.i64.wrap (((yD s').1:Int)*((size-25:Nat):Int))=(((yD s').1*(size-25):Nat):Int):=by
         rw[←Int.natCast_mul,eB (by omega) (by omega)]
        have w5:IntKind.i64.wrap ((((yD s').1*(size-25):Nat):Int)+((yC s').1.length:Int))=(((yD s').1*(size-25)+(yC s').1.length:Nat):Int):=by
         rw[eB (by omega) (by omega)];omega
        by_cases k2:aHn size (aBI s')
        ·have three:((yD s').1+1=(vQ s').1∧1<(vQ s').1)∨((yD s').1+1=(vQ s').1∧¬1<(vQ s').1)∨(yD s').1+1≠(vQ s').1:=by omega
         rcases three with⟨cl,cm⟩|⟨cl,cm⟩|cl
         case' inl=>
          have ql:(((yD s').1:Int)==((vQ s').1:Int)-1)=true:=by
           rw[beq_iff_eq];omega
          have qm:((1:Int)<((vQ s').1:Int))=True:=eq_true (by omega);have cb:decide ((yC s').1=[])=false:=decide_eq_false (k2.2 cl cm);simp only[aML,q3,q4,ql,cS.f2,cS.f3,cS.f4,aR.load,aT.load,b2,b3,b4,qm,aXQ,cb,nU,w4,lB,w5,cC,reduceIte,cI,Nat.reduceAdd]
         case' inr.inl=>
          have ql:(((yD s').1:Int)==((vQ s').1:Int)-1)=true:=by
           rw[beq_iff_eq];omega
          have qm:((1:Int)<((vQ s').1:Int))=False:=eq_false (by omega);simp only[aML,q3,q4,ql,cS.f2,cS.f3,cS.f4,aR.load,aT.load,b2,b3,b4,qm,nU,w4,lB,w5,cC,reduceIte,cI,Nat.reduceAdd]
         case' inr.inr=>
          have ql:(((yD s').1:Int)==((vQ s').1:Int)-1)=false:=by
           rw[beq_eq_false_iff_ne];omega
          have cr:(yC s').1.length=size-25:=k2.1 cl;have qr:(((yC s').1.length:Int) !=((size-25:Nat):Int))=false:=by simp[cr]
          simp only[aML,q3,q4,ql,cS.f2,cS.f3,cS.f4,aR.load,aT.load,b2,b3,b4,lB,eI,qr,nU,w4,w5,cC,reduceIte,cI,Nat.reduceAdd]
         all_goals
          refine aH4 size _ (by omega) ?_;by_cases c5:dL size ((yD s').1*(size-25)+(yC s').1.length)=0
          ·have q5:(((dL size ((yD s').1*(size-25)+(yC s').1.length):Nat):Int)==0)=true:=by simp[c5]
           simp only[gA,q5,vJ,cC,reduceIte,cI,Nat.reduceAdd];refine⟨by simp,?_⟩;exact bad 5 (bad5 λx=>x.2.2.1 c5) Zx e13
          ·have q5:(((dL size ((yD s').1*(size-25)+(yC s').1.length):Nat):Int)==0)=false:=by
            rw[beq_eq_false_iff_ne];omega
           simp only[gA,q5,cS.f3,aR.load,b3,cC,reduceIte,cI,Nat.reduceAdd];refine aH4 size 4096 (by decide) ?_;refine⟨λ_=>b3,?_⟩;by_cases c6:(vQ s').1≤dL size 4096
           ·have q6:(((dL size 4096:Nat):Int)<((vQ s').1:Int))=False:=eq_false (by omega);simp only[q6,aOt B13,cC,reduceIte,cI,Nat.reduceAdd];exact fin (aBI s') 0 (by rw[er,if_pos ⟨k1,k2,c5,c6⟩]) Zx e13
           ·have q6:(((dL size 4096:Nat):Int)<((vQ s').1:Int))=True:=eq_true (by omega);simp only[q6,vJ,cC,reduceIte,cI,Nat.reduceAdd];exact bad 5 (bad5 λx=>c6 x.2.2.2) Zx e13
        ·by_cases cl:(yD s').1+1=(vQ s').1
         ·have ql:(((yD s').1:Int)==((vQ s').1:Int)-1)=true:=by
           rw[beq_iff_eq];omega
          have cmb:1<(vQ s').1∧(yC s').1=[]:=by
           refine Classical.byContradiction λx=>k2 ⟨λh=>absurd cl h,λ_ h1 h2=>x ⟨h1,h2⟩⟩
          have qm:((1:Int)<((vQ s').1:Int))=True:=eq_true (by omega);have cb:decide ((yC s').1=[])=true:=decide_eq_true cmb.2;simp only[aML,q3,q4,ql,cS.f3,cS.f4,aR.load,aT.load,b2,b3,b4,qm,aXQ,cb,vJ,cC,reduceIte,cI,Nat.reduceAdd];exact bad 5 (bad5 λx=>k2 x.2.1) Zx e13
         ·have ql:(((yD s').1:Int)==((vQ s').1:Int)-1)=false:=by
           rw[beq_eq_false_iff_ne];omega
          have cr:(yC s').1.length≠size-25:=λh=>k2 ⟨λ_=>h,λh=>absurd h cl⟩;have qr:(((yC s').1.length:Int) !=((size-25:Nat):Int))=true:=by
           rw[bne_iff_ne];omega
          simp only[aML,q3,q4,ql,cS.f2,cS.f3,cS.f4,aR.load,aT.load,b2,b3,b4,lB,eI,qr,vJ,cC,reduceIte,cI,Nat.reduceAdd];exact bad 5 (bad5 λx=>k2 x.2.1) Zx e13
       ·have q4:(((vQ s').1:Int)≤((yD s').1:Int))=True:=eq_true (by omega);simp only[q3,aML,q4,cS.f2,cS.f3,aR.load,b2,b3,vJ,cC,reduceIte,cI,Nat.reduceAdd];exact bad 5 (bad5 λx=>c4 x.1.2.2.2) Zx e13
      ·have q3:decide (t=[])=false:=decide_eq_false (λx=>c3 (ht.1 x));simp only[aML,q3,vJ,cC,reduceIte,cI,Nat.reduceAdd];exact bad 5 (bad5 λx=>c3 x.1.2.2.1) Zx e13
     ·have q2:decide ((mL (0,s') 1).1=[82])=false:=decide_eq_false c2;simp only[eI,q1,aVp,q2,vJ,cC,reduceIte,cI,Nat.reduceAdd];exact bad 5 (bad5 λx=>c2 x.1.2.1) Zx e13
    ·have q1:((frZ s').2.1 !=0)=true:=by simp[c1]
     simp only[eI,q1,vJ,cC,reduceIte,cI,Nat.reduceAdd];exact bad 5 (bad5 λx=>c1 x.1.1) Zx e13
  ·have q:((s.length:Int) !=(size:Int))=true:=by
    rw[bne_iff_ne];omega
   have er:fW size s=(kK.zero,6):=by unfold fW;rw[if_neg (by simpa using ok),if_pos hl]
   simp only[q,vJ,cC,reduceIte,cI,Nat.reduceAdd];exact bad 6 er ⟨_,rfl,Z1⟩ u1
 ·have er:fW size s=(kK.zero,1):=by unfold fW;rw[if_pos ok]
  simp only[ok,decide_false,vJ,cC,reduceIte,cI,Nat.reduceAdd];exact bad 1 er ⟨_,rfl,Z1⟩ u1
def aMU(size:Nat)(s:Tx):(fW size s).1.parts<256∧(fW size s).1.b.length≤s.length:=by
 rw[←aMc];have h0:kK.zero.parts<256∧kK.zero.b.length≤s.length:=⟨by decide,kT _⟩;unfold vV;split
 ·exact h0
 ·split
  ·exact h0
  ·split
   ·exact h0
   ·split
    ·exact h0
    ·split
     ·exact h0
     ·split
      ·exact h0
      ·refine⟨?_,?_⟩
       ·show iA s<256;unfold iA;have:=aJY ((s.drop 18).take 1);have h2:((s.drop 18).take 1).length≤1:=by rw[lU];omega
        have h3:256^((s.drop 18).take 1).length≤256^1:=aNb (by decide) h2;omega
       ·show(mK s).length≤s.length;unfold mK;rw[lU,jC];omega
def aPn{size:Nat}{xs:List Tx}(h:∀s∈xs,s.length=size){k:Nat}{x:Tx}(hx:xs[k]? =some x):(xs.flatten.take ((k+1)*size)).drop (k*size)=x:=by
 have hk:=(zLA.1 hx).1;rw[zLy,Nat.succ_mul,aCb,aRB h hk,sQ,hx];rfl
def aFc(size gen ser:Nat)(x:Tx)(xs:List Tx)(k parts:Nat)(text:Tx):iY size gen ser (x::xs) k parts text=if aGd gen ser k (if k=0 then(fW size x).1.parts else parts) (fW size x) then([],0) else if k+1=(fW size x).1.parts then(text++(fW size x).1.b,(fW size x).1.parts) else iY size gen ser xs (k+1) (if k=0 then(fW size x).1.parts else parts) (text++(fW size x).1.b):=rfl
def aTa{h:PH}{size gen ser:Nat}{xs:List Tx}(hsz:size≤1000)(h1:1≤size)(hx:∀s∈xs,s.length=size)(hl:xs.length≤5000){k:cE}
  (hk:∀h',dA h h'->k (.tuple #[.string (tx (iY size gen ser xs 0 0 []).1),.int .i64 ((iY size gen ser xs 0 0 []).2:Int)]) h'):bT PG aE2 #[.int .i64 (size:Int),.int .u64 (gen:Int),.int .u64 (ser:Int),.string (tx xs.flatten)] h k:=by
 apply aBK.call;unfold aBK;obtain⟨T,hT⟩:∃T,iY size gen ser xs 0 0 []=T:=⟨_,rfl⟩;rw[hT] at hk;have fl:=aBx hx;have flb:xs.length*size≤5000*1000:=Nat.mul_le_mul hl hsz;refine⟨λvs h'=>∃(n parts:Nat) (t:Tx),n≤xs.length∧vs=[.int .i64 (size:Int),.int .u64 (gen:Int),.int .u64 (ser:Int),.string (tx xs.flatten),.string (tx t),.int .i64 (parts:Int),.int .i64 (n:Int)]∧dA h h'∧t.length≤n*1000∧T=iY size gen ser (xs.drop n) n parts t,fT xs.length 6,⟨0,0,[],by omega,rfl,cX.refl,by simp,hT.symm⟩,?_⟩;rintro ρ h' ⟨n,parts,t,hn,hvs,w,ht,hr⟩;simp only[iG,jB,kZ,and_true] at hvs;obtain⟨x0,x1,x2,x3,x10,x11,x12⟩:=hvs;unfold aIh;rw[x0,x1,x2,x3,x10,x11,x12];have g1:=nR (i:=n) (by omega);have hm1:(n+1)*size≤5001*1000:=Nat.mul_le_mul (by omega) hsz;have hm0:n*size≤5001*1000:=Nat.mul_le_mul (by omega) hsz;have g2:IntKind.i64.wrap (((n+1:Nat):Int)*(size:Int))=(((n+1)*size:Nat):Int):=by rw[←Int.natCast_mul,eB (by omega) (by omega)]
 have g3:IntKind.i64.wrap ((n:Int)*(size:Int))=((n*size:Nat):Int):=by rw[←Int.natCast_mul,eB (by omega) (by omega)]
 by_cases hlt:n<xs.length
 ·have hle:(n+1)*size≤xs.length*size:=zLO _ hlt;have gl:((((n+1)*size:Nat):Int)≤(xs.flatten.length:Int))=True:=eq_true (by omega);obtain⟨x,hxx⟩:∃x,xs[n]? =some x:=⟨_,kF hlt⟩;have hxl:=hx x (zX hxx);have hms:n*size≤(n+1)*size:=zLO _ (aES _);have c:cB PG (Instr.sliceAt aT (.string (tx xs.flatten)) (some (.int .i64 ((n*size:Nat):Int))) (some (.int .i64 (((n+1)*size:Nat):Int))) none)=some (.string (tx x)):=by
   have:=kD (P:=PG) (t:=aT) (l:=xs.flatten) (i:=n*size) (j:=(n+1)*size) (lo:=some (.int .i64 ((n*size:Nat):Int))) (hi:=some (.int .i64 (((n+1)*size:Nat):Int))) aT.und (.inr ⟨_,rfl⟩) (.inr ⟨_,rfl⟩) hms (by omega);rw[this,aPn hx hxx]
  have ed:xs.drop n=x::xs.drop (n+1):=by
   rw[aAs hlt];have:xs[n]=x:=by rw[kF hlt] at hxx;simpa using hxx
   rw[this]
  rw[ed] at hr;obtain⟨rf1,rf2⟩:=aMU size x;simp only[g1,nU,g2,iV,gl,g3,c,cC,reduceIte,cI,Nat.reduceAdd];refine aWm size x (by omega) λh2 u2=>?_;simp only[cC,reduceIte,cI,Nat.reduceAdd];intro r15 hr15
  try rw[cR]
  refine cS.fill (vs:=(fW size x).1.cells) hr15 rfl (fW size x).1.isC λh3 B3 u3=>?_;have e3:=(w.trans u2).trans u3;have b0:cV h3 ⟨r15,0,none⟩=some (.int .u64 ((fW size x).1.gen:Int)):=B3.cell 0;have b1:cV h3 ⟨r15,0+1,none⟩=some (.int .u64 ((fW size x).1.ser:Int)):=B3.cell 1;have b2:cV h3 ⟨r15,0+2,none⟩=some (.int .i64 ((fW size x).1.part:Int)):=B3.cell 2;have b3:cV h3 ⟨r15,0+3,none⟩=some (.int .i64 ((fW size x).1.parts:Int)):=B3.cell 3;have b4:cV h3 ⟨r15,0+4,none⟩=some (.string (tx (fW size x).1.b)):=B3.cell 4;have tail:∀pp:Nat,pp=(if n=0 then(fW size x).1.parts else parts)->aBm k (λvs h'=>(∃(n parts:Nat) (t:Tx),n≤xs.length∧vs=[.int .i64 (size:Int),.int .u64 (gen:Int),.int .u64 (ser:Int),.string (tx xs.flatten),.string (tx t),.int .i64 (parts:Int),.int .i64 (n:Int)]∧dA h h'∧t.length≤n*1000∧T=iY size gen ser (xs.drop n) n parts t)∧fT xs.length 6 vs h'<fT xs.length 6 ([0,1,2,3,10,11,12].map ρ) h') (.int .i64 (size:Int)) (.int .u64 (gen:Int)) (.int .u64 (ser:Int)) (.string (tx xs.flatten)) (.string (tx t)) (.int .i64 (pp:Int)) (.int .i64 (n:Int)) (pT r15 0) (.int .i64 (fW size x).2) h3:=by
   intro pp hpp;rw[aFc,←hpp] at hr;unfold aBm;have nq:∀{a b:Nat},a=b->((a:Int) !=(b:Int))=false:=λe=>by simp[e]
   have nn:∀{a b:Nat},a≠b->((a:Int) !=(b:Int))=true:=λe=>by rw[bne_iff_ne];omega
   have fail:aGd gen ser n pp (fW size x)->k (.tuple #[.string {data:=#[]},.int .i64 0]) h3:=λhb=>by
    rw[if_pos hb] at hr;have:=hk h3 e3;rw[hr] at this;exact this
   by_cases c1:(fW size x).2=0
   ·have q1:((fW size x).2 !=0)=false:=by simp[c1]
    by_cases c2:(fW size x).1.gen=gen
    ·by_cases c3:(fW size x).1.ser=ser
     ·by_cases c4:(fW size x).1.part=n
      ·by_cases c5:(fW size x).1.parts=pp
       ·have ea:cB PG (binOp .add aT (.string (tx t)) (.string (tx (fW size x).1.b)))=some (.string (tx (t++(fW size x).1.b))):=jW (by omega);have w5:IntKind.i64.wrap (((fW size x).1.parts:Int)-1)=((fW size x).1.parts:Int)-1:=eB (by omega) (by omega);rw[if_neg (λhb=>by
         rcases hb with a|a|a|a|a
         ·exact a c1
         ·exact a c2
         ·exact a c3
         ·exact a c4
         ·exact a c5)] at hr
        simp only[eI,q1,cS.f0,cS.f1,cS.f2,cS.f3,cS.f4,cJ.load,aR.load,aT.load,b0,b1,b2,b3,b4,nq c2,nq c3,nq c4,nq c5,ea,w5,gA,cC,reduceIte,cI,Nat.reduceAdd];by_cases c6:n+1=(fW size x).1.parts
        ·have q6:((n:Int)==((fW size x).1.parts:Int)-1)=true:=by rw[beq_iff_eq];omega
         rw[if_pos c6] at hr;simp only[q6,cC,reduceIte,cI,Nat.reduceAdd];have:=hk h3 e3;rw[hr] at this;exact this
        ·have q6:((n:Int)==((fW size x).1.parts:Int)-1)=false:=by rw[beq_eq_false_iff_ne];omega
         rw[if_neg c6] at hr;simp only[q6,g1,cC,reduceIte,cI,Nat.reduceAdd];exact⟨⟨n+1,pp,_,by omega,rfl,e3,by rw[jM];omega,hr⟩,by simp[fT,x12];omega⟩
       ·simp only[eI,q1,cS.f0,cS.f1,cS.f2,cS.f3,cJ.load,aR.load,b0,b1,b2,b3,nq c2,nq c3,nq c4,nn c5,cC,reduceIte,cI,Nat.reduceAdd];exact fail (.inr (.inr (.inr (.inr c5))))
      ·simp only[eI,q1,cS.f0,cS.f1,cS.f2,cS.f3,cJ.load,aR.load,b0,b1,b2,b3,nq c2,nq c3,nn c4,cC,reduceIte,cI,Nat.reduceAdd];exact fail (.inr (.inr (.inr (.inl c4))))
     ·simp only[eI,q1,cS.f0,cS.f1,cS.f2,cS.f3,cJ.load,aR.load,b0,b1,b2,b3,nq c2,nn c3,cC,reduceIte,cI,Nat.reduceAdd];exact fail (.inr (.inr (.inl c3)))
    ·simp only[eI,q1,cS.f0,cS.f1,cS.f2,cS.f3,cJ.load,aR.load,b0,b1,b2,b3,nn c2,cC,reduceIte,cI,Nat.reduceAdd];exact fail (.inr (.inl c2))
   ·have q1:((fW size x).2 !=0)=true:=by simp[c1]
    simp only[eI,q1,cC,reduceIte,cI,Nat.reduceAdd];exact fail (.inl c1)
  by_cases hn0:n=0
  ·have q0:((n:Int)==0)=true:=by simp[hn0]
   simp only[gA,q0,cS.f3,aR.load,b3,cC,reduceIte,cI,Nat.reduceAdd];exact tail _ (by rw[if_pos hn0])
  ·have q0:((n:Int)==0)=false:=by rw[beq_eq_false_iff_ne];omega
   simp only[gA,q0,cC,reduceIte,cI,Nat.reduceAdd];exact tail _ (by rw[if_neg hn0])
 ·have gl:((((n+1)*size:Nat):Int)≤(xs.flatten.length:Int))=False:=by
   have:n=xs.length:=by omega
   have hms:(n+1)*size=n*size+size:=Nat.succ_mul _ _;rw[this] at hms;exact eq_false (by rw[this];omega)
  rw[yQ (by omega)] at hr;simp only[g1,nU,g2,iV,gl,cC,reduceIte,cI,Nat.reduceAdd];have:=hk h' w;rw[hr] at this;exact this
def aWV{h:PH}{size gen:Nat}{xs:List Tx}(ok:gB size)(hx:∀s∈xs,s.length=size)(hl:xs.length≤5000){k:cE}
  (hk:∀h' v F,eH h' aT 1 v ((jD size gen (xs.length+1) xs 0).1.map jI) F->eD h F->dA h h'->k (.tuple #[v,.int .i64 ((jD size gen (xs.length+1) xs 0).2:Int)]) h'):bT PG aHG #[.int .i64 (size:Int),.int .u64 (gen:Int),.string (tx xs.flatten)] h k:=by
 apply aHr.call;unfold aHr;obtain⟨T,hT⟩:∃T,jD size gen (xs.length+1) xs 0=T:=⟨_,rfl⟩;rw[hT] at hk;have h64:=ok.1;have h512:=ok.2;have fl:=aBx hx;have flb:xs.length*size≤5000*512:=Nat.mul_le_mul hl h512;refine aKp size ?_;simp only[ok,decide_true,cC,reduceIte,cI,Nat.reduceAdd];refine⟨λvs h'=>∃(used ser f:Nat) (v:Value) (out:List Tx) (F:List Nat),used≤xs.length∧ser≤used∧out.length=ser∧xs.length<f+used∧vs=[.int .i64 (size:Int),.int .u64 (gen:Int),.string (tx xs.flatten),v,.int .i64 (used:Int),.int .u64 (ser:Int)]∧eH h' aT 1 v (out.map jI) F∧eD h F∧dA h h'∧T=(out++(jD size gen f (xs.drop used) ser).1,used+(jD size gen f (xs.drop used) ser).2),fT xs.length 4,⟨0,0,xs.length+1,_,[],[],by omega,by omega,rfl,by omega,rfl,eH.nil,(λb hb=>by cases hb),cX.refl,by rw[←hT];simp⟩,?_⟩;rintro ρ h' ⟨used,ser,f,v,out,F,hu,hs,ho,hf,hvs,O,fF,w,hr⟩;simp only[iG,jB,kZ,and_true] at hvs;obtain⟨x0,x1,x2,x8,x9,x10⟩:=hvs;unfold aKS;rw[x0,x1,x2,x8,x9,x10];have hm0:used*size≤xs.length*size:=zLO _ hu;have g3:IntKind.i64.wrap ((used:Int)*(size:Int))=((used*size:Nat):Int):=by rw[←Int.natCast_mul,eB (by omega) (by omega)]
 have c:cB PG (Instr.sliceAt aT (.string (tx xs.flatten)) (some (.int .i64 ((used*size:Nat):Int))) none none)=some (.string (tx (xs.drop used).flatten)):=by
  have:=kD (P:=PG) (t:=aT) (l:=xs.flatten) (i:=used*size) (j:=xs.flatten.length) (lo:=some (.int .i64 ((used*size:Nat):Int))) (hi:=none) aT.und (.inr ⟨_,rfl⟩) (.inl ⟨rfl,rfl⟩) (by omega) (lM _);rw[this,zLJ,aG2 hx]
 obtain⟨f,rfl⟩:∃g,f=g+1:=⟨f-1,by omega⟩;have hle:=aNL (size:=size) (gen:=gen) (ser:=ser) (xs.drop used) 0 0 [];rw[jC] at hle;simp only[nU,g3,c,cC,reduceIte,cI,Nat.reduceAdd];refine aTa (by omega) (by omega) (λs hs=>hx s (List.mem_of_mem_drop hs)) (by rw[jC];omega) λh2 u2=>?_;unfold jD at hr;by_cases c0:(iY size gen ser (xs.drop used) 0 0 []).2=0
 ·rw[if_pos c0,zLQ,zLP] at hr;have q0:(((iY size gen ser (xs.drop used) 0 0 []).2:Int)==0)=true:=by simp[c0]
  simp only[gA,q0,cC,reduceIte,cI,Nat.reduceAdd];have:=hk h2 v F;have hr':T=(out,used):=hr;rw[hr'] at this;exact this (O.ext u2) fF (w.trans u2)
 ·rw[if_neg c0] at hr;have q0:(((iY size gen ser (xs.drop used) 0 0 []).2:Int)==0)=false:=by rw[beq_eq_false_iff_ne];omega
  simp only[gA,q0,aGX,cC,reduceIte,cI,Nat.reduceAdd];intro r13 hr13;refine iB ?_
  try rw[cR]
  have S1:=(aGE (h:=h2) (r:=r13) (iY size gen ser (xs.drop used) 0 0 []).1).slR;have u3:dA h2 (h2.set r13 (.cells #[.string (tx (iY size gen ser (xs.drop used) 0 0 []).1)] aT)):=cX.new hr13;refine lV dD.und dD.und aT.info aT.size aT.bytes aT.zero rfl (by decide) ((O.ext u2).ext u3) S1 (by simp[fL]) (by simp only[iL,iU,kV];omega) ?_;intro v4 h4 F4 O4 u4 g4 _;have O4:eH h4 aT 1 v4 ((out++[(iY size gen ser (xs.drop used) 0 0 []).1]).map jI) F4:=by rw[xJ];exact O4
  have gu:IntKind.i64.wrap ((used:Int)+((iY size gen ser (xs.drop used) 0 0 []).2:Int))=((used+(iY size gen ser (xs.drop used) 0 0 []).2:Nat):Int):=by rw[eB (by omega) (by omega)];omega
  have gs:IntKind.u64.wrap ((ser:Int)+1)=((ser+1:Nat):Int):=by rw[kI (by omega) (by omega)];omega
  have e3:=(w.trans u2).trans u3;simp only[gu,gs,cC,reduceIte,cI,Nat.reduceAdd];rw[qK] at hr;refine⟨⟨used+(iY size gen ser (xs.drop used) 0 0 []).2,ser+1,f,v4,_,F4,by omega,by omega,by rw[jM,ho];rfl,by omega,rfl,O4,fF.grow e3 g4,e3.fresh u4 fF,?_⟩,by simp[fT,x9];omega⟩;rw[hr,uS,Nat.add_assoc];rfl
def Hd.cells(h:Hd):List Value:=[.int .u64 (h.gen:Int),.int .i64 (h.seg:Int)]
def Hd.v(h:Hd):Value:=.agg h.cells.toArray
def Hd.isC(h:Hd):∀v∈h.cells,fL v=true:=by simp[Hd.cells,fL]
def aCQ:cB PG (build cM #[])=some Hd.zero.v:=by kernel_rfl
def aXU(a b:Int):cB PG (build cM #[(0,.int .u64 a),(1,.int .i64 b)])=some (.agg #[.int .u64 a,.int .i64 b]):=by kernel_rfl
def aRR(a:Int):cB PG (build cM #[(0,.int .u64 a)])=some (.agg #[.int .u64 a,.int .i64 0]):=by kernel_rfl
def wK{h:PH}{r:Nat}{x:Hd}(B:Bx h r x.cells):cD PG h (loadAt cM (pT r 0))=some x.v:=cM.agg B (by show 0+2≤2;decide)
def aZB{h:PH}{d:Nat}(q q':Hd):cD PG h (Op.equalIn (d+1+1) cM q.v q'.v)=some (decide (q=q')):=by
 unfold Hd.v;rw[aAq cM.und (by kernel_rfl) (λf=>match f.offset with|0=>(q.gen:Int)==(q'.gen:Int)|_=>(q.seg:Int)==(q'.seg:Int))]
 ·congr 1;rw[xF];obtain⟨a,b⟩:=q;obtain⟨a',b'⟩:=q';simp;omega
 ·intro f hf;simp only[iW,zLg,or_false] at hf;rcases hf with rfl|rfl
  ·exact⟨by decide,_,_,iM cJ.und rfl rfl,iM cJ.und rfl rfl,rH cJ.und⟩
  ·exact⟨by decide,_,_,iM aR.und rfl rfl,iM aR.und rfl rfl,rH aR.und⟩
def aR0{h:PH}{x y:Operand}(q q':Hd):cD PG h (fV .neq cM x y q.v q'.v)=some (.bool (!decide (q=q'))):=aKd (by kernel_rfl) (aZB (d:=9998) q q')
def aOo{h:PH}(size:Nat){k:cE}(hk:k (.bool (decide (gB size))) h):bT PG aEF #[.int .i64 (size:Int)] h k:=by
 apply aHt.call;unfold aHt;by_cases h1:64≤size
 ·have g1:((64:Int)≤(size:Int))=True:=eq_true (by omega);have e:decide ((size:Int)≤512)=decide (gB size):=by
   rw[xF,decide_eq_true_iff,decide_eq_true_iff];unfold gB;omega
  simp only[g1,cC,reduceIte,cI,Nat.reduceAdd];rw[e];exact hk
 ·have g1:((64:Int)≤(size:Int))=False:=eq_false (by omega);have e:decide (gB size)=false:=decide_eq_false (λx=>h1 x.1);rw[e] at hk;simp only[g1,cC,reduceIte,cI,Nat.reduceAdd];exact hk
def aPa{h:PH}(size:Nat)(x:Hd)(hg:x.gen<18446744073709551616)(hs:x.seg<1000000){k:cE}(hk:∀h',dA h h'->k (.tuple #[.string (tx (fO size x).1),.int .i64 (fO size x).2]) h'):bT PG aDx #[.int .i64 (size:Int),x.v] h k:=by
 apply aJ8.call;unfold aJ8;intro r1 hr1
 try rw[cR]
 have u1:dA h (h.set r1 (.cells (Value.cells x.v) cM)):=cX.new hr1;have B1:Bx (h.set r1 (.cells (Value.cells x.v) cM)) r1 x.cells:=Bx.new;generalize h.set r1 (.cells (Value.cells x.v) cM)=h1 at *;have bad:(¬gB size∨x.gen=0∨1<x.seg)->k (.tuple #[.string {data:=#[]},.int .i64 1]) h1:=λc=>by
  have e:fO size x=([],1):=by unfold fO;rw[if_pos c]
  have:=hk h1 u1;rw[e] at this;exact this
 refine aOo size ?_;have b0:cV h1 ⟨r1,0,none⟩=some (.int .u64 (x.gen:Int)):=B1.cell 0;have b1:cV h1 ⟨r1,0+1,none⟩=some (.int .i64 (x.seg:Int)):=B1.cell 1;by_cases c1:gB size
 ·have h64:=c1.1;have h512:=c1.2;by_cases c2:x.gen=0
  ·have q2:((x.gen:Int)==0)=true:=by simp[c2]
   simp only[c1,decide_true,cM.f0,cJ.load,b0,gA,q2,cC,reduceIte,cI,Nat.reduceAdd];exact bad (.inr (.inl c2))
  ·have q2:((x.gen:Int)==0)=false:=by rw[beq_eq_false_iff_ne];omega
   have g3:((x.seg:Int)<0)=False:=eq_false (by omega);by_cases c3:1<x.seg
   ·have g4:((1:Int)<(x.seg:Int))=True:=eq_true (by omega);simp only[c1,decide_true,cM.f0,cM.f1,cJ.load,aR.load,b0,b1,gA,q2,g3,g4,cC,reduceIte,cI,Nat.reduceAdd];exact bad (.inr (.inr c3))
   ·have g4:((1:Int)<(x.seg:Int))=False:=eq_false (by omega);have w14:IntKind.i64.wrap ((size:Int)-14)=((size-14:Nat):Int):=by rw[eB (by omega) (by omega)];omega
    have e:fO size x=(mQ (nM size x),0):=by unfold fO;rw[if_neg (by rintro(a|a|a);exact a c1;exact c2 a;exact c3 a)]
    rw[e] at hk;simp only[c1,decide_true,cM.f0,cM.f1,cJ.load,aR.load,b0,b1,gA,q2,g3,g4,cC,reduceIte,cI,Nat.reduceAdd];intro r45 hr45
    try rw[cR]
    have S0:=WN.start hr45;have u2:dA h1 (h1.set r45 (.cells (dJ PG fB) fB)):=cX.new hr45;generalize h1.set r45 (.cells (dJ PG fB) fB)=h2 at *;refine aPB (ys:=[72]) S0 (by simp) (by simp) λh3 F3 x3 e3 S3 K3=>?_;have c0:cV h3 ⟨r1,0,none⟩=some (.int .u64 (x.gen:Int)):=(B1.ext S3.upd).cell 0;simp only[cM.f0,cJ.load,c0,cC,reduceIte,cI,Nat.reduceAdd];refine aEO S3 (by rw[e3];simp) hg λh4 F4 x4 e4 S4 K4=>?_;have c1':cV h4 ⟨r1,0+1,none⟩=some (.int .i64 (x.seg:Int)):=(B1.ext S4.upd).cell 1;simp only[cM.f1,aR.load,c1',cC,reduceIte,cI,Nat.reduceAdd];refine aBQ S4 (by rw[e4,e3];simp[yO,hY]) (x.seg:Int) λh5 F5 x5 e5 S5 K5=>?_;have e5':x5=(0,[72]++(be x.gen 8++be x.seg 1)):=by
     rw[e5,e4,e3];unfold kQ yO;rw[if_pos ⟨by omega,by omega⟩];simp
    simp only[w14,cC,reduceIte,cI,Nat.reduceAdd];refine aKw (by omega) λh6 u6=>?_;refine aPB (WS.ext S5 u6) (by rw[e5'];simp[hY]) (by simp;omega) λh7 F7 x7 e7 S7 K7=>?_;refine aMI S7.at_ λh8 u8=>?_;have e7':x7=(0,nM size x):=by
     rw[e7,e5'];unfold nM kJ;simp only[uS]
    have eb:aDs (x7.1,x7.2)=(nM size x,0):=by
     rw[e7'];rfl
    rw[eb];have hl:(nM size x).length≤1000000:=by
     unfold nM;simp only[jM,hY,xD,iU,kV];omega
    simp only[cC,reduceIte,cI,Nat.reduceAdd];refine aRN _ hl λh9 u9=>?_;exact hk h9 ((u1.trans (S7.upd.fresh u8 S7.fresh)).trans u9)
 ·simp only[c1,decide_false,cC,reduceIte,cI,Nat.reduceAdd];exact bad (.inl c1)
def aW2{h:PH}(size:Nat)(s:Tx)(hs:s.length≤1000000){k:cE}(hk:∀h',dA h h'->k (.tuple #[(fI size s).1.v,.int .i64 (fI size s).2]) h'):bT PG aIz #[.int .i64 (size:Int),.string (tx s)] h k:=by
 apply aJ0.call;unfold aJ0;intro r1 hr1
 try rw[cR]
 have Z1:=cM.zbox (h:=h) (r:=r1);have u1:dA h (h.set r1 (.cells (dJ PG cM) cM)):=cX.new hr1;generalize h.set r1 (.cells (dJ PG cM) cM)=h1 at *;have f1:eD h [r1]:=eD.one hr1;have fin:∀{h':PH} (f:Hd) (e:Int),fI size s=(f,e)->(∃cs:List Value,cs.length=2∧Bx h' r1 cs)->dA h h'->cN PG (cP cM (pT r1 0) f.v) h' λ_ h8=>bY (cD PG h8 (loadAt cM (pT r1 0))) λv9=>k (.tuple #[v9,.int .i64 e]) h8:=by
  intro h' f e hr ⟨cs,hcs,B⟩ w;refine cM.put B (vs:=f.cells) (o:=0) rfl (by omega) f.isC λh2 B2 u2=>?_;rw[zLd,zLU,yQ (by omega),zLQ] at B2;simp only[wK B2,cC,reduceIte,cI,Nat.reduceAdd];have:=hk h2 (w.fresh u2 f1);rw[hr] at this;exact this
 have bad:∀{h':PH} (e:Int),fI size s=(Hd.zero,e)->(∃cs:List Value,cs.length=2∧Bx h' r1 cs)->dA h h'->cN PG (cP cM (pT r1 0) Hd.zero.v) h' λ_ h8=>bY (cD PG h8 (loadAt cM (pT r1 0))) λv9=>k (.tuple #[v9,.int .i64 e]) h8:=λe=>fin Hd.zero e;refine aOo size ?_;by_cases ok:gB size
 ·have h64:=ok.1;have h512:=ok.2;simp only[ok,decide_true,iV,eI,cC,reduceIte,cI,Nat.reduceAdd];by_cases hl:s.length=size
  ·have q:((s.length:Int) !=(size:Int))=false:=by simp[hl]
   simp only[q,cC,reduceIte,cI,Nat.reduceAdd];refine aQN s hs λh4 u4=>?_;have e4:=u1.trans u4;cases hsl:oE s with
   | false=>
    have er:fI size s=(Hd.zero,8):=by unfold fI;rw[if_neg (by simpa using ok),if_neg (by simpa using hl),if_pos hsl]
    simp only[aCQ,cC,reduceIte,cI,Nat.reduceAdd];exact bad 8 er ⟨_,rfl,Z1.ext u4⟩ e4
   | true=>
    have er:fI size s=if (fO size (vF s)).2=0∧(fO size (vF s)).1=s then(vF s,0) else(Hd.zero,5):=by
     unfold fI;rw[if_neg (by simpa using ok),if_neg (by simpa using hl),if_neg (by simp[hsl])]
    have c1:cB PG (Instr.sliceAt aT (.string (tx s)) (some (.int .i64 1)) none none)=some (.string (tx (s.drop 1))):=by
     have:=kD (P:=PG) (t:=aT) (l:=s) (i:=1) (j:=s.length) (lo:=some (.int .i64 1)) (hi:=none) aT.und (.inr ⟨_,rfl⟩) (.inl ⟨rfl,rfl⟩) (by omega) (lM _);rw[this,zLJ]
    simp only[c1,cC,reduceIte,cI,Nat.reduceAdd];refine aIA (s.drop 1) λa h5 R5 u5 ha=>?_;have n1a:r1≠a:=(Z1.ext u4).apart ha;have fa:eD h [a]:=eD.one (e4.none ha);refine aB5 R5 λh6 R6 u6=>?_;refine aAw R6 λh7 R7 u7=>?_;show bY (cB PG (build cM #[(0,.int .u64 ((vF s).gen:Int)),(1,.int .i64 ((vF s).seg:Int))])) _;have u67:=u6.trans u7;have Z7:=((Z1.ext u4).ext u5).upd u67 (by simpa using n1a);have e7:=(e4.trans u5).fresh u67 fa;simp only[aXU,cC,reduceIte,cI,Nat.reduceAdd];intro r31 hr31
    try rw[cR]
    refine cM.fill (vs:=(vF s).cells) hr31 rfl (vF s).isC λh8 B8 u8=>?_;have e8:=e7.trans u8;have lt1:(vF s).gen<18446744073709551616:=wX (0,s.drop 1) 8;have lt2:(vF s).seg<256:=wX (fK (0,s.drop 1) 8).2 1;simp only[wK B8,cC,reduceIte,cI,Nat.reduceAdd];refine aPa size (vF s) lt1 (by omega) λh9 u9=>?_;have Zx:∃cs:List Value,cs.length=2∧Bx h9 r1 cs:=⟨_,rfl,(Z7.ext u8).ext u9⟩;have e9:=e8.trans u9;by_cases c2:(fO size (vF s)).2=0
    ·have q2:((fO size (vF s)).2 !=0)=false:=by simp[c2]
     by_cases c3:(fO size (vF s)).1=s
     ·have q3:decide ((fO size (vF s)).1=s)=true:=decide_eq_true c3;simp only[eI,q2,aLd,q3,wK (B8.ext u9),cC,reduceIte,cI,Nat.reduceAdd];exact fin (vF s) 0 (by rw[er,if_pos ⟨c2,c3⟩]) Zx e9
     ·have q3:decide ((fO size (vF s)).1=s)=false:=decide_eq_false c3;simp only[eI,q2,aLd,q3,aCQ,cC,reduceIte,cI,Nat.reduceAdd];exact bad 5 (by rw[er,if_neg (λx=>c3 x.2)]) Zx e9
    ·have q2:((fO size (vF s)).2 !=0)=true:=by simp[c2]
     simp only[eI,q2,aCQ,cC,reduceIte,cI,Nat.reduceAdd];exact bad 5 (by rw[er,if_neg (λx=>c2 x.1)]) Zx e9
  ·have q:((s.length:Int) !=(size:Int))=true:=by
    rw[bne_iff_ne];omega
   have er:fI size s=(Hd.zero,6):=by unfold fI;rw[if_neg (by simpa using ok),if_pos hl]
   simp only[q,aCQ,cC,reduceIte,cI,Nat.reduceAdd];exact bad 6 er ⟨_,rfl,Z1⟩ u1
 ·have er:fI size s=(Hd.zero,1):=by unfold fI;rw[if_pos ok]
  simp only[ok,decide_false,aCQ,cC,reduceIte,cI,Nat.reduceAdd];exact bad 1 er ⟨_,rfl,Z1⟩ u1
def aGD(size:Nat)(x y:Tx):Nat->Hd×Int
 | 0=>(Hd.zero,-1)
 | 1=>nP (Hd.zero,-1) 0 (fI size x).1
 | _=>jX size x y
def aTv{h:PH}{v:Value}(size:Nat)(x y:Tx)(S:iH h 1 v ([x,y].map jI))(hx:x.length≤1000000)(hy:y.length≤1000000){k:cE}(hk:∀h',dA h h'->k (.tuple #[(jX size x y).1.v,.int .i64 (jX size x y).2]) h'):bT PG aGM #[.int .i64 (size:Int),v] h k:=by
 apply aGV.call;unfold aGV;intro r1 hr1
 try rw[cR]
 have Z1:=cM.zbox (h:=h) (r:=r1);have u1:dA h (h.set r1 (.cells (dJ PG cM) cM)):=cX.new hr1;generalize h.set r1 (.cells (dJ PG cM) cM)=h1 at *;simp only[aCQ,cC,reduceIte,cI,Nat.reduceAdd];intro r4 hr4
 try rw[cR]
 refine cM.fill (vs:=Hd.zero.cells) hr4 rfl Hd.zero.isC λh2 B2 u2=>?_;have Z2:=Z1.ext u2;have n14:r1≠r4:=Z1.apart hr4;have e2:=u1.trans u2;have f1:eD h [r1]:=eD.one hr1;have f4:eD h [r4]:=eD.one (u1.none hr4);have lv:cB PG (Builtin.len_ #[dD] aR #[v])=some (.int .i64 2):=aAK S;simp only[lv,cC,reduceIte,cI,Nat.reduceAdd];refine⟨λvs h'=>∃i:Nat,i≤2∧vs=[.int .i64 (size:Int),pT r1 0,pT r4 0,.int .i64 (aGD size x y i).2,v,.int .i64 2,.int .i64 (i:Int)]∧Bx h' r4 (aGD size x y i).1.cells∧(∃cs:List Value,cs.length=2∧Bx h' r1 cs)∧dA h h',fT 2 6,⟨0,by omega,rfl,B2,⟨_,rfl,Z2⟩,e2⟩,?_⟩;rintro ρ h' ⟨i,hi,hvs,B,⟨cs,hcs,Zb⟩,w⟩;simp only[iG,jB,kZ,and_true] at hvs;obtain⟨x0,x4,x6,x7,x13,x14,x15⟩:=hvs;unfold aIV;rw[x0,x4,x6,x7,x13,x14,x15];by_cases hlt:i<2
 ·have g:((i:Int)<2)=True:=eq_true (by omega);have gi:=nR (i:=i) (by omega);obtain⟨s,hs⟩:∃s,[x,y][i]? =some s:=⟨_,kF (show i<[x,y].length from hlt)⟩;have hsl:s.length≤1000000:=by
   have:=zX hs;simp only[iW,zLg,or_false] at this;rcases this with rfl|rfl<;>assumption
  obtain⟨a,i1,i2⟩:=aJB (S.ext w) hs;have step:aGD size x y (i+1)=nP (aGD size x y i) (i:Int) (fI size s).1:=by
   have:i=0∨i=1:=by omega
   rcases this with rfl|rfl
   ·simp at hs;subst hs;rfl
   ·simp at hs;subst hs;rfl
  simp only[g,i1,i2,cC,reduceIte,cI,Nat.reduceAdd];refine aW2 size s hsl λh3 u3=>?_;simp only[cC,reduceIte,cI,Nat.reduceAdd];intro r18 hr18
  try rw[cR]
  refine cM.fill (vs:=(fI size s).1.cells) hr18 rfl (fI size s).1.isC λh5 B5 u5=>?_;have e5:=(w.trans u3).trans u5;have D4:=(B.ext u3).ext u5;have D1:=(Zb.ext u3).ext u5;have b0:cV h5 ⟨r18,0,none⟩=some (.int .u64 ((fI size s).1.gen:Int)):=B5.cell 0;have c0:cV h5 ⟨r4,0,none⟩=some (.int .u64 ((aGD size x y i).1.gen:Int)):=D4.cell 0;by_cases c1:(fI size s).1=Hd.zero
  ·have q1:decide ((fI size s).1=Hd.zero)=true:=decide_eq_true c1;have en:aGD size x y (i+1)=aGD size x y i:=by rw[step];exact if_neg (λz=>z.1 c1)
   simp only[wK B5,aCQ,aR0,q1,cC,reduceIte,cI,Nat.reduceAdd];unfold aAX aCt;simp only[gi,cC,reduceIte,cI,Nat.reduceAdd];rw[←en];rw[←en] at D4;exact⟨⟨i+1,by omega,rfl,D4,⟨cs,hcs,D1⟩,e5⟩,by simp[fT,x15];omega⟩
  ·have q1:decide ((fI size s).1=Hd.zero)=false:=decide_eq_false c1;by_cases c2:(aGD size x y i).1.gen<(fI size s).1.gen
   ·have g2:(((aGD size x y i).1.gen:Int)<((fI size s).1.gen:Int))=True:=eq_true (by omega);have en:aGD size x y (i+1)=((fI size s).1,(i:Int)):=by rw[step];exact if_pos ⟨c1,c2⟩
    simp only[wK B5,aCQ,aR0,q1,cM.f0,cJ.load,b0,c0,g2,cC,reduceIte,cI,Nat.reduceAdd];refine cM.put D4 (vs:=(fI size s).1.cells) (o:=0) rfl (by show 0+2≤2;decide) (fI size s).1.isC λh6 B6 u6=>?_;have B6:Bx h6 r4 (fI size s).1.cells:=B6;unfold aAX aCt;simp only[gi,cC,reduceIte,cI,Nat.reduceAdd];exact⟨⟨i+1,by omega,by rw[en],by rw[en];exact B6,⟨cs,hcs,D1.upd u6 (by simpa using n14)⟩,e5.fresh u6 f4⟩,by simp[fT,x15];omega⟩
   ·have g2:(((aGD size x y i).1.gen:Int)<((fI size s).1.gen:Int))=False:=eq_false (by omega);have en:aGD size x y (i+1)=aGD size x y i:=by rw[step];exact if_neg (λz=>c2 z.2)
    simp only[wK B5,aCQ,aR0,q1,cM.f0,cJ.load,b0,c0,g2,cC,reduceIte,cI,Nat.reduceAdd];unfold aAX aCt;simp only[gi,cC,reduceIte,cI,Nat.reduceAdd];rw[←en];rw[←en] at D4;exact⟨⟨i+1,by omega,rfl,D4,⟨cs,hcs,D1⟩,e5⟩,by simp[fT,x15];omega⟩
 ·have g:((i:Int)<2)=False:=eq_false (by omega);obtain rfl:i=2:=by omega
  have B:Bx h' r4 (jX size x y).1.cells:=B;simp only[g,wK B,cC,reduceIte,cI,Nat.reduceAdd];refine cM.put Zb (vs:=(jX size x y).1.cells) (o:=0) rfl (by omega) (jX size x y).1.isC λh6 B6 u6=>?_;rw[zLd,zLU,yQ (by omega),zLQ] at B6;simp only[wK B6,cC,reduceIte,cI,Nat.reduceAdd];exact hk h6 (w.fresh u6 f1)
def aV9{h:PH}(x:Hd)(hg:x.gen<18446744073709551616){k:cE}(hk:∀h',dA h h'->k (.tuple #[(gT x).1.v,.int .i64 (gT x).2]) h'):bT PG aIK #[x.v] h k:=by
 apply aIq.call;unfold aIq;intro r1 hr1
 try rw[cR]
 have u1:dA h (h.set r1 (.cells (Value.cells x.v) cM)):=cX.new hr1;have B1:Bx (h.set r1 (.cells (Value.cells x.v) cM)) r1 x.cells:=Bx.new;generalize h.set r1 (.cells (Value.cells x.v) cM)=h1 at *;intro r3 hr3
 try rw[cR]
 have Z3:=cM.zbox (h:=h1) (r:=r3);have u3:dA h1 (h1.set r3 (.cells (dJ PG cM) cM)):=cX.new hr3;have C1:=B1.ext u3;generalize h1.set r3 (.cells (dJ PG cM) cM)=h3 at *;have e3:=u1.trans u3;have f3:eD h [r3]:=eD.one (u1.none hr3);have b0:cV h3 ⟨r1,0,none⟩=some (.int .u64 (x.gen:Int)):=C1.cell 0;have fin:∀{h':PH} (f:Hd) (e:Int),gT x=(f,e)->(∃cs:List Value,cs.length=2∧Bx h' r3 cs)->dA h h'->cN PG (cP cM (pT r3 0) f.v) h' λ_ h8=>bY (cD PG h8 (loadAt cM (pT r3 0))) λv9=>k (.tuple #[v9,.int .i64 e]) h8:=by
  intro h' f e hr ⟨cs,hcs,B⟩ w;refine cM.put B (vs:=f.cells) (o:=0) rfl (by omega) f.isC λh2 B2 u2=>?_;rw[zLd,zLU,yQ (by omega),zLQ] at B2;simp only[wK B2,cC,reduceIte,cI,Nat.reduceAdd];have:=hk h2 (w.fresh u2 f3);rw[hr] at this;exact this
 by_cases c:x.gen=18446744073709551615
 ·have q:((x.gen:Int)==18446744073709551615)=true:=by rw[beq_iff_eq];omega
  simp only[cM.f0,cJ.load,b0,gA,q,aCQ,cC,reduceIte,cI,Nat.reduceAdd];exact fin Hd.zero 12 (by unfold gT;rw[if_pos c]) ⟨_,rfl,Z3⟩ e3
 ·have q:((x.gen:Int)==18446744073709551615)=false:=by rw[beq_eq_false_iff_ne];omega
  have wg:IntKind.u64.wrap ((x.gen:Int)+1)=((x.gen+1:Nat):Int):=by rw[kI (by omega) (by omega)];omega
  simp only[cM.f0,cJ.load,b0,gA,q,wg,aRR,cC,reduceIte,cI,Nat.reduceAdd];intro r16 hr16
  try rw[cR]
  refine cM.fill (vs:=Hd.cells ⟨x.gen+1,0⟩) hr16 rfl (Hd.isC _) λh5 B5 u5=>?_;have b1:cV h5 ⟨r1,0+1,none⟩=some (.int .i64 (x.seg:Int)):=(C1.ext u5).cell 1;have n316:r3≠r16:=Z3.apart hr16;have e5:=e3.trans u5;by_cases c2:x.seg=0
  ·have q2:((x.seg:Int)==0)=true:=by simp[c2]
   simp only[cM.f1,aR.load,b1,gA,q2,cC,reduceIte,cI,Nat.reduceAdd];refine aR.put (o:=1) B5 (by show 1<2;decide) rfl λh6 B6 u6=>?_;have B6:Bx h6 r16 (Hd.cells ⟨x.gen+1,1⟩):=B6;unfold aEJ;simp only[wK B6,cC,reduceIte,cI,Nat.reduceAdd];exact fin ⟨x.gen+1,1⟩ 0 (by unfold gT;rw[if_neg c,if_pos c2]) ⟨_,rfl,(Z3.ext u5).upd u6 (by simpa using n316)⟩ (e5.fresh u6 (eD.one (e3.none hr16)))
  ·have q2:((x.seg:Int)==0)=false:=by rw[beq_eq_false_iff_ne];omega
   simp only[cM.f1,aR.load,b1,gA,q2,cC,reduceIte,cI,Nat.reduceAdd];unfold aEJ;simp only[wK B5,cC,reduceIte,cI,Nat.reduceAdd];exact fin ⟨x.gen+1,0⟩ 0 (by unfold gT;rw[if_neg c,if_neg c2]) ⟨_,rfl,Z3.ext u5⟩ e5
structure SpJ(h0 h:PH)(l:Nat)(rec:Loop)(r1 r3 r5 r11 rm rs r17:Nat)(size gen ser parts:Nat)(t:Tx)(out:List Tx)(v:Value)(F:List Nat):Prop where
 loop:h l=some (.loop rec)
 b1:Bx h r1 [.int .i64 (size:Int)]
 b3:Bx h r3 [.int .u64 (gen:Int)]
 b5:Bx h r5 [.int .u64 (ser:Int)]
 b11:Bx h r11 [.int .i64 (parts:Int)]
 bm:Bx h rm [.int .i64 ((size-25:Nat):Int)]
 bs:Bx h rs [.string (tx t)]
 b17:Bx h r17 [v]
 own:eH h aT 1 v (out.map jI) F
 fresh:eD h0 F
 apart:∀b∈F,b∉[l,r1,r3,r5,r11,rm,rs,r17]
 ext:dA h0 h
 fl:h0 l=none
 f17:h0 r17=none
 fs:h0 rs=none
def gO{h:PH}{r:Nat}{v:Value}(B:Bx h r [v]):cV h ⟨r,0,none⟩=some v:=B.cell 0
def nd8{l r1 r3 r5 r11 rm rs r17:Nat}(hn: [l,r1,r3,r5,r11,rm,rs,r17].Nodup):(r1∉[l]∧r3∉[l]∧r5∉[l]∧r11∉[l]∧rm∉[l]∧rs∉[l]∧r17∉[l])∧(l∉[r17]∧r1∉[r17]∧r3∉[r17]∧r5∉[r17]∧r11∉[r17]∧rm∉[r17]∧rs∉[r17])∧(l∉[rs]∧r1∉[rs]∧r3∉[rs]∧r5∉[rs]∧r11∉[rs]∧rm∉[rs]∧r17∉[rs]):=by
 simp only[aF7,iW,zLg,or_false,not_or,List.nodup_nil,and_true] at hn;simp only[iC];obtain⟨⟨l1,l3,l5,l11,lm,ls,l17⟩,⟨a3,a5,a11,am,a_s,a17⟩,⟨c5,c11,cm,cs,c17⟩,⟨d11,dm,ds,d17⟩,⟨em,es,e17⟩,⟨fs,f17⟩,g17,-⟩:=hn;exact⟨⟨Ne.symm l1,Ne.symm l3,Ne.symm l5,Ne.symm l11,Ne.symm lm,Ne.symm ls,Ne.symm l17⟩,⟨l17,a17,c17,d17,e17,f17,g17⟩,⟨ls,a_s,cs,ds,es,fs,Ne.symm g17⟩⟩
def aUb{h0 h:PH}{l:Nat}{rec:Loop}{fn:FuncId}{tmps:Array Value}{D:Nat}{r1 r3 r5 r11 rm rs r17 size gen ser parts:Nat}{t:Tx}{out:List Tx}{v:Value}{F:List Nat}(ok:gB size)(g1:gen<18446744073709551616)(g2:ser<18446744073709551616)
  (hrec:rec= {state:=.ready,pending:=none,fn,tmps,params:=#[27,28],assign:=mP,body:=lX,defers:=D}) (hsz:tmps.size=57) (t4:tmps.getD 4 undef=pT r1 0) (t5:tmps.getD 5 undef=pT r3 0) (t6:tmps.getD 6 undef=pT r5 0) (t10:tmps.getD 10 undef=pT r11 0) (t11:tmps.getD 11 undef=pT r17 0)
  (hn: [l,r1,r3,r5,r11,rm,rs,r17].Nodup) (J:SpJ h0 h l rec r1 r3 r5 r11 rm rs r17 size gen ser parts t out v F) {i:Nat} {p:Tx} (hi:i<256) (hpa:parts<256) (hp:p.length+25≤size) (ho:out.length≤1000) {k:cE}
  (hk:∀h' v' F',SpJ h0 h' l rec r1 r3 r5 r11 rm rs r17 size gen ser parts t (out++[nC size gen ser i parts p]) v' F'->k (.bool true) h'):
  zI PG (aGi l) #[.int .i64 (i:Int),.string (tx p)] h k:=by
 have h64:=ok.1;have h512:=ok.2;obtain⟨⟨nl1,nl3,nl5,nl11,nlm,nls,nl17⟩,⟨m0,m1,m3,m5,m11,mm,ms⟩,⟨s0,s1,s3,s5,s11,sm,s17⟩⟩:=nd8 hn;refine aPU J.loop (by rw[hrec];rfl) ?_;have e1:rec.assign=mP:=by rw[hrec]
 have e2:rec.body=lX:=by rw[hrec]
 have e3:(rec.params.zip #[.int .i64 (i:Int),.string (tx p)]).foldl (λtmps (t,a)=>tmps.setIfInBounds t a) rec.tmps=(tmps.setIfInBounds 27 (.int .i64 (i:Int))).setIfInBounds 28 (.string (tx p)):=by rw[hrec];simp
 rw[e1,e2,e3];refine tZ.next (by simpa using hsz) ?_;have gd:∀j,j≠27->j≠28->((tmps.setIfInBounds 27 (.int .i64 (i:Int))).setIfInBounds 28 (.string (tx p))).getD j undef=tmps.getD j undef:=λj a b=>by
  simp[aFH,Array.getElem?_setIfInBounds,Ne.symm a,Ne.symm b]
 have t27:((tmps.setIfInBounds 27 (.int .i64 (i:Int))).setIfInBounds 28 (.string (tx p))).getD 27 undef= .int .i64 (i:Int):=by
  simp[aFH,Array.getElem?_setIfInBounds,hsz]
 have t28:((tmps.setIfInBounds 27 (.int .i64 (i:Int))).setIfInBounds 28 (.string (tx p))).getD 28 undef= .string (tx p):=by
  simp[aFH,Array.getElem?_setIfInBounds,hsz]
 rw[gd 4 (by decide) (by decide),gd 5 (by decide) (by decide),gd 6 (by decide) (by decide),gd 10 (by decide) (by decide),gd 11 (by decide) (by decide),t27,t28,t4,t5,t6,t10,t11];unfold tZ;refine aPz J.loop (by rw[hrec]) ?_;have u1:cX [l] h (h.set l (.loop {rec with state:=.busy})):=cX.set (by simp);have bl1:(h.set l (.loop {rec with state:=.busy})) l=some (.loop {rec with state:=.busy}):=eN;generalize h.set l (.loop {rec with state:=.busy})=h1 at *;have B1:=J.b1.upd u1 nl1;have B3:=J.b3.upd u1 nl3;have B5:=J.b5.upd u1 nl5;have B11:=J.b11.upd u1 nl11;have Bm:=J.bm.upd u1 nlm;have Bs:=J.bs.upd u1 nls;have B17:=J.b17.upd u1 nl17;have apart:=J.apart;have O1:=J.own.upd u1 (λb hb hm=>apart b hb (by simp only[iC] at hm;simp[hm]));intro r24 hr24
 try rw[cR]
 have S0:=WN.start hr24;generalize h1.set r24 (.cells (dJ PG fB) fB)=h2 at *;refine aPB (ys:=[82]) S0 (by simp) (by simp) λh3 F3 x3 e3 S3 K3=>?_;simp only[cJ.load,gO (B3.ext S3.upd),cC,reduceIte,cI,Nat.reduceAdd];refine aEO S3 (by rw[e3];simp) g1 λh4 F4 x4 e4 S4 K4=>?_;simp only[cJ.load,gO (B5.ext S4.upd),cC,reduceIte,cI,Nat.reduceAdd];refine aEO S4 (by rw[e4,e3];simp[yO,hY]) g2 λh5 F5 x5 e5 S5 K5=>?_;refine aBQ S5 (by rw[e5,e4,e3];simp[yO,hY]) (i:Int) λh6 F6 x6 e6 S6 K6=>?_;have e6':x6=(0,[82]++(be gen 8++(be ser 8++be i 1))):=by
  rw[e6,e5,e4,e3];unfold kQ yO;rw[if_pos ⟨by omega,by omega⟩];simp
 simp only[aR.load,gO (B11.ext S6.upd),cC,reduceIte,cI,Nat.reduceAdd];refine aBQ S6 (by rw[e6'];simp[hY]) (parts:Int) λh7 F7 x7 e7 S7 K7=>?_;have e7':x7=(0,[82]++(be gen 8++(be ser 8++(be i 1++be parts 1)))):=by
  rw[e7,e6'];unfold kQ;rw[if_pos ⟨by omega,by omega⟩];simp
 refine aS2 S7 (by rw[e7'];simp[hY]) p λh8 F8 x8 e8 S8 K8=>?_;have e8':x8=(0,[82]++(be gen 8++(be ser 8++(be i 1++(be parts 1++(be p.length 2++p)))))):=by
  rw[e8,e7'];unfold aFe;rw[if_pos (by omega)];simp
 have w1:IntKind.i64.wrap ((size:Int)-25)=((size-25:Nat):Int):=by rw[eB (by omega) (by omega)];omega
 have w2:IntKind.i64.wrap (((size-25:Nat):Int)-(p.length:Int))=((size-25-p.length:Nat):Int):=by rw[eB (by omega) (by omega)];omega
 simp only[aR.load,gO (B1.ext S8.upd),w1,iV,w2,cC,reduceIte,cI,Nat.reduceAdd];refine aKw (by omega) λh9 u9=>?_;refine aPB (WS.ext S8 u9) (by rw[e8'];simp[hY];omega) (by simp;omega) λh10 F10 x10 e10 S10 K10=>?_;refine aMI S10.at_ λh11 u11=>?_;have e10':x10=(0,mX size gen ser i parts p):=by
  rw[e10,e8'];unfold mX kJ;simp only[uS]
 have eb:aDs (x10.1,x10.2)=(mX size gen ser i parts p,0):=by
  rw[e10'];rfl
 have w11:dA h1 h11:=S10.upd.fresh u11 S10.fresh;rw[eb];have hbl:=aGe (size:=size) (gen:=gen) (ser:=ser) (k:=i) (parts:=parts) hp;simp only[dD.load,gO (B17.ext w11),cC,reduceIte,cI,Nat.reduceAdd];refine aRN _ (by omega) λh12 u12=>?_;have w12:=w11.trans u12;refine⟨gO (B17.ext w12),?_⟩;simp only[aGX,cC,reduceIte,cI,Nat.reduceAdd];intro r56 hr56;refine iB ?_
 try rw[cR]
 have S1:=(aGE (h:=h12) (r:=r56) (mQ (mX size gen ser i parts p))).slR;have u13:dA h12 (h12.set r56 (.cells #[.string (tx (mQ (mX size gen ser i parts p)))] aT)):=cX.new hr56;generalize h12.set r56 (.cells #[.string (tx (mQ (mX size gen ser i parts p)))] aT)=h13 at *;have w13:=w12.trans u13;have O13:=O1.ext w13;refine lV dD.und dD.und aT.info aT.size aT.bytes aT.zero rfl (by decide) O13 S1 (by simp[fL]) (by simp only[iL,iU,kV];omega) ?_;intro v14 h14 F14 O14 u14 g14 _;have O14:eH h14 aT 1 v14 ((out++[nC size gen ser i parts p]).map jI) F14:=by rw[xJ];exact O14
 have kn:∀b,h1 b≠none->h13 b≠none:=λb hb=>by
  cases e:h1 b with
  | none=>exact absurd e hb
  | some o=>rw[w13.get e];simp
 have notF:∀b∈[l,r1,r3,r5,r11,rm,rs,r17],b∉F14:=λb hb hm=>by
  rcases g14 b hm with h1'|h1'
  ·exact apart b h1' hb
  ·simp only[iW,zLg,or_false] at hb;rcases hb with rfl|rfl|rfl|rfl|rfl|rfl|rfl|rfl
   ·exact kn _ (by rw[bl1];simp) h1'
   ·exact kn _ B1.known h1'
   ·exact kn _ B3.known h1'
   ·exact kn _ B5.known h1'
   ·exact kn _ B11.known h1'
   ·exact kn _ Bm.known h1'
   ·exact kn _ Bs.known h1'
   ·exact kn _ B17.known h1'
 have aF:∀b∈[l,r1,r3,r5,r11,rm,rs,r17],b∉F:=λb hb hm=>apart b hm hb;have C:∀{r:Nat} {cs:List Value},r∈[l,r1,r3,r5,r11,rm,rs,r17]->Bx h1 r cs->Bx h14 r cs:=λhr B=>(B.ext w13).upd u14 (aF _ hr);have B17':=C (by simp) B17;refine dD.put B17' (o:=0) (by show 0<1;decide) O14.slR.isc λh15 B15 u15=>?_;have B15:Bx h15 r17 [v14]:=B15;have bl15:h15 l=some (.loop {rec with state:=.busy}):=u15.get (u14.get (w13.get bl1) (aF l (by simp))) m0;refine aTE bl15 ?_;have u16:cX [l] h15 (h15.set l (.loop {{rec with state:=.busy} with state:=if (none:Option Code).isNone then .ready else .done,pending:=none})):=cX.set (by simp);have bl16:(h15.set l (.loop {{rec with state:=.busy} with state:=if (none:Option Code).isNone then .ready else .done,pending:=none})) l=some (.loop rec):=by rw[eN,hrec];rfl
 generalize h15.set l (.loop {{rec with state:=.busy} with state:=if (none:Option Code).isNone then .ready else .done,pending:=none})=h16 at *;have D:∀{r:Nat} {cs:List Value},r∈[l,r1,r3,r5,r11,rm,rs,r17]->r∉[r17]->r∉[l]->Bx h1 r cs->Bx h16 r cs:=λhr h17 hl B=>((C hr B).upd u15 h17).upd u16 hl;have fF14:eD h0 F14:=λb hb=>by
  rcases g14 b hb with h2|h2
  ·exact J.fresh b h2
  ·cases e:h0 b with
   | none=>rfl
   | some o=>
    exfalso;have e1:=J.ext.get e;by_cases hbl:b=l
    ·exact notF l (by simp) (hbl▸hb)
    ·exact kn b (by rw[u1.get e1 (by simpa using hbl)];simp) h2
 refine hk h16 v14 F14 ⟨bl16,D (by simp) m1 nl1 B1,D (by simp) m3 nl3 B3,D (by simp) m5 nl5 B5,D (by simp) m11 nl11 B11,D (by simp) mm nlm Bm,D (by simp) ms nls Bs,B15.upd u16 nl17,(O14.upd u15 (λb hb hm=>by
  simp only[iC] at hm;exact notF r17 (by simp) (hm▸hb))).upd u16 (λb hb hm=>by
  simp only[iC] at hm;exact notF l (by simp) (hm▸hb)),fF14,λb hb hm=>notF b hm hb,((((J.ext.fresh u1 (eD.one J.fl)).trans w13).fresh u14 J.fresh).fresh u15 (eD.one J.f17)).fresh u16 (eD.one J.fl),J.fl,J.f17,J.fs⟩
def aWt{h0 h:PH}{l:Nat}{rec:Loop}{fn:FuncId}{tmps:Array Value}{D:Nat}{r1 r3 r5 r11 rm rs r17 size gen ser:Nat}{s:Tx}{v:Value}{F:List Nat}(ok:gB size)(hs:s.length≤4096)(g1:gen<18446744073709551616)(g2:ser<18446744073709551616)
  (hrec:rec= {state:=.ready,pending:=none,fn,tmps,params:=#[27,28],assign:=mP,body:=lX,defers:=D}) (hsz:tmps.size=57) (t4:tmps.getD 4 undef=pT r1 0) (t5:tmps.getD 5 undef=pT r3 0) (t6:tmps.getD 6 undef=pT r5 0) (t10:tmps.getD 10 undef=pT r11 0) (t11:tmps.getD 11 undef=pT r17 0)
  (hn: [l,r1,r3,r5,r11,rm,rs,r17].Nodup) (J:SpJ h0 h l rec r1 r3 r5 r11 rm rs r17 size gen ser (dL size s.length) s [] v F) {k:cE}
  (hk:∀h' v' F' t,SpJ h0 h' l rec r1 r3 r5 r11 rm rs r17 size gen ser (dL size s.length) t (fR size gen ser s) v' F'->k (.tuple #[]) h'):
  bT PG aCf #[aGi l,pT rm 0,pT rs 0] h k:=by
 have h64:=ok.1;have h512:=ok.2;have h106:=aIf (n:=s.length) ok;have hp1:=tL (n:=s.length) ok hs;obtain⟨⟨nl1,nl3,nl5,nl11,nlm,nls,nl17⟩,⟨m0,m1,m3,m5,m11,mm,ms⟩,⟨s0,s1,s3,s5,s11,sm,s17⟩⟩:=nd8 hn;apply aFo.call;unfold aFo;refine⟨λvs h'=>∃(i:Nat) (v':Value) (F':List Nat),i<dL size s.length∧vs=[aGi l,pT rm 0,pT rs 0,.int .i64 (i:Int)]∧SpJ h0 h' l rec r1 r3 r5 r11 rm rs r17 size gen ser (dL size s.length) (s.drop (i*(size-25))) ((fR size gen ser s).take i) v' F',fT 200 3,⟨0,v,F,by omega,rfl,by simpa using J⟩,?_⟩;rintro ρ h' ⟨i,v',F',hi,hvs,J'⟩;simp only[iG,jB,kZ,and_true] at hvs;obtain⟨x0,x1,x2,x4⟩:=hvs;unfold aIr;rw[x0,x1,x2,x4];obtain⟨pl1,pl2,pl3,pl4⟩:=aGg ok hs hi;have hmin:(if ((s.drop (i*(size-25))).length:Int)<((size-25:Nat):Int) then((s.drop (i*(size-25))).length:Int) else((size-25:Nat):Int))=(((jJ (size-25) s i).length:Nat):Int):=by
  unfold jJ;rw[lU];split<;>omega
 have hle:(jJ (size-25) s i).length≤(s.drop (i*(size-25))).length:=by
  unfold jJ;rw[lU];omega
 have c:cB PG (Instr.sliceAt aT (.string (tx (s.drop (i*(size-25))))) none (some (.int .i64 (((jJ (size-25) s i).length:Nat):Int))) none)=some (.string (tx (jJ (size-25) s i))):=by
  have:=kD (P:=PG) (t:=aT) (l:=s.drop (i*(size-25))) (i:=0) (j:=(jJ (size-25) s i).length) (lo:=none) (hi:=some (.int .i64 (((jJ (size-25) s i).length:Nat):Int))) aT.und (.inl ⟨rfl,rfl⟩) (.inr ⟨_,rfl⟩) (by omega) hle;rw[this,zLb];congr 3;unfold jJ;rw[lU,Nat.min_comm];by_cases q:(s.drop (i*(size-25))).length≤size-25
  ·rw[aG6 q,zLJ,sK q]
  ·rw[Nat.min_eq_right (by omega)]
 simp only[aR.load,aT.load,gO J'.bm,gO J'.bs,iV,aLW,hmin,c,cC,reduceIte,cI,Nat.reduceAdd];refine aUb ok g1 g2 hrec hsz t4 t5 t6 t10 t11 hn J' (i:=i) (p:=jJ (size-25) s i) (by omega) (by omega) pl1 (by rw[lU];omega) λh2 v2 F2 J2=>?_;have et:(fR size gen ser s).take i++[nC size gen ser i (dL size s.length) (jJ (size-25) s i)]=(fR size gen ser s).take (i+1):=by
  rw[zLR];have:(fR size gen ser s)[i]? =some (nC size gen ser i (dL size s.length) (jJ (size-25) s i)):=by
   unfold fR;rw[wG,List.getElem?_range hi];rfl
  rw[this];rfl
 rw[et] at J2;have hdl:(s.drop (i*(size-25))).length=s.length-i*(size-25):=jC;have epl:(jJ (size-25) s i).length=min (size-25) (s.length-i*(size-25)):=by
  unfold jJ;rw[lU,hdl]
 have hm:(i+1)*(size-25)=i*(size-25)+(size-25):=Nat.succ_mul _ _;by_cases cl:i+1=dL size s.length
 ·have q:((((jJ (size-25) s i).length:Nat):Int)==((s.drop (i*(size-25))).length:Int))=true:=by
   have:=(aDN ok hs cl).1;rw[beq_iff_eq];omega
  simp only[aT.load,gO J2.bs,iV,gA,q,cC,reduceIte,cI,Nat.reduceAdd];rw[cl,sK (by rw[iN];exact lM _)] at J2;exact hk h2 v2 F2 _ J2
 ·have h3:=aDQ (k:=i) ok hs (by omega);have q:((((jJ (size-25) s i).length:Nat):Int)==((s.drop (i*(size-25))).length:Int))=false:=by
   rw[beq_eq_false_iff_ne];omega
  have ep:(jJ (size-25) s i).length=size-25:=by omega
  have gi:=nR (i:=i) (by omega);have c2:cB PG (Instr.sliceAt aT (.string (tx (s.drop (i*(size-25))))) (some (.int .i64 (((jJ (size-25) s i).length:Nat):Int))) none none)=some (.string (tx (s.drop ((i+1)*(size-25))))):=by
   have:=kD (P:=PG) (t:=aT) (l:=s.drop (i*(size-25))) (i:=(jJ (size-25) s i).length) (j:=(s.drop (i*(size-25))).length) (lo:=some (.int .i64 (((jJ (size-25) s i).length:Nat):Int))) (hi:=none) aT.und (.inr ⟨_,rfl⟩) (.inl ⟨rfl,rfl⟩) hle (lM _);rw[this,zLJ,qK,ep,hm]
  simp only[aT.load,gO J2.bs,iV,gA,q,c2,cC,reduceIte,cI,Nat.reduceAdd];refine aT.put J2.bs (o:=0) (by show 0<1;decide) rfl λh3 B3 u3=>?_;have B3:Bx h3 rs [.string (tx (s.drop ((i+1)*(size-25))))]:=B3;simp only[gi,cC,reduceIte,cI,Nat.reduceAdd];refine⟨⟨i+1,v2,F2,by omega,rfl,⟨u3.get J2.loop s0,J2.b1.upd u3 s1,J2.b3.upd u3 s3,J2.b5.upd u3 s5,J2.b11.upd u3 s11,J2.bm.upd u3 sm,B3,J2.b17.upd u3 s17,J2.own.upd u3 (λb hb hm=>by
   simp only[iC] at hm;exact J2.apart b hb (by simp[hm])),J2.fresh,J2.apart,J2.ext.fresh u3 (eD.one J2.fs),J2.fl,J2.f17,J2.fs⟩⟩,by simp[fT,x4];omega⟩
def aPv{h:PH}(size gen ser:Nat)(s:Tx)(ok:gB size)(g1:gen<18446744073709551616)(g2:ser<18446744073709551616)(hl:s.length≤1000000){k:cE}
  (hk:∀h' v F,eH h' aT 1 v ((fR size gen ser s).map jI) F->eD h F->dA h h'->k (.tuple #[v,.int .i64 (if dL size s.length=0 then 1 else 0)]) h'):bT PG aDc #[.int .i64 (size:Int),.int .u64 (gen:Int),.int .u64 (ser:Int),.string (tx s)] h k:=by
 have h64:=ok.1;have h512:=ok.2;apply yF.call;unfold yF;intro r1 hr1
 try rw[cR]
 have u1:dA h (h.set r1 (.cells (Value.cells (.int .i64 (size:Int))) aR)):=cX.new hr1;have B1:Bx (h.set r1 (.cells (Value.cells (.int .i64 (size:Int))) aR)) r1 [.int .i64 (size:Int)]:=Bx.new;generalize h.set r1 (.cells (Value.cells (.int .i64 (size:Int))) aR)=h1 at *;intro r3 hr3
 try rw[cR]
 have u3:dA h1 (h1.set r3 (.cells (Value.cells (.int .u64 (gen:Int))) cJ)):=cX.new hr3;have B3:Bx (h1.set r3 (.cells (Value.cells (.int .u64 (gen:Int))) cJ)) r3 [.int .u64 (gen:Int)]:=Bx.new;generalize h1.set r3 (.cells (Value.cells (.int .u64 (gen:Int))) cJ)=h3 at *;intro r5 hr5
 try rw[cR]
 have u5:dA h3 (h3.set r5 (.cells (Value.cells (.int .u64 (ser:Int))) cJ)):=cX.new hr5;have B5:Bx (h3.set r5 (.cells (Value.cells (.int .u64 (ser:Int))) cJ)) r5 [.int .u64 (ser:Int)]:=Bx.new;generalize h3.set r5 (.cells (Value.cells (.int .u64 (ser:Int))) cJ)=h5 at *;have e5:=(u1.trans u3).trans u5;have C1:=(B1.ext u3).ext u5;have C3:=B3.ext u5;simp only[aR.load,gO C1,iV,cC,reduceIte,cI,Nat.reduceAdd];refine aH4 size s.length (by omega) ?_;intro r11 hr11
 try rw[cR]
 refine aR.fill hr11 rfl λh11 B11 u11=>?_;have e11:=e5.trans u11;by_cases c0:dL size s.length=0
 ·have q0:(((dL size s.length:Nat):Int)==0)=true:=by simp[c0]
  simp only[aR.load,gO B11,gA,q0,cC,reduceIte,cI,Nat.reduceAdd];have:=hk h11 (.slice none 0 0) [] (by
   have:fR size gen ser s=[]:=by unfold fR;rw[c0];rfl
   rw[this];exact eH.nil) (λb hb=>by cases hb) e11
  rw[if_pos c0] at this;exact this
 ·have q0:(((dL size s.length:Nat):Int)==0)=false:=by rw[beq_eq_false_iff_ne];omega
  have hs:s.length≤4096:=by
   have:=(qX (n:=s.length) ok).2;omega
  simp only[aR.load,gO B11,gA,q0,cC,reduceIte,cI,Nat.reduceAdd];intro r17 hr17
  try rw[cR]
  have B17:=dD.zbox (h:=h11) (r:=r17);have u17:dA h11 (h11.set r17 (.cells (dJ PG dD) dD)):=cX.new hr17;generalize h11.set r17 (.cells (dJ PG dD) dD)=h17 at *;have B17:Bx h17 r17 [.slice none 0 0]:=B17;have D1:=(C1.ext u11).ext u17;have D3:=(C3.ext u11).ext u17;have D5:=(B5.ext u11).ext u17;have D11:=B11.ext u17;have e17:=e11.trans u17;have w1:IntKind.i64.wrap ((size:Int)-25)=((size-25:Nat):Int):=by rw[eB (by omega) (by omega)];omega
  simp only[aR.load,gO D1,w1,cC,reduceIte,cI,Nat.reduceAdd];apply aHg.call;unfold aHg;intro rs hrs
  try rw[cR]
  have us:dA h17 (h17.set rs (.cells (Value.cells (.string (tx s))) aT)):=cX.new hrs;have Bs:Bx (h17.set rs (.cells (Value.cells (.string (tx s))) aT)) rs [.string (tx s)]:=Bx.new;generalize h17.set rs (.cells (Value.cells (.string (tx s))) aT)=h18 at *;intro rm hrm
  try rw[cR]
  have um:dA h18 (h18.set rm (.cells (Value.cells (.int .i64 ((size-25:Nat):Int))) aR)):=cX.new hrm;have Bm:Bx (h18.set rm (.cells (Value.cells (.int .i64 ((size-25:Nat):Int))) aR)) rm [.int .i64 ((size-25:Nat):Int)]:=Bx.new;have Bs2:=Bs.ext um;generalize h18.set rm (.cells (Value.cells (.int .i64 ((size-25:Nat):Int))) aR)=h19 at *;have usm:=us.trans um;have e19:=e17.trans usm;simp only[aD6,cC,reduceIte,cI,Nat.reduceAdd];unfold aDv;refine⟨by kernel_rfl,?_⟩;intro fn tmps l D hv hsz hl0;have t4:tmps.getD 4 undef=pT r1 0:=hv (4,_) (by simp);have t5:tmps.getD 5 undef=pT r3 0:=hv (5,_) (by simp);have t6:tmps.getD 6 undef=pT r5 0:=hv (6,_) (by simp);have t10:tmps.getD 10 undef=pT r11 0:=hv (10,_) (by simp);have t11:tmps.getD 11 undef=pT r17 0:=hv (11,_) (by simp);have ul:dA h19 (h19.set l (.loop {state:=.ready,pending:=none,fn,tmps,params:=#[27,28],assign:=mP,body:=lX,defers:=D})):=cX.new hl0;have bl:(h19.set l (.loop {state:=.ready,pending:=none,fn,tmps,params:=#[27,28],assign:=mP,body:=lX,defers:=D})) l=some (.loop {state:=.ready,pending:=none,fn,tmps,params:=#[27,28],assign:=mP,body:=lX,defers:=D}):=eN;obtain⟨rec,hrec⟩:∃rec:Loop,rec= {state:=.ready,pending:=none,fn,tmps,params:=#[27,28],assign:=mP,body:=lX,defers:=D}:=⟨_,rfl⟩;rw[←hrec] at ul bl ⊢;generalize h19.set l (.loop rec)=h20 at *;have e20:=e19.trans ul;have fresh_l:h l=none:=e19.none hl0;have f17:h r17=none:=e11.none hr17;have fs:h rs=none:=e17.none hrs;have n: [l,r1,r3,r5,r11,rm,rs,r17].Nodup:=by
   have a1:r1≠r3:=B1.apart hr3;have a2:r1≠r5:=(B1.ext u3).apart hr5;have a3:r3≠r5:=B3.apart hr5;have a4:r1≠r11:=C1.apart hr11;have a5:r3≠r11:=C3.apart hr11;have a6:r5≠r11:=B5.apart hr11;have a7:r1≠r17:=(C1.ext u11).apart hr17;have a8:r3≠r17:=(C3.ext u11).apart hr17;have a9:r5≠r17:=(B5.ext u11).apart hr17;have a10:r11≠r17:=B11.apart hr17;have b1:r1≠rs:=D1.apart hrs;have b2:r3≠rs:=D3.apart hrs;have b3:r5≠rs:=D5.apart hrs;have b4:r11≠rs:=D11.apart hrs;have b5:r17≠rs:=B17.apart hrs;have c1:r1≠rm:=(D1.ext us).apart hrm;have c2:r3≠rm:=(D3.ext us).apart hrm;have c3:r5≠rm:=(D5.ext us).apart hrm;have c4:r11≠rm:=(D11.ext us).apart hrm;have c5:r17≠rm:=(B17.ext us).apart hrm;have c6:rs≠rm:=Bs.apart hrm;have d1:r1≠l:=(D1.ext usm).apart hl0;have d2:r3≠l:=(D3.ext usm).apart hl0;have d3:r5≠l:=(D5.ext usm).apart hl0;have d4:r11≠l:=(D11.ext usm).apart hl0;have d5:r17≠l:=(B17.ext usm).apart hl0;have d6:rs≠l:=Bs2.apart hl0;have d7:rm≠l:=Bm.apart hl0;simp only[aF7,iW,zLg,or_false,not_or,List.nodup_nil,and_true];exact⟨⟨d1.symm,d2.symm,d3.symm,d4.symm,d7.symm,d6.symm,d5.symm⟩,⟨a1,a2,a4,c1,b1,a7⟩,⟨a3,a5,c2,b2,a8⟩,⟨a6,c3,b3,a9⟩,⟨c4,b4,a10⟩,⟨c6.symm,c5.symm⟩,b5.symm,not_false⟩
  have um2:=usm.trans ul;show bT PG aCf #[aGi l,pT rm 0,pT rs 0] h20 _;refine aWt ok hs g1 g2 hrec hsz t4 t5 t6 t10 t11 n ⟨bl,D1.ext um2,D3.ext um2,D5.ext um2,D11.ext um2,Bm.ext ul,Bs2.ext ul,B17.ext um2,eH.nil,(λb hb=>by cases hb),(λb hb=>by cases hb),e20,fresh_l,f17,fs⟩ λh21 v' F' t J=>?_;refine aMg J.loop (by rw[hrec];exact .inl rfl) ?_;have ep:rec.pending=none:=by rw[hrec]
  have hn':=(nd8 n).1.2.2.2.2.2.2;have u22:cX [l] h21 (h21.set l (.loop {rec with state:=.exhausted})):=cX.set (by simp);generalize h21.set l (.loop {rec with state:=.exhausted})=h22 at *;rw[ep];show bY _ _;have B22:=J.b17.upd u22 hn';simp only[dD.load,gO B22,cC,reduceIte,cI,Nat.reduceAdd];have:=hk h22 v' F' (J.own.upd u22 (λb hb hm=>by
   simp only[iC] at hm;exact J.apart b hb (by simp[hm]))) J.fresh (J.ext.fresh u22 (eD.one fresh_l))
  rw[if_neg c0] at this;exact this
def sI(w:Nat×Tx):List Value:=[.int .i64 (w.1:Int),.string (tx w.2)]
def sI.isC(w:Nat×Tx):∀v∈sI w,fL v=true:=by simp[sI,fL]
structure oQ(a:Nat)(d:Dk)(h:PH)(F:List Nat):Prop where
 here:∃sv bv Fs Fb,F=a::(Fs++Fb)∧Bx h a [.int .i64 (d.size:Int),.int .i64 (d.sectors:Int),sv,bv,.int .i64 (d.arm:Int)]∧eH h aT 1 sv (d.st.map jI) Fs∧eH h dX 2 bv (d.buf.map sI) Fb∧a∉Fs∧a∉Fb∧∀b∈Fs,b∉Fb
 ok:d.Ok
 arm:d.arm<9223372036854775808
def oQ.known{a:Nat}{d:Dk}{h:PH}{F:List Nat}(H:oQ a d h F):∀b∈F,h b≠none:=by
 obtain⟨sv,bv,Fs,Fb,rfl,B,S,W,-⟩:=H.here;intro b hb;simp only[iW,tK] at hb;rcases hb with rfl|hb|hb
 ·exact B.known
 ·exact S.known b hb
 ·exact W.known b hb
def oQ.upd{a:Nat}{d:Dk}{h h':PH}{F K:List Nat}(H:oQ a d h F)(u:cX K h h')(hK:∀b∈F,b∉K):oQ a d h' F:=by
 obtain⟨sv,bv,Fs,Fb,rfl,B,S,W,n1,n2,n3⟩:=H.here;exact⟨⟨sv,bv,Fs,Fb,rfl,B.upd u (hK a (by simp)),S.upd u (λb hb=>hK b (by simp[hb])),W.upd u (λb hb=>hK b (by simp[hb])),n1,n2,n3⟩,H.ok,H.arm⟩
def oQ.good(a:Nat)(d:Dk):aH7 (oQ a d):=⟨λH=>H.known,λH u hK=>H.upd u hK⟩
def oQ.ext{a:Nat}{d:Dk}{h h':PH}{F:List Nat}(H:oQ a d h F)(u:dA h h'):oQ a d h' F:=(oQ.good a d).ext H u
def aNs{h:PH}{v:Value}{rows:List (List Value)}{F:List Nat}(O:eH h aT 1 v rows F){i:Nat}(hi:i<rows.length){x:Value}(hx:fL x=true):
  ∃b o,cB PG (indexAt dD v (.int .i64 (i:Int)))=some (pT b o)∧∀{k:cE},(∀h',eH h' aT 1 v (rows.set i [x]) F->cX F h h'->k undef h')->cN PG (cP aT (pT b o) x) h k:=by
 have S:=O.slR;rcases O.here with⟨-,e,-⟩|⟨b,cap,cs,rfl,rfl,hb,hle,hm,hsz,ht⟩
 ·rw[e] at hi;exact absurd hi (by simp)
 ·have ea:cB PG (indexAt dD (.slice (some ⟨b,0,none⟩) rows.length cap) (.int .i64 (i:Int)))=some (pT b i):=by
   have:=aHA (P:=PG) (t:=dD) (b:=b) (o:=0) (len:=rows.length) (cap:=cap) (k:=.i64) (j:=(i:Int)) dD.und aT.info aT.size (by omega) (by omega);rw[this];simp
  refine⟨b,i,ea,λhk=>?_⟩;refine lC aT.und rfl hb (by omega) hx aT.info aT.size ?_;refine hk _ ?_ (cX.set (by simp));have hr:Rows 1 (rows.set i [x]):=λr hr=>by
   rcases List.mem_or_eq_of_mem_set hr with e|e
   ·exact O.ok r e
   ·rw[e];rfl
  have hl:(rows.set i [x]).length=rows.length:=List.length_set;have:=eH.mk' (h:=h.set b (.cells (cs.setIfInBounds i x) aT (0,0))) (e:=aT) (b:=b) (cap:=cap) (size:=1) (cs:=cs.setIfInBounds i x) hr eN (by omega) hm (by simpa using hsz) (by
   rw[hl,Nat.mul_one,Array.toList_setIfInBounds];rw[Nat.mul_one] at ht;have fl1:∀{l:List (List Value)},Rows 1 l->∀j:Nat,l.flatten[j]? =(l[j]?).bind (λr:List Value=>r[0]?):=by
    intro l hl;induction l with
    | nil=>intro j;rfl
    | cons y l ih=>
     intro j;have hy:=hl y (by simp);obtain⟨z,rfl⟩:∃z,y=[z]:=by
      cases y with
      | nil=>cases hy
      | cons z t=>cases t with
       | nil=>exact⟨z,rfl⟩
       | cons _ _=>simp at hy
     have ih:=ih (λr hr=>hl r (by simp[hr]));cases j with
     | zero=>rfl
     | succ j=>
      show l.flatten[j]? =_;rw[ih j];rfl
   apply aMH;intro j;rw[fl1 hr,aDn,List.getElem?_set,List.getElem?_set];have htj:(cs.toList.take rows.length)[j]? =rows.flatten[j]?:=by rw[ht]
   rw[fl1 O.ok,aDn] at htj;have hcl:cs.toList.length=cs.size:=by simp
   by_cases c:i=j
   ·subst c;rw[if_pos hi,if_pos rfl,if_pos rfl,if_pos hi,if_pos (by rw[hcl];omega)];rfl
   ·rw[if_neg c,if_neg c];exact htj)
  rw[hl] at this;exact this
def aFf(d:Dk):Value:=.agg #[.int .i64 (d.size:Int),.int .i64 (d.sectors:Int)]
def aEh{h:PH}(d:Dk){k:cE}(hk:∀h',dA h h'->k (.int .i64 (d.size:Int)) h'):bT PG kP #[aFf d] h k:=by
 apply aAU.call;unfold aAU;intro r1 hr1
 try rw[cR]
 have u1:dA h (h.set r1 (.cells (Value.cells (aFf d)) dZ)):=cX.new hr1;have B1:Bx (h.set r1 (.cells (Value.cells (aFf d)) dZ)) r1 [.int .i64 (d.size:Int),.int .i64 (d.sectors:Int)]:=Bx.new;generalize h.set r1 (.cells (Value.cells (aFf d)) dZ)=h1 at *;have c0:cV h1 ⟨r1,0,none⟩=some (.int .i64 (d.size:Int)):=B1.cell 0;simp only[dZ.f0,aR.load,c0,cC,reduceIte,cI,Nat.reduceAdd];exact hk h1 u1
def aMw{h:PH}(d:Dk){k:cE}(hk:∀h',dA h h'->k (.int .i64 (d.sectors:Int)) h'):bT PG sX #[aFf d] h k:=by
 apply wI.call;unfold wI;intro r1 hr1
 try rw[cR]
 have u1:dA h (h.set r1 (.cells (Value.cells (aFf d)) dZ)):=cX.new hr1;have B1:Bx (h.set r1 (.cells (Value.cells (aFf d)) dZ)) r1 [.int .i64 (d.size:Int),.int .i64 (d.sectors:Int)]:=Bx.new;generalize h.set r1 (.cells (Value.cells (aFf d)) dZ)=h1 at *;have c0:cV h1 ⟨r1,0+1,none⟩=some (.int .i64 (d.sectors:Int)):=B1.cell 1;simp only[dZ.f1,aR.load,c0,cC,reduceIte,cI,Nat.reduceAdd];exact hk h1 u1
def aQO{h:PH}(d:Dk)(n:Int){k:cE}(hk:∀h',dA h h'->k (.bool (decide (0≤n∧n<(d.sectors:Int)))) h'):bT PG uV #[aFf d,.int .i64 n] h k:=by
 apply zH.call;unfold zH;intro r1 hr1
 try rw[cR]
 have u1:dA h (h.set r1 (.cells (Value.cells (aFf d)) dZ)):=cX.new hr1;have B1:Bx (h.set r1 (.cells (Value.cells (aFf d)) dZ)) r1 [.int .i64 (d.size:Int),.int .i64 (d.sectors:Int)]:=Bx.new;generalize h.set r1 (.cells (Value.cells (aFf d)) dZ)=h1 at *;have c0:cV h1 ⟨r1,0+1,none⟩=some (.int .i64 (d.sectors:Int)):=B1.cell 1;have hk:=hk h1 u1;by_cases c:0≤n
 ·have g:((0:Int)≤n)=True:=eq_true c;have e:decide (n<(d.sectors:Int))=decide (0≤n∧n<(d.sectors:Int)):=by
   rw[xF,decide_eq_true_iff,decide_eq_true_iff];exact⟨λh=>⟨c,h⟩,λh=>h.2⟩
  simp only[g,dZ.f1,aR.load,c0,cC,reduceIte,cI,Nat.reduceAdd];rw[e];exact hk
 ·have g:((0:Int)≤n)=False:=eq_false c;have e:decide (0≤n∧n<(d.sectors:Int))=false:=decide_eq_false (λh=>c h.1);rw[e] at hk;simp only[g,cC,reduceIte,cI,Nat.reduceAdd];exact hk
structure DkB(a:Nat)(d:Dk)(h:PH)(sv bv:Value):Prop where
 geo:cD PG h (loadAt dZ (pT a 0))=some (aFf d)
 size:cV h ⟨a,0,none⟩=some (.int .i64 (d.size:Int))
 st:cV h ⟨a,0+2,none⟩=some sv
 buf:cV h ⟨a,0+3,none⟩=some bv
 arm:cV h ⟨a,0+4,none⟩=some (.int .i64 (d.arm:Int))
def DkB.of{a:Nat}{d:Dk}{h:PH}{sv bv:Value}(B:Bx h a [.int .i64 (d.size:Int),.int .i64 (d.sectors:Int),sv,bv,.int .i64 (d.arm:Int)]):DkB a d h sv bv:=⟨dZ.agg B (by show 0+2≤5;decide),B.cell 0,B.cell 2,B.cell 3,B.cell 4⟩
def aQF{h:PH}{a:Nat}{d:Dk}{F:List Nat}(D:oQ a d h F){k:cE}(hk:∀h',oQ a d.tick h' F->cX F h h'->k (.bool (decide (d.arm=1))) h'):bT PG aAS #[pT a 0] h k:=by
 apply aCc.call;unfold aCc;have ha:=D.arm;obtain⟨sv,bv,Fs,Fb,rfl,B,S,W,n1,n2,n3⟩:=D.here;have L:=DkB.of B;by_cases c:d.arm=0
 ·have q:((d.arm:Int)==0)=true:=by simp[c]
  have e:decide (d.arm=1)=false:=by rw[c];rfl
  have et:d.tick=d:=by
   unfold Dk.tick;rw[c];obtain⟨x1,x2,x3,x4,x5⟩:=d;simp only at c;subst c;rfl
  rw[e,et] at hk;simp only[dW.f3,aR.load,L.arm,gA,q,cC,reduceIte,cI,Nat.reduceAdd];exact hk h D cX.refl
 ·have q:((d.arm:Int)==0)=false:=by rw[beq_eq_false_iff_ne];omega
  have w:IntKind.i64.wrap ((d.arm:Int)-1)=((d.arm-1:Nat):Int):=by rw[eB (by omega) (by omega)];omega
  simp only[dW.f3,aR.load,L.arm,gA,q,w,cC,reduceIte,cI,Nat.reduceAdd];refine aR.put B (o:=4) (by show 4<5;decide) rfl λh2 B2 u2=>?_;have B2:Bx h2 a [.int .i64 (d.tick.size:Int),.int .i64 (d.tick.sectors:Int),sv,bv,.int .i64 (d.tick.arm:Int)]:=B2;have L2:=DkB.of B2;have e:(((d.arm-1:Nat):Int)==0)=decide (d.arm=1):=by
   rw[xF,beq_iff_eq,decide_eq_true_iff];omega
  have c4:cV h2 ⟨a,0+4,none⟩=some (.int .i64 ((d.arm-1:Nat):Int)):=B2.cell 4;simp only[dW.f3,aR.load,c4,gA,e,cC,reduceIte,cI,Nat.reduceAdd];refine hk h2 ⟨⟨sv,bv,Fs,Fb,rfl,B2,S.upd u2 (λb hb hm=>?_),W.upd u2 (λb hb hm=>?_),n1,n2,n3⟩,D.ok.tick,by show d.arm-1<_;omega⟩ (u2.mono λb hb=>.inl (by simp only[iC] at hb;simp[hb]))
  ·simp only[iC] at hm;exact n1 (hm▸hb)
  ·simp only[iC] at hm;exact n2 (hm▸hb)
def aYx(n:Int)(s:ByteArray):cB PG (build dX #[(0,.int .i64 n),(1,.string s)])=some (.agg #[.int .i64 n,.string s]):=by kernel_rfl
def aYa(n:Int)(s:ByteArray):kC PG (buildSlice eK 1 #[(0,.agg #[.int .i64 n,.string s])])=some (.cells #[.int .i64 n,.string s] dX,λr=>pure (.slice (some ⟨r,0,none⟩) 1 1)):=by kernel_rfl
def aS5{h:PH}{a:Nat}{d:Dk}{F:List Nat}(D:oQ a d h F)(n:Int)(s:Tx)(hb:d.buf.length≤1000000){k:cE}(hk:∀h' F',oQ a (d.wr n s).1 h' F'->eA h F h' F'->k (.int .i64 (d.wr n s).2) h'):bT PG aDD #[pT a 0,.int .i64 n,.string (tx s)] h k:=by
 apply aCj.call;unfold aCj;obtain⟨sv,bv,Fs,Fb,eF,B,S,W,n1,n2,n3⟩:=id D.here;have L:=DkB.of B;have hok:=D.ok.wr n s;unfold Dk.wr at hk hok;simp only[dW.f0,L.geo,cC,reduceIte,cI,Nat.reduceAdd];refine aQO d n λh1 u1=>?_;have D1:=D.ext u1;have L1:=DkB.of (B.ext u1);by_cases c1:0≤n∧n<(d.sectors:Int)
 ·by_cases c2:s.length=d.size
  ·have q2:((s.length:Int) !=(d.size:Int))=false:=by simp[c2]
   rw[if_neg (by omega)] at hk hok;simp only[c1,decide_true,and_self,iV,dW.f0,dZ.f0,aR.load,L1.size,eI,q2,cC,reduceIte,cI,Nat.reduceAdd];refine aQF D1 λh2 D2 u2=>?_;have st2:eA h F h2 F:=(eA.ext u1).trans ⟨u2,λb hb=>.inl hb⟩;by_cases c3:d.arm=1
   ·rw[if_pos c3] at hk;simp only[c3,decide_true,cC,reduceIte,cI,Nat.reduceAdd];exact hk h2 F D2 st2
   ·rw[if_neg c3] at hk hok;obtain⟨sv,bv,Fs,Fb,eF,B2,S2,W2,n1,n2,n3⟩:=D2.here;have L2:=DkB.of B2;simp only[c3,decide_false,dW.f2,eK.load,L2.buf,aYx,aYa,cC,reduceIte,cI,Nat.reduceAdd];intro r44 hr44;refine iB ?_
    try rw[cR]
    have Sl:iH (h2.set r44 (.cells #[.int .i64 n,.string (tx s)] dX)) 2 (.slice (some ⟨r44,0,none⟩) 1 1) [[.int .i64 n,.string (tx s)]]:=(eH.lit (e:=dX) (size:=2) (rows:=[[.int .i64 n,.string (tx s)]]) (n:=1) (λr hr=>by simp only[iC] at hr;rw[hr];rfl) eN rfl (by decide) rfl).slR;have u3:dA h2 (h2.set r44 (.cells #[.int .i64 n,.string (tx s)] dX)):=cX.new hr44;generalize h2.set r44 (.cells #[.int .i64 n,.string (tx s)] dX)=h3 at *;have bl:(d.tick.buf.map sI).length=d.buf.length:=by rw[iL];rfl
    refine lV eK.und eK.und dX.info dX.size dX.bytes dX.zero rfl (by decide) (W2.ext u3) Sl (by simp[fL]) (by rw[bl];simp only[iU,kV];omega) ?_;intro v4 h4 F4 O4 u4 g4 _;have B4:=(B2.ext u3).upd u4 n2;have en:n=((n.toNat:Nat):Int):=by omega
    have O4:eH h4 dX 2 v4 ((d.buf++[(n.toNat,s)]).map sI) F4:=by
     rw[xJ];have:sI (n.toNat,s)=[.int .i64 n,.string (tx s)]:=by unfold sI;simp only;rw[←en]
     rw[iG,jB,this];exact O4
    have S4:=(S2.ext u3).upd u4 n3;have k3:∀b,h2 b≠none->h3 b≠none:=λb hb=>by
     cases e:h2 b with
     | none=>exact absurd e hb
     | some o=>rw[u3.get e];simp
    have na4:a∉F4:=λhm=>by
     rcases g4 a hm with e|e
     ·exact n2 e
     ·exact k3 a B2.known e
    have ns4:∀b∈Fs,b∉F4:=λb hb hm=>by
     rcases g4 b hm with e|e
     ·exact n3 b hb e
     ·exact k3 b (S2.known b hb) e
    refine eK.put B4 (o:=3) (by show 3<5;decide) O4.slR.isc λh5 B5 u5=>?_;have B5:Bx h5 a [.int .i64 (d.size:Int),.int .i64 (d.sectors:Int),sv,v4,.int .i64 ((d.arm-1:Nat):Int)]:=B5;have ha:=D.arm;refine hk h5 (a::(Fs++F4)) ⟨⟨sv,v4,Fs,F4,rfl,B5,S4.upd u5 (λb hb hm=>?_),O4.upd u5 (λb hb hm=>?_),n1,na4,ns4⟩,hok,by show d.arm-1<_;omega⟩ (st2.trans ⟨?_,?_⟩)
    ·simp only[iC] at hm;exact n1 (hm▸hb)
    ·simp only[iC] at hm;exact na4 (hm▸hb)
    ·rw[eF];intro b o hbo hnm;simp only[iW,tK,not_or] at hnm;exact u5.get (u4.get (u3.get hbo) hnm.2.2) (by simp only[iC];exact hnm.1)
    ·intro b hb;rw[eF];simp only[iW,tK] at hb ⊢;rcases hb with rfl|hb|hb
     ·exact .inl (.inl rfl)
     ·exact .inl (.inr (.inl hb))
     ·rcases g4 b hb with e|e
      ·exact .inl (.inr (.inr e))
      ·right;cases e2:h2 b with
       | none=>rfl
       | some o=>rw[u3.get e2] at e;cases e
  ·have q2:((s.length:Int) !=(d.size:Int))=true:=by rw[bne_iff_ne];omega
   rw[if_pos (by omega)] at hk;simp only[c1,decide_true,and_self,iV,dW.f0,dZ.f0,aR.load,L1.size,eI,q2,cC,reduceIte,cI,Nat.reduceAdd];exact hk h1 F D1 (eA.ext u1)
 ·rw[if_pos (by omega)] at hk;simp only[c1,decide_false,cC,reduceIte,cI,Nat.reduceAdd];exact hk h1 F D1 (eA.ext u1)
def aSv{h:PH}{v:Value}{l:List (Nat×Tx)}(S:iH h 2 v (l.map sI)){i:Nat}{w:Nat×Tx}(hx:l[i]? =some w):∃a,cB PG (indexAt eK v (.int .i64 (i:Int)))=some (.pointer (some a))∧cD PG h (loadAt dX (.pointer (some a)))=some (.agg (sI w).toArray):=
 S.loadAgg (t:=eK) (k:=.i64) (j:=(i:Int)) eK.und dX.info dX.size dX.und rfl (by omega) (by rw[xK,wG,hx];rfl)
def aM5{h:PH}{v:Value}{l:List (Nat×Tx)}(S:iH h 2 v (l.map sI)):cB PG (Builtin.len_ #[eK] aR #[v])=some (.int .i64 l.length):=by
 have:=S.len (t':=aR) eK.und;rw[iL] at this;exact this
def aI9{st:List Tx}{l:List (Nat×Tx)}{i:Nat}{w:Nat×Tx}(hx:l[i]? =some w):kH st (l.take (i+1))=(kH st (l.take i)).set w.1 w.2:=by
 rw[zLR,hx];exact aI2 _ _ _
def aKy(l:List Tx)(i:Nat)(x:Tx):(l.map jI).set i [.string (tx x)]=(l.set i x).map jI:=by rw[List.map_set];rfl
def aPX{h:PH}{a:Nat}{d:Dk}{F:List Nat}(D:oQ a d h F)(hb:d.buf.length≤1000000){k:cE}(hk:∀h' F',oQ a d.fl.1 h' F'->eA h F h' F'->k (.int .i64 d.fl.2) h'):bT PG aAH #[pT a 0] h k:=by
 apply vS.call;unfold vS;have hok:=D.ok.fl;unfold Dk.fl at hk hok;refine aQF D λh1 D1 u1=>?_;have st1:eA h F h1 F:=⟨u1,λb hb=>.inl hb⟩;by_cases c:d.arm=1
 ·rw[if_pos c] at hk;simp only[c,decide_true,cC,reduceIte,cI,Nat.reduceAdd];exact hk h1 F D1 st1
 ·rw[if_neg c] at hk hok;obtain⟨sv,bv,Fs,Fb,eF,B,S,W,n1,n2,n3⟩:=D1.here;have L:=DkB.of B;have B:Bx h1 a [.int .i64 (d.size:Int),.int .i64 (d.sectors:Int),sv,bv,.int .i64 ((d.arm-1:Nat):Int)]:=B;have S:eH h1 aT 1 sv (d.st.map jI) Fs:=S;have W:eH h1 dX 2 bv (d.buf.map sI) Fb:=W;simp only[c,decide_false,dW.f2,eK.load,L.buf,aM5 W.slR,cC,reduceIte,cI,Nat.reduceAdd];refine⟨λvs h'=>∃i:Nat,i≤d.buf.length∧vs=[pT a 0,bv,.int .i64 (d.buf.length:Int),.int .i64 (i:Int)]∧eH h' aT 1 sv ((kH d.st (d.buf.take i)).map jI) Fs∧cX Fs h1 h',fT d.buf.length 3,⟨0,by omega,rfl,S,cX.refl⟩,?_⟩;rintro ρ h' ⟨i,hi,hvs,S2,w⟩;simp only[iG,jB,kZ,and_true] at hvs;obtain⟨x0,x10,x11,x12⟩:=hvs;unfold aGw;rw[x0,x10,x11,x12];have B2:=B.upd w n1;have W2:=W.upd w (λb hb hm=>n3 b hm hb);by_cases hlt:i<d.buf.length
  ·have g:((i:Int)<(d.buf.length:Int))=True:=eq_true (by omega);have gi:=nR (i:=i) (by omega);obtain⟨x,hx⟩:∃x,d.buf[i]? =some x:=⟨_,kF hlt⟩;have hxb:=D.ok.buf x (zX hx);obtain⟨p,i1,i2⟩:=aSv W2.slR hx;simp only[g,i1,i2,cC,reduceIte,cI,Nat.reduceAdd];intro r12 hr12
   try rw[cR]
   refine dX.fill (vs:=sI x) hr12 rfl (sI.isC x) λh3 B3 u3=>?_;have c0:cV h3 ⟨r12,0,none⟩=some (.int .i64 (x.1:Int)):=B3.cell 0;have c1:cV h3 ⟨r12,0+1,none⟩=some (.string (tx x.2)):=B3.cell 1;have cs:cV h3 ⟨a,0+2,none⟩=some sv:=(B2.ext u3).cell 2;have hx1:x.1<((kH d.st (d.buf.take i)).map jI).length:=by rw[iL,aAE,D.ok.len];exact hxb.1
   obtain⟨b,o,j1,j2⟩:=aNs (S2.ext u3) hx1 (x:=.string (tx x.2)) rfl;simp only[dW.f1,dD.load,cs,dX.f0,dX.f1,aR.load,aT.load,c0,c1,j1,cC,reduceIte,cI,Nat.reduceAdd];refine j2 λh4 S4 u4=>?_;simp only[gi,cC,reduceIte,cI,Nat.reduceAdd];refine⟨⟨i+1,by omega,rfl,?_,(w.trans u3.upd).trans u4⟩,by simp[fT,x12];omega⟩;rw[aI9 hx,←aKy];exact S4
  ·have g:((i:Int)<(d.buf.length:Int))=False:=eq_false (by omega);have ei:d.buf.take i=d.buf:=sK (by omega);rw[ei] at S2;simp only[g,dW.f2,cC,reduceIte,cI,Nat.reduceAdd];refine eK.put B2 (o:=3) (by show 3<5;decide) rfl λh3 B3 u3=>?_;have B3:Bx h3 a [.int .i64 (d.size:Int),.int .i64 (d.sectors:Int),sv,.slice none 0 0,.int .i64 ((d.arm-1:Nat):Int)]:=B3;have ha:=D.arm;refine hk h3 (a::(Fs++[])) ⟨⟨sv,.slice none 0 0,Fs,[],rfl,B3,S2.upd u3 (λb hb hm=>?_),eH.nil,n1,by simp,by simp⟩,hok,by show d.arm-1<_;omega⟩ (st1.trans ⟨?_,?_⟩)
   ·simp only[iC] at hm;exact n1 (hm▸hb)
   ·rw[eF];exact(w.mono λb hb=>.inl (by simp[hb])).trans (u3.mono λb hb=>.inl (by simp only[iC] at hb;simp[hb]))
   ·intro b hb;rw[eF];simp only[zLQ,iW,tK] at hb ⊢;rcases hb with rfl|hb
    ·exact .inl (.inl rfl)
    ·exact .inl (.inr (.inl hb))
def aV4{d:Dk}(H:d.Ok){n:Nat}(hn:n<d.sectors){i:Nat}{w:Nat×Tx}(hx:d.buf[i]? =some w):(kH d.st (d.buf.take (i+1))).getD n []=if w.1=n then w.2 else(kH d.st (d.buf.take i)).getD n []:=by
 rw[aI9 hx,sQ,sQ,List.getElem?_set];have hl:(kH d.st (d.buf.take i)).length=d.sectors:=by rw[aAE,H.len]
 by_cases c:w.1=n
 ·rw[if_pos c,if_pos c,if_pos (by omega)];rfl
 ·rw[if_neg c,if_neg c]
def aVK{h:PH}{a:Nat}{d:Dk}{F:List Nat}(D:oQ a d h F)(n:Int)(hb:d.buf.length≤1000000){k:cE}(hk:∀h',dA h h'->k (.tuple #[.string (tx (d.rd n).1),.int .i64 (d.rd n).2]) h'):bT PG aDm #[pT a 0,.int .i64 n] h k:=by
 apply aDK.call;unfold aDK;obtain⟨sv,bv,Fs,Fb,eF,B,S,W,n1,n2,n3⟩:=id D.here;have L:=DkB.of B;unfold Dk.rd at hk;simp only[dW.f0,L.geo,cC,reduceIte,cI,Nat.reduceAdd];refine aQO d n λh1 u1=>?_;have B1:=B.ext u1;have S1:=S.ext u1;have W1:=W.ext u1;have L1:=DkB.of B1;by_cases c1:0≤n∧n<(d.sectors:Int)
 ·rw[if_neg (by omega)] at hk;have en:n=((n.toNat:Nat):Int):=by omega
  have hn:n.toNat<d.sectors:=by omega
  obtain⟨m,hm⟩:∃m,n.toNat=m:=⟨_,rfl⟩;rw[hm] at en hn hk;obtain⟨x,hx⟩:∃x,d.st[m]? =some x:=⟨_,kF (by rw[D.ok.len];exact hn)⟩;obtain⟨p,i1,i2⟩:=aJB S1.slR hx;subst en;simp only[c1,and_self,decide_true,dW.f1,dW.f2,dD.load,eK.load,L1.st,L1.buf,i1,i2,aM5 W1.slR,cC,reduceIte,cI,Nat.reduceAdd];refine⟨λvs h'=>∃i:Nat,i≤d.buf.length∧vs=[.int .i64 (m:Int),.string (tx ((kH d.st (d.buf.take i)).getD m [])),bv,.int .i64 (d.buf.length:Int),.int .i64 (i:Int)]∧dA h h',fT d.buf.length 4,⟨0,by omega,?_,u1⟩,?_⟩
  ·have:(kH d.st (d.buf.take 0)).getD m []=x:=by
    rw[zLd,sQ];show(d.st[m]?).getD []=x;rw[hx];rfl
   rw[this];rfl
  rintro ρ h' ⟨i,hi,hvs,w⟩;simp only[iG,jB,kZ,and_true] at hvs;obtain⟨x1,x6,x26,x27,x28⟩:=hvs;unfold aGa;rw[x1,x6,x26,x27,x28];by_cases hlt:i<d.buf.length
  ·have g:((i:Int)<(d.buf.length:Int))=True:=eq_true (by omega);have gi:=nR (i:=i) (by omega);obtain⟨y,hy⟩:∃y,d.buf[i]? =some y:=⟨_,kF hlt⟩;obtain⟨q,j1,j2⟩:=aSv (W.ext w).slR hy;simp only[g,j1,j2,cC,reduceIte,cI,Nat.reduceAdd];intro r21 hr21
   try rw[cR]
   refine dX.fill (vs:=sI y) hr21 rfl (sI.isC y) λh3 B3 u3=>?_;have c0:cV h3 ⟨r21,0,none⟩=some (.int .i64 (y.1:Int)):=B3.cell 0;have c1:cV h3 ⟨r21,0+1,none⟩=some (.string (tx y.2)):=B3.cell 1;have st:=aV4 D.ok hn hy;by_cases c:y.1=m
   ·have q0:((y.1:Int)==(m:Int))=true:=by simp[c]
    rw[if_pos c] at st;simp only[dX.f0,dX.f1,aR.load,aT.load,c0,c1,gA,q0,aAI,aCz,gi,cC,reduceIte,cI,Nat.reduceAdd];refine⟨⟨i+1,by omega,?_,w.trans u3⟩,by simp[fT,x28];omega⟩;rw[st]
   ·have q0:((y.1:Int)==(m:Int))=false:=by rw[beq_eq_false_iff_ne];omega
    rw[if_neg c] at st;simp only[dX.f0,aR.load,c0,gA,q0,aAI,aCz,gi,cC,reduceIte,cI,Nat.reduceAdd];refine⟨⟨i+1,by omega,?_,w.trans u3⟩,by simp[fT,x28];omega⟩;rw[st]
  ·have g:((i:Int)<(d.buf.length:Int))=False:=eq_false (by omega);have ei:d.buf.take i=d.buf:=sK (by omega);simp only[g,ei,cC,reduceIte,cI,Nat.reduceAdd];exact hk h' w
 ·rw[if_pos (by omega)] at hk;simp only[c1,decide_false,cC,reduceIte,cI,Nat.reduceAdd];exact hk h1 u1
def Dk.armed(d:Dk)(n:Int):Dk:=⟨d.size,d.sectors,d.st,d.buf,n.toNat⟩
def Dk.Ok.armed{d:Dk}(H:d.Ok)(n:Int):(d.armed n).Ok:=⟨H.len,H.size,H.one,H.many,H.each,H.buf⟩
def aX3{h:PH}{a:Nat}{d:Dk}{F:List Nat}(D:oQ a d h F)(n:Int)(hn:n<9223372036854775808){k:cE}(hk:∀h',oQ a (d.armed n) h' F->cX F h h'->k (.tuple #[]) h'):bT PG aEa #[pT a 0,.int .i64 n] h k:=by
 apply aEI.call;unfold aEI;obtain⟨sv,bv,Fs,Fb,rfl,B,S,W,n1,n2,n3⟩:=id D.here;have em:cB PG (Builtin.max_ #[aR,aR] aR #[.int .i64 0,.int .i64 n])=some (.int .i64 ((n.toNat:Nat):Int)):=by
  have e:((n.toNat:Nat):Int)=if 0<n then n else 0:=by split<;>omega
  rw[e];exact aLS
 simp only[em,dW.f3,cC,reduceIte,cI,Nat.reduceAdd];refine aR.put B (o:=4) (by show 4<5;decide) rfl λh2 B2 u2=>?_;refine hk h2 ⟨⟨sv,bv,Fs,Fb,rfl,B2,S.upd u2 (λb hb hm=>?_),W.upd u2 (λb hb hm=>?_),n1,n2,n3⟩,D.ok.armed n,by show n.toNat<_;omega⟩ (u2.mono λb hb=>.inl (by simp only[iC] at hb;simp[hb]))
 ·simp only[iC] at hm;exact n1 (hm▸hb)
 ·simp only[iC] at hm;exact n2 (hm▸hb)
def Dk.new(size sectors:Nat):Dk:=⟨size,sectors,List.replicate sectors (kJ size),[],0⟩
def Dk.new_ok{size sectors:Nat}(ok:gB size)(h1:1≤sectors)(h2:sectors≤4096):(Dk.new size sectors).Ok:=⟨aG3,ok,h1,h2,λs hs=>by rw[List.eq_of_mem_replicate hs];exact xD _,by simp[Dk.new]⟩
def aY2(a b:Int):cB PG (build dZ #[(0,.int .i64 a),(1,.int .i64 b)])=some (.agg #[.int .i64 a,.int .i64 b]):=by kernel_rfl
def aYj(a b:Int)(r n m:Nat):cB PG (build dW #[(0,.agg #[.int .i64 a,.int .i64 b]),(1,.slice (some ⟨r,0,none⟩) n m)])=some (.agg #[.int .i64 a,.int .i64 b,.slice (some ⟨r,0,none⟩) n m,.slice none 0 0,.int .i64 0]):=by kernel_rfl
def aEG(size n i:Nat):List Tx:=List.replicate i (kJ size)++List.replicate (n-i) []
def aTl{size n i:Nat}(hi:i<n):(aEG size n i).set i (kJ size)=aEG size n (i+1):=by
 unfold aEG;obtain⟨m,rfl⟩:∃m,n=i+(m+1):=⟨n-i-1,by omega⟩;rw[List.set_append_right _ _ (by rw[aG3];exact lM _),aG3,aJE,aCb,show i+(m+1)-(i+1)=m from by omega,List.replicate_succ,List.set_cons_zero];rw[List.replicate_succ',uS];rfl
def aKc(size n i:Nat)(hi:i≤n):(aEG size n i).length=n:=by unfold aEG;rw[jM,aG3,aG3];omega
def aWn{h:PH}(size sectors:Nat)(ok:gB size)(h1:1≤sectors)(h2:sectors≤4096){k:cE}(hk:∀h' a F,oQ a (Dk.new size sectors) h' F->eD h F->dA h h'->k (.tuple #[pT a 0,.int .i64 0]) h'):bT PG aIy #[.int .i64 (size:Int),.int .i64 (sectors:Int)] h k:=by
 apply aF6.call;unfold aF6;have h64:=ok.1;have h512:=ok.2;have g1:((size:Int)<64)=False:=eq_false (by omega);have g2:((512:Int)<(size:Int))=False:=eq_false (by omega);have g3:((sectors:Int)<1)=False:=eq_false (by omega);have g4:((4096:Int)<(sectors:Int))=False:=eq_false (by omega);obtain⟨zs,hm,hzz⟩:=aFW (P:=PG) (n:=sectors) dD.und aT.info aT.size aT.bytes aT.zero rfl (by decide) (by omega) (by omega);simp only[g1,g2,g3,g4,aY2,hm,cC,reduceIte,cI,Nat.reduceAdd];intro r27 hr27;refine iB ?_
 try rw[cR]
 have O1:eH (h.set r27 (.cells zs aT (0,0))) aT 1 (.slice (some ⟨r27,0,none⟩) sectors sectors) ((aEG size sectors 0).map jI) [r27]:=eH.lit (e:=aT) (size:=1) (rows:=(aEG size sectors 0).map jI) (n:=sectors) (λr hr=>by obtain⟨m,_,rfl⟩:=pQ.1 hr;rfl) eN (by rw[iL,aKc _ _ _ (by omega)]) (zLE h2 (by decide)) (by
  rw[hzz];unfold aEG;rw[List.replicate_zero,zLU,Nat.sub_zero,List.map_replicate];rfl)
 have u1:dA h (h.set r27 (.cells zs aT (0,0))):=cX.new hr27;generalize h.set r27 (.cells zs aT (0,0))=h2 at *;simp only[aYj,cC,reduceIte,cI,Nat.reduceAdd];intro r32 hr32
 try rw[cR]
 have u2:dA h2 (h2.set r32 (.cells (Value.cells (.agg #[.int .i64 (size:Int),.int .i64 (sectors:Int),.slice (some ⟨r27,0,none⟩) sectors sectors,.slice none 0 0,.int .i64 0])) dW)):=cX.new hr32;have B2:Bx (h2.set r32 (.cells (Value.cells (.agg #[.int .i64 (size:Int),.int .i64 (sectors:Int),.slice (some ⟨r27,0,none⟩) sectors sectors,.slice none 0 0,.int .i64 0])) dW)) r32 [.int .i64 (size:Int),.int .i64 (sectors:Int),.slice (some ⟨r27,0,none⟩) sectors sectors,.slice none 0 0,.int .i64 0]:=Bx.new;generalize h2.set r32 (.cells (Value.cells (.agg #[.int .i64 (size:Int),.int .i64 (sectors:Int),.slice (some ⟨r27,0,none⟩) sectors sectors,.slice none 0 0,.int .i64 0])) dW)=h3 at *;have O3:=O1.ext u2;have e3:=u1.trans u2;have n1:r32≠r27:=λe=>O1.known r27 (by simp) (e▸hr32);have f1:eD h [r27]:=eD.one hr27;have f2:h r32=none:=u1.none hr32;have c2:cV h3 ⟨r32,0+2,none⟩=some (.slice (some ⟨r27,0,none⟩) sectors sectors):=B2.cell 2;have ln:cB PG (Builtin.len_ #[dD] aR #[.slice (some ⟨r27,0,none⟩) sectors sectors])=some (.int .i64 (sectors:Int)):=by
  have:=aAK O1.slR;rw[aKc _ _ _ (by omega)] at this;exact this
 simp only[dW.f1,dD.load,c2,ln,cC,reduceIte,cI,Nat.reduceAdd];refine⟨λvs h'=>∃i:Nat,i≤sectors∧vs=[.int .i64 (size:Int),pT r32 0,.int .i64 (sectors:Int),.int .i64 (i:Int)]∧eH h' aT 1 (.slice (some ⟨r27,0,none⟩) sectors sectors) ((aEG size sectors i).map jI) [r27]∧cX [r27] h3 h',fT sectors 3,⟨0,by omega,rfl,O3,cX.refl⟩,?_⟩;rintro ρ h' ⟨i,hi,hvs,O,w⟩;simp only[iG,jB,kZ,and_true] at hvs;obtain⟨x0,x6,x33,x34⟩:=hvs;unfold aKx;rw[x0,x6,x33,x34];have B:=B2.upd w (by simpa using n1);by_cases hlt:i<sectors
 ·have g:((i:Int)<(sectors:Int))=True:=eq_true (by omega);have gi:=nR (i:=i) (by omega);have c3:cV h' ⟨r32,0+2,none⟩=some (.slice (some ⟨r27,0,none⟩) sectors sectors):=B.cell 2;simp only[g,dW.f1,dD.load,c3,cC,reduceIte,cI,Nat.reduceAdd];refine aKw (by omega) λh4 u4=>?_;have c4:cV h4 ⟨r32,0+2,none⟩=some (.slice (some ⟨r27,0,none⟩) sectors sectors):=(B.ext u4).cell 2;have hin:i<((aEG size sectors i).map jI).length:=by rw[iL,aKc _ _ _ hi];exact hlt
  obtain⟨b,o,j1,j2⟩:=aNs (O.ext u4) hin (x:=.string (tx (kJ size))) rfl;refine⟨c4,?_⟩;simp only[j1,cC,reduceIte,cI,Nat.reduceAdd];refine j2 λh5 O5 u5=>?_;simp only[gi,cC,reduceIte,cI,Nat.reduceAdd];rw[aKy,aTl hlt] at O5;exact⟨⟨i+1,by omega,rfl,O5,(w.trans u4.upd).trans u5⟩,by simp[fT,x34];omega⟩
 ·have g:((i:Int)<(sectors:Int))=False:=eq_false (by omega);obtain rfl:i=sectors:=by omega
  have en:aEG size i i=(Dk.new size i).st:=by unfold aEG;rw[aJE];simp[Dk.new]
  rw[en] at O;simp only[g,cC,reduceIte,cI,Nat.reduceAdd];refine hk h' r32 (r32::([r27]++[])) ⟨⟨_,_,[r27],[],rfl,B,O,eH.nil,by simpa using n1,by simp,by simp⟩,Dk.new_ok ok h1 h2,by show 0<_;omega⟩ (λb hb=>?_) (e3.fresh w f1);simp only[zLQ,iW,zLg,or_false] at hb;rcases hb with rfl|rfl
  ·exact f2
  ·exact hr27
end
section
open Go
open Bld
def rO(a:Nat):Value:=.agg #[pT a 0]
def oQ.geo{a:Nat}{d:Dk}{h:PH}{F:List Nat}(D:oQ a d h F):cD PG h (loadAt dZ (pT a 0))=some (aFf d):=by
 obtain⟨sv,bv,Fs,Fb,rfl,B,-⟩:=D.here;exact(DkB.of B).geo
def aHq{h:PH}{a:Nat}{d:Dk}{F:List Nat}(D:oQ a d h F)(h2:2≤d.sectors){k:cE}(hk:∀h',dA h h'->k (.int .i64 (d.segs:Int)) h'):bT PG qD #[rO a] h k:=by
 apply aA1.call;unfold aA1;have hm:=D.ok.many;intro r1 hr1
 try rw[cR]
 have u1:dA h (h.set r1 (.cells (Value.cells (rO a)) dY)):=cX.new hr1;have B1:Bx (h.set r1 (.cells (Value.cells (rO a)) dY)) r1 [pT a 0]:=Bx.new;generalize h.set r1 (.cells (Value.cells (rO a)) dY)=h1 at *;have D1:=D.ext u1;have w1:IntKind.i64.wrap ((d.sectors:Int)-2)=((d.sectors-2:Nat):Int):=by rw[eB (by omega) (by omega)];omega
 have w2:cB PG (binOp .quo aR (.int .i64 ((d.sectors-2:Nat):Int)) (.int .i64 2))=some (.int .i64 (d.segs:Int)):=by
  have e:Int.tdiv ((d.sectors-2:Nat):Int) 2=(d.segs:Int):=rfl;have e2:IntKind.i64.wrap (d.segs:Int)=(d.segs:Int):=eB (by omega) (by unfold Dk.segs;omega);rw[aKZ (by decide),e,e2]
 simp only[dY.f0,fY.load,gO B1,dW.f0,D1.geo,cC,reduceIte,cI,Nat.reduceAdd];refine aMw d λh3 u3=>?_;simp only[w1,w2,cC,reduceIte,cI,Nat.reduceAdd];exact hk h3 (u1.trans u3)
def aNu{h:PH}{a:Nat}{d:Dk}{F:List Nat}(D:oQ a d h F)(h2:2≤d.sectors)(seg:Nat)(hs:seg≤1){k:cE}(hk:∀h',dA h h'->k (.int .i64 (d.base seg:Int)) h'):bT PG xL #[rO a,.int .i64 (seg:Int)] h k:=by
 apply aDL.call;unfold aDL;have hm:=D.ok.many;intro r1 hr1
 try rw[cR]
 have u1:dA h (h.set r1 (.cells (Value.cells (rO a)) dY)):=cX.new hr1;have B1:Bx (h.set r1 (.cells (Value.cells (rO a)) dY)) r1 [pT a 0]:=Bx.new;generalize h.set r1 (.cells (Value.cells (rO a)) dY)=h1 at *;have D1:=D.ext u1;have l1:cD PG h1 (loadAt dY (pT r1 0))=some (rO a):=dY.agg B1 (by show 0+1≤1;decide);have hsg:d.segs≤4096:=by unfold Dk.segs;omega
 have hsm:seg*d.segs≤1*d.segs:=zLO _ hs;have w1:IntKind.i64.wrap ((seg:Int)*(d.segs:Int))=((seg*d.segs:Nat):Int):=by rw[←Int.natCast_mul,eB (by omega) (by omega)]
 have w2:IntKind.i64.wrap ((2:Int)+((seg*d.segs:Nat):Int))=(d.base seg:Int):=by
  rw[eB (by omega) (by omega)];unfold Dk.base;omega
 simp only[l1,cC,reduceIte,cI,Nat.reduceAdd];refine aHq D1 h2 λh3 u3=>?_;simp only[nU,w1,w2,cC,reduceIte,cI,Nat.reduceAdd];exact hk h3 (u1.trans u3)
def aOk(d:Dk)(n i:Nat):(d.secs n (i+1)).flatten=(d.secs n i).flatten++d.at (n+i):=by
 unfold Dk.secs;rw[List.range_succ,xJ,zLG];simp
def aGz{d:Dk}(H:d.Ok){n k:Nat}(h:n+k≤d.sectors):∀s∈d.secs n k,s.length=d.size:=by
 intro s hs;unfold Dk.secs at hs;obtain⟨i,hi,rfl⟩:=pQ.1 hs;rw[aFM] at hi;exact H.at_len (by omega)
def aMG{h:PH}{a:Nat}{d:Dk}{F:List Nat}(D:oQ a d h F)(n m:Nat)(hnm:n+m≤d.sectors)(hb:d.buf.length≤1000000){k:cE}(hk:∀h',dA h h'->k (.string (tx (d.secs n m).flatten)) h'):bT PG xH #[rO a,.int .i64 (n:Int),.int .i64 (m:Int)] h k:=by
 apply aDI.call;unfold aDI;have hm:=D.ok.many;have hz:=D.ok.size;unfold gB at hz;intro r1 hr1
 try rw[cR]
 have u1:dA h (h.set r1 (.cells (Value.cells (rO a)) dY)):=cX.new hr1;have B1:Bx (h.set r1 (.cells (Value.cells (rO a)) dY)) r1 [pT a 0]:=Bx.new;generalize h.set r1 (.cells (Value.cells (rO a)) dY)=h1 at *;rw[zB];intro r3 hr3
 try rw[cR]
 have u3:dA h1 (h1.set r3 (.cells #[.pointer none,.slice none 0 0] dH)):=cX.new hr3;have b3:BAt (h1.set r3 (.cells #[.pointer none,.slice none 0 0] dH)) r3 [] [r3]:=BAt.zero eN;have hne:r1≠r3:=B1.apart hr3;have B3:=B1.ext u3;generalize h1.set r3 (.cells #[.pointer none,.slice none 0 0] dH)=h3 at *;have e3:=u1.trans u3;have f3:h r3=none:=u1.none hr3;refine⟨λvs h'=>∃(i:Nat) (G:List Nat),i≤m∧vs=[.int .i64 (n:Int),pT r1 0,pT r3 0,.int .i64 (m:Int),.int .i64 (i:Int)]∧Bx h' r1 [pT a 0]∧BAt h' r3 (d.secs n i).flatten G∧eD h G∧r1∉G∧dA h h',fT m 4,⟨0,[r3],by omega,rfl,B3,b3,eD.one f3,by simpa using hne,e3⟩,?_⟩;rintro ρ h' ⟨i,G,hi,hvs,B,b,fG,nG,w⟩;simp only[iG,jB,kZ,and_true] at hvs;obtain⟨x1,x3,x7,x11,x12⟩:=hvs;unfold aHV;rw[x1,x3,x7,x11,x12];have hfl:(d.secs n i).flatten.length=i*d.size:=by rw[aBx (aGz D.ok (by omega)),Dk.secs_len]
 have him:i*d.size≤4096*512:=Nat.mul_le_mul (by omega) hz.2;by_cases hlt:i<m
 ·have g:((i:Int)<(m:Int))=True:=eq_true (by omega);have gi:=nR (i:=i) (by omega);have gn:IntKind.i64.wrap ((n:Int)+(i:Int))=((n+i:Nat):Int):=by rw[eB (by omega) (by omega)];omega
  have erd:d.rd ((n+i:Nat):Int)=(d.at (n+i),0):=by
   unfold Dk.rd;rw[if_neg (by omega)];rfl
  have hal:=D.ok.at_len (n:=n+i) (by omega);simp only[g,dY.f0,fY.load,gO B,gn,cC,reduceIte,cI,Nat.reduceAdd];refine aVK (D.ext w) _ hb λh5 u5=>?_;rw[erd];simp only[cC,reduceIte,cI,Nat.reduceAdd];refine Bld.WriteString_ok (b.ext u5) (by omega) λh6 G6 b6 u6 g6=>?_;simp only[gi,cC,reduceIte,cI,Nat.reduceAdd];have w5:=w.trans u5;refine⟨⟨i+1,G6,by omega,rfl,(B.ext u5).upd u6 nG,by rw[aOk];exact b6,λx hx=>?_,λhx=>?_,w5.fresh u6 fG⟩,by simp[fT,x12];omega⟩
  ·rcases g6 x hx with e|e
   ·exact fG x e
   ·exact w5.none e
  ·rcases g6 r1 hx with e|e
   ·exact nG e
   ·exact(B.ext u5).known e
 ·have g:((i:Int)<(m:Int))=False:=eq_false (by omega);obtain rfl:i=m:=by omega
  simp only[g,cC,reduceIte,cI,Nat.reduceAdd];refine Bld.String_ok b λh5 u5=>?_;exact hk h5 (w.fresh u5 fG)
def eH.step{h h':PH}{e:TypeId}{n:Nat}{v:Value}{rows:List (List Value)}{F F' G:List Nat}(O:eH h e n v rows G)(s:eA h F h' F')(hd:∀b∈G,b∉F):eH h' e n v rows G∧∀b∈G,b∉F':=
 ⟨O.upd s.upd hd,λb hb hm=>by
  rcases s.grow b hm with e1|e1
  ·exact hd b hb e1
  ·exact O.known b hb e1⟩
def Bx.step{h h':PH}{r:Nat}{cs:List Value}{F F':List Nat}(B:Bx h r cs)(s:eA h F h' F')(hd:r∉F):Bx h' r cs∧r∉F':=
 ⟨B.upd s.upd hd,λhm=>by
  rcases s.grow r hm with e1|e1
  ·exact hd e1
  ·exact B.known e1⟩
def aK9(d:Dk)(n:Nat)(s:Tx)(l:List Tx):iE d n (s::l)=if (d.wr (n:Int) s).2≠0 then((d.wr (n:Int) s).1,(d.wr (n:Int) s).2) else iE (d.wr (n:Int) s).1 (n+1) l:=rfl
def aPy(d:Dk)(n:Int)(s:Tx):(d.wr n s).1.buf.length≤d.buf.length+1:=by
 unfold Dk.wr;split
 ·simp
 ·split
  ·show d.buf.length≤_;omega
  ·simp
def aLV{h:PH}{a:Nat}{d:Dk}{F G:List Nat}{v:Value}{l:List Tx}(D:oQ a d h F)(n:Nat)(hn:n≤1000000)(O:eH h aT 1 v (l.map jI) G)(hd:∀b∈G,b∉F)(hb:d.buf.length+l.length≤1000000){k:cE}(hk:∀h' F',oQ a (iE d n l).1 h' F'->eA h F h' F'->k (.int .i64 (iE d n l).2) h'):bT PG uI #[rO a,.int .i64 (n:Int),v] h k:=by
 apply aEM.call;unfold aEM;obtain⟨T,hT⟩:∃T,iE d n l=T:=⟨_,rfl⟩;rw[hT] at hk;intro r1 hr1
 try rw[cR]
 have u1:dA h (h.set r1 (.cells (Value.cells (rO a)) dY)):=cX.new hr1;have B1:Bx (h.set r1 (.cells (Value.cells (rO a)) dY)) r1 [pT a 0]:=Bx.new;generalize h.set r1 (.cells (Value.cells (rO a)) dY)=h1 at *;have D1:=D.ext u1;have n1:r1∉F:=λhm=>D.known r1 hm hr1;simp only[aAK O.slR,cC,reduceIte,cI,Nat.reduceAdd];refine⟨λvs h'=>∃(i:Nat) (d':Dk) (F':List Nat),i≤l.length∧vs=[.int .i64 (n:Int),pT r1 0,v,.int .i64 (l.length:Int),.int .i64 (i:Int)]∧Bx h' r1 [pT a 0]∧r1∉F'∧oQ a d' h' F'∧eH h' aT 1 v (l.map jI) G∧(∀b∈G,b∉F')∧T=iE d' (n+i) (l.drop i)∧d'.buf.length≤d.buf.length+i∧eA h F h' F',fT l.length 4,⟨0,d,F,by omega,rfl,B1,n1,D1,O.ext u1,hd,hT.symm,by omega,eA.ext u1⟩,?_⟩;rintro ρ h' ⟨i,d',F',hi,hvs,B,nB,D',O',hd',hT',hb',st⟩;simp only[iG,jB,kZ,and_true] at hvs;obtain⟨x1,x3,x10,x11,x12⟩:=hvs;unfold aIB;rw[x1,x3,x10,x11,x12];by_cases hlt:i<l.length
 ·have g:((i:Int)<(l.length:Int))=True:=eq_true (by omega);have gi:=nR (i:=i) (by omega);have gn:IntKind.i64.wrap ((n:Int)+(i:Int))=((n+i:Nat):Int):=by rw[eB (by omega) (by omega)];omega
  obtain⟨x,hx⟩:∃x,l[i]? =some x:=⟨_,kF hlt⟩;have ed:l.drop i=x::l.drop (i+1):=by
   rw[aAs hlt];have:l[i]=x:=by rw[kF hlt] at hx;simpa using hx
   rw[this]
  rw[ed,aK9] at hT';obtain⟨p,i1,i2⟩:=aJB O'.slR hx;simp only[g,i1,i2,dY.f0,fY.load,gO B,gn,cC,reduceIte,cI,Nat.reduceAdd];refine aS5 D' _ x (by omega) λh5 F5 D5 s5=>?_;have st5:=st.trans s5;by_cases c:(d'.wr ((n+i:Nat):Int) x).2=0
  ·have q:((d'.wr ((n+i:Nat):Int) x).2 !=0)=false:=by rw[c];rfl
   rw[if_neg (λe=>e c)] at hT';simp only[eI,q,gi,cC,reduceIte,cI,Nat.reduceAdd];obtain⟨B5,nB5⟩:=B.step s5 nB;obtain⟨O5,hd5⟩:=O'.step s5 hd';have:=aPy d' ((n+i:Nat):Int) x;exact⟨⟨i+1,_,F5,by omega,rfl,B5,nB5,D5,O5,hd5,by rw[←Nat.add_assoc];exact hT',by omega,st5⟩,by simp[fT,x12];omega⟩
  ·have q:((d'.wr ((n+i:Nat):Int) x).2 !=0)=true:=bne_iff_ne.2 c;rw[if_pos c] at hT';simp only[eI,q,cC,reduceIte,cI,Nat.reduceAdd];subst hT';exact hk h5 F5 D5 st5
 ·have g:((i:Int)<(l.length:Int))=False:=eq_false (by omega);have ed:l.drop i=[]:=yQ (by omega);rw[ed] at hT';have hT':T=d'.fl:=hT';simp only[g,dY.f0,fY.load,gO B,cC,reduceIte,cI,Nat.reduceAdd];refine aPX D' (by omega) λh5 F5 D5 s5=>?_;subst hT';exact hk h5 F5 D5 (st.trans s5)
end
section
open Go
def aIj(room:Int)(st:Dm×Int)(x:Rc):Dm×Int:=if st.2=0 then lT st.1 room x else st
def wlk(room:Int)(x:Rc)(l:List Rc):Dm×Int:=l.foldl (aIj room) (x.s,chk x.s room)
def Rg(x:Rc):Prop:=yI x∧x.wf
def aUY{room:Int}{x:Rc}(g:Rg x)(st:Dm×Int):mT room st x.bs=aIj room st x:=by
 unfold mT aIj;rw[aMi g.1 g.2];simp
def aI8{room:Int}:∀(l:List Rc) {st:Dm×Int},st.2≠0->l.foldl (aIj room) st=st
 | [],_,_=>rfl
 | x::l,st,h=>by
  rw[zLt,show aIj room st x=st from if_neg h];exact aI8 l h
def aRC{room:Int}:∀{l:List Rc} (_:∀x∈l,Rg x) (st:Dm×Int),(l.map Rc.bs).foldl (mT room) st=l.foldl (aIj room) st
 | [],_,_=>rfl
 | x::l,h,st=>by
  rw[iG,zLt,zLt,aUY (h x (by simp))];exact aRC (λy hy=>h y (by simp[hy])) _
def aMR{room:Int}{x:Rc}{l:List Rc}(h:∀y∈x::l,Rg y)(k1:x.k=1):yM room ((x::l).map Rc.bs)=if (wlk room x l).2≠0 then(Dm.zero,(wlk room x l).2) else wlk room x l:=by
 have gx:=h x (by simp);have gl:=λy hy=>h y (aHC _ hy);rw[iG];unfold yM;simp only[aRC gl];have e:lY room x.bs=if chk x.s room≠0 then(Dm.zero,chk x.s room) else(x.s,0):=by
  unfold lY;rw[aMi gx.1 gx.2];simp[k1]
 rw[e];unfold wlk;by_cases c:chk x.s room=0
 ·simp only[c,ne_eq,not_true_eq_false,if_false]
 ·rw[if_pos c,aI8 l (st:=(Dm.zero,chk x.s room)) c,aI8 l (st:=(x.s,chk x.s room)) c];simp[c]
structure Jn where
 w:Wl
 room:Int
 s:Dm
def Jn.zero:Jn:=⟨Wl.zero,0,Dm.zero⟩
def mA(d:Dm):Rc:=⟨1,d,0,Pl.zero,[]⟩
def fZ(d:Dm):Tx:=(mA d).bytes.1
def gN(ch:Int)(q:Pl)(ns:List Nt):Rc:=⟨2,Dm.zero,ch,q,ns⟩
def kE(room:Int)(s0:Dm)(l:List Tx):Dm×Int:=if l=[] then(s0,0) else yM room l
def fU(d:Dk)(room:Int)(p q:Pl):Dk×Jn×Int:=
 if chk ⟨p,q,[]⟩ room≠0 then(d,Jn.zero,chk ⟨p,q,[]⟩ room)
 else if (fA d).2.2≠0 then((fA d).1,Jn.zero,(fA d).2.2)
 else if (kE room ⟨p,q,[]⟩ (fA d).2.1.2).2≠0 then((fA d).1,Jn.zero,(kE room ⟨p,q,[]⟩ (fA d).2.1.2).2)
 else if (fP (fA d).1 (fA d).2.1.1 (fZ (kE room ⟨p,q,[]⟩ (fA d).2.1.2).1)).2.2≠0 then
  ((fP (fA d).1 (fA d).2.1.1 (fZ (kE room ⟨p,q,[]⟩ (fA d).2.1.2).1)).1,Jn.zero,(fP (fA d).1 (fA d).2.1.1 (fZ (kE room ⟨p,q,[]⟩ (fA d).2.1.2).1)).2.2)
 else((fP (fA d).1 (fA d).2.1.1 (fZ (kE room ⟨p,q,[]⟩ (fA d).2.1.2).1)).1,⟨(fP (fA d).1 (fA d).2.1.1 (fZ (kE room ⟨p,q,[]⟩ (fA d).2.1.2).1)).2.1,room,(kE room ⟨p,q,[]⟩ (fA d).2.1.2).1⟩,0)
def vH(d:Dk)(j:Jn)(r:Rc)(next:Dm):Dk×Wl×Int:=if fits d j.w r.bytes.1.length then hM d j.w r.bytes.1 else fP d j.w (fZ next)
def lS(d:Dk)(j:Jn)(ch:Int)(q:Pl)(ns:List Nt):Dk×Jn×Int:=
 if j.w.broken then(d,j,14)
 else if (lT j.s j.room (gN ch q ns)).2≠0 then(d,j,(lT j.s j.room (gN ch q ns)).2)
 else((vH d j (gN ch q ns) (lT j.s j.room (gN ch q ns)).1).1,⟨(vH d j (gN ch q ns) (lT j.s j.room (gN ch q ns)).1).2.1,j.room,if (vH d j (gN ch q ns) (lT j.s j.room (gN ch q ns)).1).2.2=0 then(lT j.s j.room (gN ch q ns)).1 else j.s⟩,(vH d j (gN ch q ns) (lT j.s j.room (gN ch q ns)).1).2.2)
def aT1{L:List It}(h:∀x∈L,x.p.wf){n:Nt}(hn:n.p.wf)(room:Int):∀x∈qJ L room n,x.p.wf:=by
 have key:∀i:It,i.p.wf->∀x∈pS L i,x.p.wf:=λi hi x hx=>by
  rcases aRV hx with rfl|hx
  ·exact hi
  ·exact h x hx
 have keyp:∀i:It,i.p.wf->∀x∈sJ L room i,x.p.wf:=λi hi=>by
  unfold sJ;split
  ·exact h
  ·exact key i hi
 unfold qJ;split
 ·exact h
 ·split
  ·split
   ·exact h
   ·exact keyp _ hn
  ·split
   ·split
    ·rename_i x hx;exact key _ (h x (aAt hx).1)
    ·exact keyp _ hn
   ·intro x hx;unfold rI at hx;exact h x (zLY.1 hx).1
def aRc{room:Int}:∀(l:List Nt) {L:List It} (_:∀x∈L,x.p.wf) (_:∀n∈l,n.p.wf),∀x∈(mB room L l).1,x.p.wf
 | [],L,h,_=>h
 | n::l,L,h,hl=>by
  unfold mB;split
  ·exact aT1 h (hl n (by simp)) room
  ·exact aRc l (aT1 h (hl n (by simp)) room) λm hm=>hl m (by simp[hm])
def aJH{d:Dm}{room:Int}{r:Rc}(h:(lT d room r).2=0)(hd:d.wf)(hr:r.wf):(lT d room r).1.wf:=by
 obtain⟨-,-,-,c⟩:=aEZ h;rcases c with⟨-,e⟩|⟨-,-,-,e⟩
 ·rw[e];exact hr.s
 ·rw[e];refine⟨?_,?_,aRc r.ns hd.i hr.n⟩
  ·show(if r.ch=0 then r.pl else d.p0).wf;exact aPC hr.pl hd.a
  ·show(if r.ch=0 then d.p1 else r.pl).wf;exact aPC hd.b hr.pl
def aUZ{i:It}(h:i.right=true):aEQ i:=by
 unfold It.right at h;simp only[sU,aHE,decide_eq_true_eq] at h;exact⟨by omega,by omega,h.2⟩
def aB7{s:Dm}{room:Int}(H:OkD s room):yI (mA s):=by
 refine⟨?_,λ_=>⟨H.p0,H.p1,λi hi=>aUZ (H.ar i hi)⟩,λh=>by cases h⟩;unfold Rc.plain;rw[if_pos (by rfl)];have:=H.len;have:=H.r2;simp only[sU,decide_eq_true_eq];exact⟨⟨⟨rfl,rfl⟩,rfl⟩,by show s.its.length≤40;omega⟩
def aKC{s:Dm}(w:s.wf):(mA s).wf:=⟨w,Pl.wf_zero,by simp[mA]⟩
def aJj{s:Dm}{room:Int}(H:OkD s room):fZ s=(mA s).bs:=by
 unfold fZ;rcases aAd (mA s) with⟨-,b⟩|⟨a,-⟩
 ·rw[b]
 ·exact absurd (aB7 H) a
def aGG{r:Rc}(h:yI r):r.bs.length≤4096:=by
 unfold Rc.bs;split
 case isTrue k1=>
  obtain⟨-,-,-,h40⟩:=xM h.plain k1;have:=aMZ (l:=r.s.its.map It.x) (by simp only[aJC,aPo];exact(h.a k1).2.2);simp only[Pl.bs,sP,jM,hY,iL] at *;omega
 case isFalse k1=>
  obtain⟨k2,-,-,h16⟩:=rW h.plain k1;have:=aMZ (l:=r.ns.map Nt.x) (by simp only[aJC,aQJ];exact(h.b k2).2);simp only[Pl.bs,sP,jM,hY,iL] at *;omega
structure aEV(d:Dk)(j:Jn):Prop where
 log:∃s0 rs,Log d j.w ((mA s0::rs).map Rc.bs)∧(∀y∈mA s0::rs,Rg y)∧wlk j.room (mA s0) rs=(j.s,0)
 ready:j.w.ready=true
 ok:OkD j.s j.room
 wf:j.s.wf
def aEV.broken{d:Dk}{j:Jn}(H:aEV d j):j.w.broken=false:=by
 obtain⟨_,_,L,-⟩:=H.log;exact L.broken
def aTX{w:Wl}(h:w.broken=false){e:Int}(he:e≠13):w.brk e=w:=by
 obtain⟨a,b,c,d,f,g⟩:=w;simp only at h;subst h;unfold Wl.brk;simp[he]
def aKk{d:Dk}{w:Wl}{l:List Tx}(L:Log d w l)(hg:w.hd.gen<18446744073709551614){s:Dm}{room:Int}(ok:OkD s room)(wf:s.wf):
  (∃d' w',fP d w (fZ s)=(d',w',0)∧aEV d' ⟨w',room,s⟩∧w'.hd.gen=w.hd.gen+1∧d'.size=d.size∧d'.sectors=d.sectors)∨fP d w (fZ s)=(d,w,2):=by
 have hw:=aB7 ok;have hs:=aGG hw;rw[aJj ok];by_cases c:dL d.size (mA s).bs.length≤d.segs
 ·left;obtain⟨d',w',e,L',r,g,z1,z2⟩:=aOa L hs c hg;refine⟨d',w',e,⟨⟨s,[],L',?_,?_⟩,r,ok,wf⟩,g,z1,z2⟩
  ·intro y hy;simp only[iC] at hy;rw[hy];exact⟨hw,aKC wf⟩
  ·show(s,chk s room)=(s,0);rw[aC5.2 ok]
 ·right;have h1:=tL (n:=(mA s).bs.length) L.ok.size hs;unfold fP;rw[if_neg (by rw[L.broken];simp),if_neg (by omega),if_pos (by omega),aTX L.broken (by decide)]
def aVM{d:Dk}{j:Jn}(H:aEV d j)(hg:j.w.hd.gen<18446744073709551614){ch:Int}{q:Pl}{ns:List Nt}(wf:(gN ch q ns).wf):
  ∃d' j' e,lS d j ch q ns=(d',j',e)∧aEV d' j'∧j'.w.hd.gen≤j.w.hd.gen+1∧j'.room=j.room∧d'.size=d.size∧d'.sectors=d.sectors∧
   ((lT j.s j.room (gN ch q ns)).2≠0->e=(lT j.s j.room (gN ch q ns)).2∧j'.s=j.s)∧
   ((lT j.s j.room (gN ch q ns)).2=0->(e=0∧j'.s=(lT j.s j.room (gN ch q ns)).1)∨(e=2∧j'.s=j.s)):=by
 unfold lS;rw[if_neg (by rw[H.broken];simp)];by_cases c:(lT j.s j.room (gN ch q ns)).2=0
 ·rw[if_neg (by simp[c])];obtain⟨-,hr,ho,-⟩:=aEZ c;have hw:=aJH c H.wf wf;obtain⟨s0,rs,L,rg,wk⟩:=H.log;have eb:(gN ch q ns).bytes.1=(gN ch q ns).bs:=by
   rcases aAd (gN ch q ns) with⟨-,b⟩|⟨a,-⟩
   ·rw[b]
   ·exact absurd hr a
  unfold vH;rw[eb];cases hf:fits d j.w (gN ch q ns).bs.length with
  | true=>
   rw[if_pos rfl];obtain⟨d',w',e,L',r,g,z1,z2⟩:=aNB L H.ready (aGG hr) hf;rw[e];refine⟨d',_,0,rfl,⟨⟨s0,rs++[gN ch q ns],?_,?_,?_⟩,r,?_,?_⟩,by show w'.hd.gen≤_;omega,rfl,z1,z2,λh=>absurd c h,λ_=>.inl ⟨rfl,show(if (0:Int)=0 then(lT j.s j.room (gN ch q ns)).1 else j.s)=_ from if_pos rfl⟩⟩
   ·rw[←zLT,xJ];exact L'
   ·intro y hy;rw[←zLT] at hy;rcases tK.1 hy with hy|hy
    ·exact rg y hy
    ·simp only[iC] at hy;rw[hy];exact⟨hr,wf⟩
   ·show wlk j.room (mA s0) (rs++[gN ch q ns])=(if (0:Int)=0 then(lT j.s j.room (gN ch q ns)).1 else j.s,0);rw[if_pos rfl];unfold wlk at wk ⊢;rw[List.foldl_append,wk];show aIj j.room (j.s,0) (gN ch q ns)=_;unfold aIj;rw[if_pos rfl];simp only;rw[←c]
   ·show OkD (if (0:Int)=0 then(lT j.s j.room (gN ch q ns)).1 else j.s) j.room;rw[if_pos rfl];exact ho
   ·show(if (0:Int)=0 then(lT j.s j.room (gN ch q ns)).1 else j.s).wf;rw[if_pos rfl];exact hw
  | false=>
   rw[if_neg (by simp)];rcases aKk L hg ho hw with⟨d',w',e,I,g,z1,z2⟩|e
   ·rw[e];refine⟨d',_,0,rfl,?_,by show w'.hd.gen≤_;omega,rfl,z1,z2,λh=>absurd c h,λ_=>.inl ⟨rfl,show(if (0:Int)=0 then(lT j.s j.room (gN ch q ns)).1 else j.s)=_ from if_pos rfl⟩⟩;show aEV d' ⟨w',j.room,if (0:Int)=0 then(lT j.s j.room (gN ch q ns)).1 else j.s⟩;rw[if_pos rfl];exact I
   ·rw[e];refine⟨d,_,2,rfl,?_,by show j.w.hd.gen≤_;omega,rfl,rfl,rfl,λh=>absurd c h,λ_=>.inr ⟨rfl,show(if (2:Int)=0 then(lT j.s j.room (gN ch q ns)).1 else j.s)=_ from if_neg (by decide)⟩⟩;show aEV d ⟨j.w,j.room,if (2:Int)=0 then(lT j.s j.room (gN ch q ns)).1 else j.s⟩;rw[if_neg (by decide)];exact H
 ·rw[if_pos c];exact⟨d,j,_,rfl,H,by omega,rfl,rfl,rfl,λ_=>⟨rfl,rfl⟩,λh=>absurd h c⟩
def aSP{d:Dk}{j:Jn}(H:aEV d j)(hg:j.w.hd.gen<18446744073709551614){p q:Pl}(hc:chk ⟨p,q,[]⟩ j.room=0):
  (∃d' w',fU d j.room p q=(d',⟨w',j.room,j.s⟩,0)∧aEV d' ⟨w',j.room,j.s⟩∧w'.hd.gen=j.w.hd.gen+1∧d'.size=d.size∧d'.sectors=d.sectors)∨(fU d j.room p q).2.2=2:=by
 obtain⟨s0,rs,L,rg,wk⟩:=H.log;have eo:=aPj L;have es:kE j.room ⟨p,q,[]⟩ ((mA s0::rs).map Rc.bs)=(j.s,0):=by
  unfold kE;rw[if_neg (by simp),aMR rg rfl,wk];simp
 have L':Log d ⟨j.w.hd,j.w.slot,j.w.used,j.w.ser,false,false⟩ ((mA s0::rs).map Rc.bs):=⟨L.ok,L.arm,L.buf,L.four,L.g1,L.g2,L.seg,L.slot,L.head,L.other,L.used,L.fits,L.ser,L.recs,L.short,L.rest,L.all,rfl⟩;unfold fU;rw[if_neg (by simp[hc]),eo];simp only;rw[if_neg (by simp),es];simp only;rw[if_neg (by simp)];rcases aKk L' hg H.ok H.wf with⟨d',w',e,I,g,z1,z2⟩|e
 ·left;rw[e];simp only;rw[if_neg (by simp)];exact⟨d',w',rfl,I,g,z1,z2⟩
 ·right;rw[e];simp only;rw[if_pos (by decide)]
def aXf(e:Int):Prop:=e≠13∧e≠14
instance (e:Int):Decidable (aXf e):=by unfold aXf;infer_instance
def aTm{d:Dk}{j:Jn}(H:d.Ok)(r:Rc)(next:Dm):(vH d j r next).1.Ok∧(vH d j r next).1.size=d.size∧(vH d j r next).1.sectors=d.sectors:=by
 have ha:∀s,(hM d j.w s).1.Ok∧(hM d j.w s).1.size=d.size∧(hM d j.w s).1.sectors=d.sectors:=λs=>by
  obtain⟨a,b,c,-⟩:=pW (fR d.size j.w.hd.gen j.w.ser s) H (d.base j.w.hd.seg+j.w.used);unfold hM;split
  ·exact⟨H,rfl,rfl⟩
  ·split
   ·exact⟨H,rfl,rfl⟩
   ·split
    ·exact⟨H,rfl,rfl⟩
    ·split
     ·exact⟨H,rfl,rfl⟩
     ·split<;>exact⟨a,b,c⟩
 have hc:∀s,(fP d j.w s).1.Ok∧(fP d j.w s).1.size=d.size∧(fP d j.w s).1.sectors=d.sectors:=λs=>by
  obtain⟨a,b,c,-⟩:=pW (fR d.size (gT j.w.hd).1.gen 0 s) H (d.base (gT j.w.hd).1.seg);obtain⟨a',b',c',-⟩:=pW [(fO d.size (gT j.w.hd).1).1] a (1-j.w.slot);unfold fP;split
  ·exact⟨H,rfl,rfl⟩
  ·split
   ·exact⟨H,rfl,rfl⟩
   ·split
    ·exact⟨H,rfl,rfl⟩
    ·split
     ·exact⟨H,rfl,rfl⟩
     ·split
      ·exact⟨a,b,c⟩
      ·split<;>exact⟨a',b'.trans b,c'.trans c⟩
 unfold vH;split
 ·exact ha _
 ·exact hc _
def aU4{d:Dk}{j:Jn}(H:d.Ok)(ch:Int)(q:Pl)(ns:List Nt):(lS d j ch q ns).1.Ok∧(lS d j ch q ns).1.size=d.size∧(lS d j ch q ns).1.sectors=d.sectors:=by
 unfold lS;split
 ·exact⟨H,rfl,rfl⟩
 ·split
  ·exact⟨H,rfl,rfl⟩
  ·exact aTm H _ _
def aGF{d d':Dk}(h:d'.sectors=d.sectors):d'.segs=d.segs:=by unfold Dk.segs;rw[h]
def yB.brk{d:Dk}{w:Wl}(H:yB d w)(e:Int):yB d (w.brk e):=⟨H.ok,H.four,H.seg,H.slot,H.used⟩
def yB.to{d d':Dk}{w:Wl}(H:yB d w)(ok:d'.Ok)(h:d'.sectors=d.sectors):yB d' w:=⟨ok,by rw[h];exact H.four,H.seg,H.slot,by rw[aGF h];exact H.used⟩
def yB.append{d:Dk}{w:Wl}(H:yB d w)(s:Tx):yB (hM d w s).1 (hM d w s).2.1∧(hM d w s).1.size=d.size∧(hM d w s).1.sectors=d.sectors:=by
 obtain⟨a,b,c,-⟩:=pW (fR d.size w.hd.gen w.ser s) H.ok (d.base w.hd.seg+w.used);unfold hM;split
 ·exact⟨H,rfl,rfl⟩
 ·split
  ·exact⟨H.brk _,rfl,rfl⟩
  ·split
   ·exact⟨H.brk _,rfl,rfl⟩
   ·split
    ·exact⟨H.brk _,rfl,rfl⟩
    ·rename_i hf;split
     ·exact⟨(H.brk _).to a c,b,c⟩
     ·have hf:fits d w s.length=true:=by simpa using hf
      unfold fits at hf;rw[decide_eq_true_eq] at hf;refine⟨⟨a,by show 4≤(rG d w s).1.sectors;unfold rG;rw[c];exact H.four,H.seg,H.slot,?_⟩,b,c⟩;show w.used+dL d.size s.length≤(rG d w s).1.segs;have:=aGF (d:=d) (d':=(rG d w s).1) c;omega
def yB.check{d:Dk}{w:Wl}(H:yB d w)(s:Tx):yB (fP d w s).1 (fP d w s).2.1∧(fP d w s).1.size=d.size∧(fP d w s).1.sectors=d.sectors:=by
 obtain⟨a,b,c,-⟩:=pW (fR d.size (gT w.hd).1.gen 0 s) H.ok (d.base (gT w.hd).1.seg);obtain⟨a',b',c',-⟩:=pW [(fO d.size (gT w.hd).1).1] a (1-w.slot);unfold fP;split
 ·exact⟨H,rfl,rfl⟩
 ·split
  ·exact⟨H.brk _,rfl,rfl⟩
  ·split
   ·exact⟨H.brk _,rfl,rfl⟩
   ·rename_i hp;split
    ·exact⟨H.brk _,rfl,rfl⟩
    ·split
     ·exact⟨(H.brk _).to a c,b,c⟩
     ·have e2:(iE (lL d (gT w.hd).1 s).1 (1-w.slot) [(fO d.size (gT w.hd).1).1]).1.sectors=d.sectors:=c'.trans c;split
      ·exact⟨(H.brk _).to a' e2,b'.trans b,e2⟩
      ·refine⟨⟨a',by show 4≤(iE _ _ _).1.sectors;rw[e2];exact H.four,aJu _,by show 1-w.slot≤1;omega,?_⟩,b'.trans b,e2⟩;show dL d.size s.length≤(iE (lL d (gT w.hd).1 s).1 (1-w.slot) [(fO d.size (gT w.hd).1).1]).1.segs;rw[aGF e2];omega
def aPK{d:Dk}(H:d.Ok)(room:Int)(p q:Pl):(fU d room p q).1.Ok∧(fU d room p q).1.size=d.size∧(fU d room p q).1.sectors=d.sectors∧((fU d room p q).2.2=0->yB (fU d room p q).1 (fU d room p q).2.1.w∧(fU d room p q).2.1.room=room):=by
 obtain⟨a,b,c,e⟩:=aM0 H;unfold fU;split
 ·rename_i h;exact⟨H,rfl,rfl,λx=>absurd x h⟩
 ·split
  ·rename_i h;exact⟨a,b,c,λx=>absurd x h⟩
  ·rename_i h;have hw:=e (Classical.not_not.1 h);split
   ·rename_i h;exact⟨a,b,c,λx=>absurd x h⟩
   ·obtain⟨k1,k2,k3⟩:=hw.check (fZ (kE room ⟨p,q,[]⟩ (fA d).2.1.2).1);split
    ·rename_i h;exact⟨k1.ok,k2.trans b,k3.trans c,λx=>absurd x h⟩
    ·exact⟨k1.ok,k2.trans b,k3.trans c,λ_=>⟨k1,rfl⟩⟩
def Wl.cells(a:Nat)(x:Wl):List Value:=[pT a 0,.int .u64 (x.hd.gen:Int),.int .i64 (x.hd.seg:Int),.int .i64 (x.slot:Int),.int .i64 (x.used:Int),.int .u64 (x.ser:Int),.bool x.ready,.bool x.broken]
structure xY(a w:Nat)(d:Dk)(x:Wl)(h:PH)(F:List Nat):Prop where
 here:∃Fd,F=w::Fd∧Bx h w (x.cells a)∧oQ a d h Fd∧w∉Fd
 ok:yB d x
 ser:x.ser≤x.used
 gen:x.hd.gen<18446744073709551616
def xY.upd{a w:Nat}{d:Dk}{x:Wl}{h h':PH}{F K:List Nat}(H:xY a w d x h F)(u:cX K h h')(hK:∀b∈F,b∉K):xY a w d x h' F:=by
 obtain⟨Fd,rfl,B,D,n⟩:=H.here;exact⟨⟨Fd,rfl,B.upd u (hK w (by simp)),D.upd u (λb hb=>hK b (by simp[hb])),n⟩,H.ok,H.ser,H.gen⟩
def xY.known{a w:Nat}{d:Dk}{x:Wl}{h:PH}{F:List Nat}(H:xY a w d x h F):∀b∈F,h b≠none:=by
 obtain⟨Fd,rfl,B,D,n⟩:=H.here;intro b hb;rcases iW.1 hb with rfl|hb
 ·exact B.known
 ·exact D.known b hb
def xY.good(a w:Nat)(d:Dk)(x:Wl):aH7 (xY a w d x):=⟨λH=>H.known,λH u hK=>H.upd u hK⟩
def xY.ext{a w:Nat}{d:Dk}{x:Wl}{h h':PH}{F:List Nat}(H:xY a w d x h F)(u:dA h h'):xY a w d x h' F:=(xY.good a w d x).ext H u
structure wV(a w:Nat)(x:Wl)(h:PH):Prop where
 st:cD PG h (loadAt dY (pT w 0))=some (rO a)
 disk:cV h ⟨w,0,none⟩=some (pT a 0)
 head:cD PG h (loadAt cM (pT w (0+1)))=some x.hd.v
 gen:cV h ⟨w,0+1,none⟩=some (.int .u64 (x.hd.gen:Int))
 seg:cV h ⟨w,0+1+1,none⟩=some (.int .i64 (x.hd.seg:Int))
 slot:cV h ⟨w,0+3,none⟩=some (.int .i64 (x.slot:Int))
 used:cV h ⟨w,0+4,none⟩=some (.int .i64 (x.used:Int))
 ser:cV h ⟨w,0+5,none⟩=some (.int .u64 (x.ser:Int))
 ready:cV h ⟨w,0+6,none⟩=some (.bool x.ready)
 broken:cV h ⟨w,0+7,none⟩=some (.bool x.broken)
def wV.of{a w:Nat}{x:Wl}{h:PH}(B:Bx h w (x.cells a)):wV a w x h:=
 ⟨dY.agg B (by show 0+1≤8;decide),B.cell 0,cM.agg B (by show 0+1+2≤8;decide),B.cell 1,B.cell 2,B.cell 3,B.cell 4,B.cell 5,B.cell 6,B.cell 7⟩
def aTu{h:PH}{a w:Nat}{x:Wl}(B:wV a w x h){k:cE}(hk:k (.bool x.broken) h):bT PG aDk #[pT w 0] h k:=by
 apply aDY.call;unfold aDY;simp only[dT.f6,gR.load,B.broken,cC,reduceIte,cI,Nat.reduceAdd];exact hk
def aQ4{h:PH}{a w:Nat}{d:Dk}{x:Wl}{F:List Nat}(H:xY a w d x h F)(n:Nat)(hn:n<1000000000000){k:cE}(hk:∀h',dA h h'->k (.bool (fits d x n)) h'):bT PG aCw #[pT w 0,.int .i64 (n:Int)] h k:=by
 apply aBL.call;unfold aBL;obtain⟨Fd,eF,B,D,n1⟩:=id H.here;have L:=wV.of B;have hm:=H.ok.ok.many;have h4:=H.ok.four;have hu:=H.ok.used;have hsg:d.segs≤4096:=by unfold Dk.segs;omega
 simp only[dT.f0,dY.f0,fY.load,L.disk,dW.f0,D.geo,cC,reduceIte,cI,Nat.reduceAdd];refine aEh d λh1 u1=>?_;refine aH4 d.size n hn ?_;have L1:=wV.of (B.ext u1);by_cases c:dL d.size n=0
 ·have g:((0:Int)<(dL d.size n:Int))=False:=eq_false (by omega);have e:fits d x n=false:=by unfold fits;exact decide_eq_false (λh=>h.1 c)
  simp only[g,cC,reduceIte,cI,Nat.reduceAdd];have:=hk h1 u1;rw[e] at this;exact⟨λh=>absurd h (by decide),this⟩
 ·have g:((0:Int)<(dL d.size n:Int))=True:=eq_true (by omega);have w1:IntKind.i64.wrap ((d.segs:Int)-(x.used:Int))=(d.segs:Int)-(x.used:Int):=eB (by omega) (by omega);have e:decide ((dL d.size n:Int)≤(d.segs:Int)-(x.used:Int))=fits d x n:=by
   unfold fits;rw[xF,decide_eq_true_iff,decide_eq_true_iff];omega
  simp only[g,dT.f0,dT.f3,aR.load,L1.st,L1.used,cC,reduceIte,cI,Nat.reduceAdd];refine aHq (D.ext u1) (by omega) λh2 u2=>?_;have L2:=wV.of ((B.ext u1).ext u2);simp only[L2.used,w1,cC,reduceIte,cI,Nat.reduceAdd];rw[e];exact⟨λh=>h,hk h2 (u1.trans u2)⟩
def aX2(a:Nat):cB PG (build dY #[(0,pT a 0)])=some (rO a):=by kernel_rfl
def aXL(a:Nat):cB PG (build dT #[(0,rO a)])=some (.agg (Wl.cells a Wl.zero).toArray):=by kernel_rfl
def aVs(a b:ByteArray):kC PG (buildSlice dD 2 #[(0,.string a),(1,.string b)])=some (.cells #[.string a,.string b] aT,λr=>pure (.slice (some ⟨r,0,none⟩) 2 2)):=by kernel_rfl
def aPx{h:PH}{r:Nat}(s t:Tx):eH (h.set r (.cells #[.string (tx s),.string (tx t)] aT)) aT 1 (.slice (some ⟨r,0,none⟩) 2 2) ([s,t].map jI) [r]:=eH.lit (n:=2) (λr hr=>by
 obtain⟨m,_,rfl⟩:=pQ.1 hr;rfl) eN rfl (by decide) rfl
def aGb{h:PH}{r:Nat}(s:Tx):eH (h.set r (.cells #[.string (tx s)] aT)) aT 1 (.slice (some ⟨r,0,none⟩) 1 1) ([s].map jI) [r]:=aGE s
def eA.none{h h':PH}{F F':List Nat}(s:eA h F h' F'){b:Nat}(hb:h' b=none):b∈F∨h b=none:=by
 by_cases c:b∈F
 ·exact .inl c
 ·cases e:h b with
  | none=>exact .inr rfl
  | some o=>have:=s.upd b o e c;rw[hb] at this;cases this
def kN{F:List Nat}{w:Nat}(n:w∉F):∀b∈F,b∉[w]:=λb hb hm=>by
 simp only[iC] at hm;exact n (hm▸hb)
def aPN{h0 h:PH}{a w:Nat}{d:Dk}{hd:Hd}{slot us se:Nat}{F0 F:List Nat}(B:Bx h w (Wl.cells a ⟨hd,slot,us,se,false,false⟩))(D:oQ a d h F)(n1:w∉F)(h4:4≤d.sectors)(hs:hd.seg≤1)(h1:slot≤1)(hg:hd.gen<18446744073709551616)(hb:d.buf.length≤1000000)(st:eA h0 F0 h F)(fw:h0 w=none){k:cE}
  (hk:∀h' F' v G,xY a w d (oX d hd slot).1 h' F'->eH h' aT 1 v ((oX d hd slot).2.map jI) G->(∀b∈G,b∉F')->eA h0 F0 h' (F'++G)->k (.tuple #[pT w 0,v,.int .i64 0]) h'):aFl k (pT a 0) (pT w 0) h:=by
 unfold aFl;have L:=wV.of B;have hm:=D.ok.many;have fit:=qZ d h4 hs;simp only[dW.f0,D.geo,dT.f0,dT.f1,cM.f0,cM.f1,cJ.load,aR.load,L.gen,L.seg,L.st,cC,reduceIte,cI,Nat.reduceAdd];refine aEh d λh2 u2=>?_;have L2:=wV.of (B.ext u2);refine⟨L2.st,L2.seg,L2.st,L2.st,L2.gen,?_⟩;refine aNu (D.ext u2) (by omega) hd.seg hs λh3 u3=>?_;have e3:=u2.trans u3;have L3:=wV.of (B.ext e3);refine⟨L3.st,L3.st,L3.gen,?_⟩;refine aHq (D.ext e3) (by omega) λh5 u5=>?_;have e5:=e3.trans u5;have L5:=wV.of (B.ext e5);refine⟨L5.st,L5.gen,?_⟩;refine aMG (D.ext e5) (d.base hd.seg) d.segs (by omega) hb λh6 u6=>?_;have e6:=e5.trans u6;have L6:=wV.of (B.ext e6);refine⟨L6.gen,?_⟩;have hsg:d.segs≤4096:=by unfold Dk.segs;omega
 have sl:=Dk.secs_len d (d.base hd.seg) d.segs;refine aWV D.ok.size (aGz D.ok (by omega)) (by omega) λh7 v G O7 f7 u7=>?_;have e7:=e6.trans u7;rw[sl] at O7 ⊢;have hle:=aJR (size:=d.size) (gen:=hd.gen) (d.segs+1) (d.secs (d.base hd.seg) d.segs) 0;have hma:=aGo (size:=d.size) (gen:=hd.gen) (d.segs+1) (d.secs (d.base hd.seg) d.segs) 0;rw[sl] at hle;have hw:(oX d hd slot)=(⟨hd,slot,(jD d.size hd.gen (d.segs+1) (d.secs (d.base hd.seg) d.segs) 0).2,(jD d.size hd.gen (d.segs+1) (d.secs (d.base hd.seg) d.segs) 0).1.length,false,false⟩,(jD d.size hd.gen (d.segs+1) (d.secs (d.base hd.seg) d.segs) 0).1):=rfl;rw[hw] at hk;have hok:yB d (oX d hd slot).1:=yB.mk' D.ok h4 hs h1;rw[hw] at hok;obtain⟨R,hR⟩:∃R,jD d.size hd.gen (d.segs+1) (d.secs (d.base hd.seg) d.segs) 0=R:=⟨_,rfl⟩;rw[hR] at hk hok O7 hle hma ⊢;have B7:=B.ext e7;have D7:=D.ext e7;have cvt:cB PG (convert aR cJ (.int .i64 (R.1.length:Int)))=some (.int .u64 (R.1.length:Int)):=by
  rw[show cB PG (convert aR cJ (.int .i64 (R.1.length:Int)))=some (.int .u64 (IntKind.u64.wrap (R.1.length:Int))) from by kernel_rfl,kI (by omega) (by omega)]
 simp only[aAK O7.slR,cvt,dT.f3,dT.f4,cC,reduceIte,cI,Nat.reduceAdd];refine aR.put B7 (o:=4) (by show 4<8;decide) rfl λh8 B8 u8=>?_;refine cJ.put B8 (o:=5) (by show 5<8;decide) rfl λh9 B9 u9=>?_;have B9:Bx h9 w (Wl.cells a ⟨hd,slot,R.2,R.1.length,false,false⟩):=B9;have u89:=u8.trans u9;have nw:w∉G:=λhx=>B.known (e6.none (f7 w hx));have dG:∀b∈G,b∉F:=λb hb hf=>D.known b hf (e6.none (f7 b hb));refine hk h9 (w::F) v G ⟨⟨F,rfl,B9,D7.upd u89 (kN n1),n1⟩,hok,hma,hg⟩ (O7.upd u89 (kN nw)) (λb hb hm=>?_) ⟨?_,λb hb=>?_⟩
 ·rcases iW.1 hm with rfl|hm
  ·exact nw hb
  ·exact dG b hb hm
 ·exact(st.upd.trans e7.upd).then u89 (λb hb=>by
   simp only[iC] at hb;rw[hb];exact .inr fw)
 ·simp only[zLT,iW,tK] at hb;rcases hb with rfl|hb|hb
  ·exact .inr fw
  ·exact st.grow b hb
  ·exact(st.trans (eA.ext e6)).none (f7 b hb)
def aOC(size:Nat)(s:Tx):(fI size s).1.gen<18446744073709551616:=by
 have h0:Hd.zero.gen<18446744073709551616:=by decide
 have h1:(vF s).gen<18446744073709551616:=wX (0,s.drop 1) 8;unfold fI;split
 ·exact h0
 ·split
  ·exact h0
  ·split
   ·exact h0
   ·split
    ·exact h1
    ·exact h0
def aOM{b:Hd×Int}{k:Int}{x:Hd}(hb:b.1.gen<18446744073709551616)(hh:x.gen<18446744073709551616):(nP b k x).1.gen<18446744073709551616:=by
 unfold nP;split
 ·exact hh
 ·exact hb
def aNW(size:Nat)(x y:Tx):(jX size x y).1.gen<18446744073709551616:=by
 unfold jX;exact aOM (aOM (by decide) (aOC size x)) (aOC size y)
def aBi:∀(l:List Tx) (d:Dk) (n:Nat),(iE d n l).1.buf.length≤d.buf.length+l.length
 | [],d,n=>by
  show d.fl.1.buf.length≤_;unfold Dk.fl;split
  ·exact lM _
  ·exact kT _
 | s::l,d,n=>by
  rw[aK9];have h1:=aPy d (n:Int) s;split
  ·simp only[iU];show(d.wr (n:Int) s).1.buf.length≤_;omega
  ·have:=aBi l (d.wr (n:Int) s).1 (n+1);simp only[iU];omega
def aQz(d:Dk)(n:Nat):(d.secs n 1).flatten=d.at n:=by
 show([d.at (n+0)]:List Tx).flatten=_;simp
def aUc{h:PH}{a:Nat}{d:Dk}{F:List Nat}(D:oQ a d h F)(hb:d.buf.length≤999000){k:cE}
  (bad:∀h' F',oQ a (fA d).1 h' F'->eA h F h' F'->(fA d).2.2≠0->k (.tuple #[.pointer none,.slice none 0 0,.int .i64 (fA d).2.2]) h')
  (hk:∀h' F' w v G,xY a w (fA d).1 (fA d).2.1.1 h' F'->eH h' aT 1 v ((fA d).2.1.2.map jI) G->(∀b∈G,b∉F')->eA h F h' (F'++G)->(fA d).2.2=0->k (.tuple #[pT w 0,v,.int .i64 0]) h'):bT PG aI1 #[pT a 0] h k:=by
 apply aGH.call;unfold aGH;have hm:=D.ok.many;have hz:=D.ok.size;unfold fA at bad hk;simp only[aX2,aXL,cC,reduceIte,cI,Nat.reduceAdd];intro r3 hr3
 try rw[cR]
 have u3:dA h (h.set r3 (.cells (Value.cells (.agg (Wl.cells a Wl.zero).toArray)) dT)):=cX.new hr3;have B3:Bx (h.set r3 (.cells (Value.cells (.agg (Wl.cells a Wl.zero).toArray)) dT)) r3 (Wl.cells a Wl.zero):=Bx.new;generalize h.set r3 (.cells (Value.cells (.agg (Wl.cells a Wl.zero).toArray)) dT)=h3 at *;have D3:=D.ext u3;have n3:r3∉F:=λhm=>D.known r3 hm hr3;simp only[dW.f0,D3.geo,cC,reduceIte,cI,Nat.reduceAdd];refine aMw d λh4 u4=>?_;have e4:=u3.trans u4;by_cases c4:d.sectors<4
 ·have g:((d.sectors:Int)<4)=True:=eq_true (by omega);rw[if_pos c4] at bad;simp only[g,cC,reduceIte,cI,Nat.reduceAdd];exact bad h4 F (D.ext e4) (eA.ext e4) (by show(1:Int)≠0;decide)
 ·have g:((d.sectors:Int)<4)=False:=eq_false (by omega);rw[if_neg c4] at bad hk;simp only[g,cC,reduceIte,cI,Nat.reduceAdd];refine aPX (D.ext e4) (by omega) λh5 F5 D5 s5=>?_;have st5:=(eA.ext (F:=F) e4).trans s5;obtain⟨B5,n5⟩:=(B3.ext u4).step s5 n3;by_cases c5:d.fl.2=0
  ·have q:(d.fl.2 !=0)=false:=by rw[c5];rfl
   rw[if_neg (λe=>e c5)] at bad hk;have L5:=wV.of B5;have eg:d.fl.1.size=d.size:=d.fl_geo.1;have es:d.fl.1.sectors=d.sectors:=d.fl_geo.2;have eb:d.fl.1.buf.length≤999000:=by
    unfold Dk.fl;split
    ·exact hb
    ·exact kT _
   simp only[eI,q,dW.f0,D5.geo,dT.f0,L5.st,cC,reduceIte,cI,Nat.reduceAdd];refine aEh d.fl.1 λh6 u6=>?_;have L6:=wV.of (B5.ext u6);refine⟨L6.st,L6.st,?_⟩;refine aMG (D5.ext u6) 0 1 (by omega) (by omega) λh7 u7=>?_;have e7:=u6.trans u7;have L7:=wV.of (B5.ext e7);refine⟨L7.st,?_⟩;refine aMG (D5.ext e7) 1 1 (by omega) (by omega) λh8 u8=>?_;have e8:=e7.trans u8;rw[aQz,aQz,eg];have al0:=D5.ok.at_len (n:=0) (by omega);have al1:=D5.ok.at_len (n:=1) (by omega);rw[eg] at al0 al1;unfold gB at hz;simp only[aVs,cC,reduceIte,cI,Nat.reduceAdd];intro r29 hr29;refine iB ?_
   try rw[cR]
   have O9:=aPx (h:=h8) (r:=r29) (d.fl.1.at 0) (d.fl.1.at 1);have u9:dA h8 (h8.set r29 (.cells #[.string (tx (d.fl.1.at 0)),.string (tx (d.fl.1.at 1))] aT)):=cX.new hr29;generalize h8.set r29 (.cells #[.string (tx (d.fl.1.at 0)),.string (tx (d.fl.1.at 1))] aT)=h9 at *;refine aTv d.size _ _ O9.slR (by omega) (by omega) λh10 u10=>?_;have e10:=(e8.trans u9).trans u10;have B10:=B5.ext e10;have D10:=D5.ext e10;have st10:=st5.trans (eA.ext (F:=F5) e10);obtain⟨N,hN⟩:∃N,jX d.size (d.fl.1.at 0) (d.fl.1.at 1)=N:=⟨_,rfl⟩;have hno:=aGc d.size (d.fl.1.at 0) (d.fl.1.at 1);have hng:=aNW d.size (d.fl.1.at 0) (d.fl.1.at 1);rw[hN] at bad hk hno hng ⊢;obtain⟨N1,N2⟩:=N;simp only[dT.f1,dT.f2,cC,reduceIte,cI,Nat.reduceAdd];refine cM.put B10 (vs:=N1.cells) (o:=1) rfl (by show 1+2≤8;decide) N1.isC λh11 B11 u11=>?_;refine aR.put B11 (o:=3) (by show 3<8;decide) rfl λh12 B12 u12=>?_;have c12:cV h12 ⟨r3,0+3,none⟩=some (.int .i64 N2):=B12.cell 3;have u112:=u11.trans u12;have D12:=D10.upd u112 (kN n5);have st12:eA h F h12 F5:=⟨st10.upd.then u112 (λb hb=>by
    simp only[iC] at hb;rw[hb];exact .inr hr3),st10.grow⟩
   by_cases c:N2<0
   ·have g:(N2<0)=True:=eq_true c;rw[if_pos c] at bad hk;simp only[aR.load,c12,g,aRR,cC,reduceIte,cI,Nat.reduceAdd];refine cM.put B12 (vs:=Hd.cells ⟨1,0⟩) (o:=1) rfl (by show 1+2≤8;decide) (Hd.isC _) λh13 B13 u13=>?_;refine aR.put B13 (o:=3) (by show 3<8;decide) rfl λh14 B14 u14=>?_;have B14:Bx h14 r3 (Wl.cells a ⟨⟨1,0⟩,1,0,0,false,false⟩):=B14;have u134:=u13.trans u14;have D14:=D12.upd u134 (kN n5);have L14:=wV.of B14;have st14:eA h F h14 F5:=⟨st12.upd.then u134 (λb hb=>by
     simp only[iC] at hb;rw[hb];exact .inr hr3),st12.grow⟩
    simp only[dW.f0,D14.geo,dT.f1,L14.head,cC,reduceIte,cI,Nat.reduceAdd];refine aEh d.fl.1 λh15 u15=>?_;have L15:=wV.of (B14.ext u15);refine⟨L15.head,?_⟩;refine aPa d.fl.1.size ⟨1,0⟩ (by decide) (by decide) λh16 u16=>?_;have e16:=u15.trans u16;have L16:=wV.of (B14.ext e16);rw[eg];simp only[dT.f0,dT.f2,L16.st,aR.load,L16.slot,aGX,cC,reduceIte,cI,Nat.reduceAdd];intro r76 hr76;refine iB ?_
    try rw[cR]
    have O17:=aGb (h:=h16) (r:=r76) (fO d.size ⟨1,0⟩).1;have u17:dA h16 (h16.set r76 (.cells #[.string (tx (fO d.size ⟨1,0⟩).1)] aT)):=cX.new hr76;generalize h16.set r76 (.cells #[.string (tx (fO d.size ⟨1,0⟩).1)] aT)=h17 at *;have e17:=e16.trans u17;have n76:∀b∈[r76],b∉F5:=λb hb hf=>by
     simp only[iC] at hb;rw[hb] at hf;exact D14.known r76 hf (e16.none hr76)
    refine aLV (D14.ext e17) 1 (by decide) O17 n76 (by simp only[iU,kV];omega) λh18 F18 D18 s18=>?_;obtain⟨B18,n18⟩:=(B14.ext e17).step s18 n5;have st18:=(st14.trans (eA.ext e17)).trans s18;obtain⟨P,hP⟩:∃P,iE d.fl.1 1 [(fO d.size ⟨1,0⟩).1]=P:=⟨_,rfl⟩;have hpo:=pW [(fO d.size ⟨1,0⟩).1] D5.ok 1;have hpb:=aBi [(fO d.size ⟨1,0⟩).1] d.fl.1 1;rw[hP] at bad hk D18 hpo hpb ⊢;by_cases c6:P.2=0
    ·have q6:(P.2 !=0)=false:=by rw[c6];rfl
     rw[if_neg (λe=>e c6)] at hk;simp only[eI,q6,cC,reduceIte,cI,Nat.reduceAdd];simp only[iU,kV] at hpb;refine aPN B18 D18 n18 (by rw[hpo.2.2.1];omega) (by decide) (by decide) (by decide) (by omega) st18 hr3 λh' F' v G W O dj st=>?_;exact hk h' F' r3 v G W O dj st rfl
    ·have q6:(P.2 !=0)=true:=bne_iff_ne.2 c6;rw[if_pos c6] at bad;simp only[eI,q6,cC,reduceIte,cI,Nat.reduceAdd];exact bad h18 F18 D18 st18 c6
   ·have g:(N2<0)=False:=eq_false c;rw[if_neg c] at hk;simp only[aR.load,c12,g,cC,reduceIte,cI,Nat.reduceAdd];have en:N2=((N2.toNat:Nat):Int):=by omega
    have B12:Bx h12 r3 (Wl.cells a ⟨N1,N2.toNat,0,0,false,false⟩):=by
     rw[en] at B12;exact B12
    have hno:=hno;refine aPN B12 D12 n5 (by rw[es];omega) hno.1 (by have:=hno.2;simp only at this;omega) hng (by omega) st12 hr3 λh' F' v G W O dj st=>?_;exact hk h' F' r3 v G W O dj st rfl
  ·have q:(d.fl.2 !=0)=true:=bne_iff_ne.2 c5;rw[if_pos c5] at bad;simp only[eI,q,cC,reduceIte,cI,Nat.reduceAdd];exact bad h5 F5 D5 st5 c5
def aTP{h:PH}{a w:Nat}{d:Dk}{x:Wl}{F:List Nat}{fv:Value}(H:xY a w d x h F){Q:Dk->Wl->Int->Prop}{k:cE}
  (body:x.broken=false->∀k':Value->PH->Prop,(∀h' F' d' x' e,xY a w d' x' h' F'->eA h F h' F'->Q d' x' e->k' (.int .i64 e) h')->zI PG fv #[] h k')
  (hk0:x.broken=true->k (.int .i64 14) h)
  (hk:x.broken=false->∀h' F' d' x' e,xY a w d' (x'.brk e) h' F'->eA h F h' F'->Q d' x' e->k (.int .i64 e) h'):bT PG aDU #[pT w 0,fv] h k:=by
 apply aGR.call;unfold aGR;obtain⟨Fd,eF,B,D,n1⟩:=id H.here;have L:=wV.of B;cases c:x.broken with
 | true=>
  have lb:=L.broken;rw[c] at lb;simp only[dT.f6,gR.load,lb,cC,reduceIte,cI,Nat.reduceAdd];exact hk0 c
 | false=>
  have lb:=L.broken;rw[c] at lb;simp only[dT.f6,gR.load,lb,cC,reduceIte,cI,Nat.reduceAdd];refine body c _ λh' F' d' x' e H' st q=>?_;obtain⟨Fd',eF',B',D',n'⟩:=H'.here;have qe:(e==13)=decide (e=13):=by rw[xF,beq_iff_eq,decide_eq_true_iff]
  simp only[gA,qe,dT.f6,cC,reduceIte,cI,Nat.reduceAdd];refine gR.put B' (o:=7) (by show 7<8;decide) rfl λh2 B2 u2=>?_;have B2:Bx h2 w ((x'.brk e).cells a):=B2;refine hk c h2 F' d' x' e ⟨⟨Fd',eF',B2,D'.upd u2 (kN n'),n'⟩,H'.ok.brk e,H'.ser,H'.gen⟩ ?_ q;refine⟨st.upd.then u2 (λb hb=>?_),st.grow⟩;simp only[iC] at hb;exact st.grow b (by rw[eF',hb];simp)
def eA.in{h h':PH}{F F':List Nat}{w:Nat}(n:w∉F)(s:eA h F h' F'):eA h (w::F) h' (w::F'):=
 ⟨s.upd.mono λb hb=>.inl (by simp[hb]),λb hb=>by
  rcases iW.1 hb with rfl|hb
  ·exact .inl (by simp)
  ·rcases s.grow b hb with e|e
   ·exact .inl (by simp[e])
   ·exact .inr e⟩
def aQm{h:PH}{a w r1 r3:Nat}{d:Dk}{x:Wl}{F:List Nat}(H:xY a w d x h F)(hx:x.broken=false)(s:Tx)(hs:s.length≤1000000)(hb:d.buf.length≤990000)(B1:Bx h r1 [pT w 0])(B3:Bx h r3 [.string (tx s)])(m1:r1∉F){k:cE}
  (hk:∀h' F' d' x' e,xY a w d' x' h' F'->eA h F h' F'->hM d x s=(d',x'.brk e,e)->k (.int .i64 e) h'):bT PG aCV #[pT r1 0,pT r3 0] h k:=by
 apply uQ.call;unfold uQ;obtain⟨Fd,rfl,B,D,n1⟩:=id H.here;have L:=wV.of B;have hm:=D.ok.many;have h4:=H.ok.four;have hu:=H.ok.used;have hser:=H.ser;have hsg:d.segs≤4096:=by unfold Dk.segs;omega
 have hm1:r1≠w∧r1∉Fd:=by simpa using m1
 cases cr:x.ready with
 | false=>
  have lr:=L.ready;rw[cr] at lr;simp only[eO.load,gO B1,dT.f5,gR.load,lr,cC,reduceIte,cI,Nat.reduceAdd];refine hk h _ d x 15 H eA.refl ?_;unfold hM;rw[if_neg (by rw[hx];decide),if_pos cr]
 | true=>
  have lr:=L.ready;rw[cr] at lr;simp only[eO.load,gO B1,dT.f5,gR.load,lr,dT.f0,dY.f0,fY.load,L.disk,dW.f0,D.geo,dT.f1,cM.f0,cJ.load,L.gen,dT.f4,L.ser,aT.load,gO B3,cC,reduceIte,cI,Nat.reduceAdd];refine aEh d λh2 u2=>?_;have L2:=wV.of (B.ext u2);simp only[gO (B1.ext u2),gO (B3.ext u2),L2.gen,L2.ser,cC,reduceIte,cI,Nat.reduceAdd];refine⟨trivial,trivial,trivial,trivial,trivial,?_⟩;refine aPv d.size x.hd.gen x.ser s D.ok.size H.gen (by omega) hs λh3 v G O3 f3 u3=>?_;have e3:=u2.trans u3;have C1:=B1.ext e3;have C3:=B3.ext e3;have H3:=H.ext e3;by_cases c1:dL d.size s.length=0
  ·have q1:((1:Int) !=0)=true:=rfl;rw[if_pos c1];simp only[eI,q1,cC,reduceIte,cI,Nat.reduceAdd];refine hk h3 _ d x 1 H3 (eA.ext e3) ?_;unfold hM;rw[if_neg (by rw[hx];decide),if_neg (by rw[cr];decide),if_pos c1]
  ·have q1:((0:Int) !=0)=false:=rfl;rw[if_neg c1];simp only[eI,q1,gO C1,gO C3,iV,cC,reduceIte,cI,Nat.reduceAdd];refine aQ4 H3 s.length (by omega) λh4' u4=>?_;have e4:=e3.trans u4;have H4:=H.ext e4;cases cf:fits d x s.length with
   | false=>
    simp only[cC,reduceIte,cI,Nat.reduceAdd];refine hk h4' _ d x 2 H4 (eA.ext e4) ?_;unfold hM;rw[if_neg (by rw[hx];decide),if_neg (by rw[cr];decide),if_neg c1,if_pos cf]
   | true=>
    have L4:=wV.of (B.ext e4);have hf:=cf;unfold fits at hf;rw[decide_eq_true_eq] at hf;have hbs:d.base x.hd.seg≤10000:=by
     have:=qZ d h4 H.ok.seg;omega
    have w1:IntKind.i64.wrap ((d.base x.hd.seg:Int)+(x.used:Int))=((d.base x.hd.seg+x.used:Nat):Int):=by rw[eB (by omega) (by omega)];omega
    simp only[gO (B1.ext e4),dT.f0,dT.f1,L4.st,cM.f1,aR.load,L4.seg,dT.f3,L4.used,cC,reduceIte,cI,Nat.reduceAdd];refine aNu (D.ext e4) (by omega) x.hd.seg H.ok.seg λh5 u5=>?_;have e5:=e4.trans u5;have L5:=wV.of (B.ext e5);simp only[gO (B1.ext e5),L5.st,L5.used,w1,cC,reduceIte,cI,Nat.reduceAdd];refine⟨trivial,trivial,trivial,trivial,?_⟩;have fl:(fR d.size x.hd.gen x.ser s).length=dL d.size s.length:=iN ..;have dG:∀b∈G,b∉Fd:=λb hb hf=>D.known b hf (u2.none (f3 b hb));refine aLV (D.ext e5) (d.base x.hd.seg+x.used) (by omega) (O3.ext (u4.trans u5)) dG (by omega) λh6 F6 D6 s6=>?_;obtain⟨B6,n6⟩:=(B.ext e5).step s6 n1;have st6:eA h (w::Fd) h6 (w::F6):=(eA.ext e5).trans (eA.in n1 s6);have C6:=((B1.ext e5).step s6 hm1.2).1;have hpo:=pW (fR d.size x.hd.gen x.ser s) D.ok (d.base x.hd.seg+x.used);have hwo:=H.ok.append s;have hd':iE d (d.base x.hd.seg+x.used) (fR d.size x.hd.gen x.ser s)=rG d x s:=rfl;rw[hd'] at D6 hpo ⊢;have hap:=H.ok.ap cf;by_cases c6:(rG d x s).2=0
    ·have q6:((rG d x s).2 !=0)=false:=by rw[c6];rfl
     have e:hM d x s=((rG d x s).1,⟨x.hd,x.slot,x.used+dL d.size s.length,x.ser+1,x.ready,false⟩,0):=by
      unfold hM;rw[if_neg (by rw[hx];decide),if_neg (by rw[cr];decide),if_neg c1,if_neg (by rw[cf];decide),if_neg (λe=>e c6)]
     rw[e] at hwo;have L6:=wV.of B6;have w2:IntKind.i64.wrap ((x.used:Int)+((fR d.size x.hd.gen x.ser s).length:Int))=((x.used+dL d.size s.length:Nat):Int):=by rw[fl,eB (by omega) (by omega)];omega
     have w3:IntKind.u64.wrap ((x.ser:Int)+1)=((x.ser+1:Nat):Int):=by rw[kI (by omega) (by omega)];omega
     simp only[eI,q6,gO C6,dT.f3,aR.load,L6.used,aAK O3.slR,w2,cC,reduceIte,cI,Nat.reduceAdd];refine aR.put B6 (o:=4) (by show 4<8;decide) rfl λh7 B7 u7=>?_;have C7:=C6.upd u7 (by simpa using hm1.1);have c5:cV h7 ⟨w,0+5,none⟩=some (.int .u64 (x.ser:Int)):=B7.cell 5;simp only[gO C7,dT.f4,cJ.load,c5,w3,cC,reduceIte,cI,Nat.reduceAdd];refine cJ.put B7 (o:=5) (by show 5<8;decide) rfl λh8 B8 u8=>?_;have B8:Bx h8 w (Wl.cells a ⟨x.hd,x.slot,x.used+dL d.size s.length,x.ser+1,x.ready,x.broken⟩):=B8;rw[hx] at B8;have u78:=u7.trans u8;refine hk h8 (w::F6) (rG d x s).1 ⟨x.hd,x.slot,x.used+dL d.size s.length,x.ser+1,x.ready,false⟩ 0 ⟨⟨F6,rfl,B8,D6.upd u78 (kN n6),n6⟩,hwo.1,by show x.ser+1≤x.used+dL d.size s.length;omega,H.gen⟩ ⟨st6.upd.trans (u78.mono λb hb=>.inl (by simp only[iC] at hb;simp[hb])),st6.grow⟩ ?_;rw[e];rfl
    ·have q6:((rG d x s).2 !=0)=true:=bne_iff_ne.2 c6;simp only[eI,q6,cC,reduceIte,cI,Nat.reduceAdd];refine hk h6 (w::F6) (rG d x s).1 x (rG d x s).2 ⟨⟨F6,rfl,B6,D6,n6⟩,H.ok.to hpo.1 hpo.2.2.1,H.ser,H.gen⟩ st6 ?_;unfold hM;rw[if_neg (by rw[hx];decide),if_neg (by rw[cr];decide),if_neg c1,if_neg (by rw[cf];decide),if_pos c6]
def aRn{h:PH}{a w:Nat}{d:Dk}{x:Wl}{F:List Nat}(H:xY a w d x h F)(s:Tx)(hs:s.length≤1000000)(hb:d.buf.length≤990000){k:cE}
  (hk:∀h' F',xY a w (hM d x s).1 (hM d x s).2.1 h' F'->eA h F h' F'->k (.int .i64 (hM d x s).2.2) h'):bT PG aDl #[pT w 0,.string (tx s)] h k:=by
 apply aDT.call;unfold aDT;intro r1 hr1
 try rw[cR]
 have u1:dA h (h.set r1 (.cells (Value.cells (pT w 0)) eO)):=cX.new hr1;have B1:Bx (h.set r1 (.cells (Value.cells (pT w 0)) eO)) r1 [pT w 0]:=Bx.new;generalize h.set r1 (.cells (Value.cells (pT w 0)) eO)=h1 at *;intro r3 hr3
 try rw[cR]
 have u3:dA h1 (h1.set r3 (.cells (Value.cells (.string (tx s))) aT)):=cX.new hr3;have B3:Bx (h1.set r3 (.cells (Value.cells (.string (tx s))) aT)) r3 [.string (tx s)]:=Bx.new;generalize h1.set r3 (.cells (Value.cells (.string (tx s))) aT)=h3 at *;have e3:=u1.trans u3;have m1:r1∉F:=λhm=>H.known r1 hm hr1;simp only[eO.load,gO (B1.ext u3),aD6,cC,reduceIte,cI,Nat.reduceAdd];refine aTP (Q:=λd' x' e=>hM d x s=(d',x'.brk e,e)) (H.ext e3) (λhx k' hk'=>?_) (λhx=>?_) (λhx h' F' d' x' e H' st q=>?_)
 ·exact aQm (H.ext e3) hx s hs hb (B1.ext u3) B3 m1 hk'
 ·have e:hM d x s=(d,x,14):=by unfold hM;rw[if_pos hx]
  rw[e] at hk;exact hk h3 F (H.ext e3) (eA.ext e3)
 ·rw[q] at hk;exact hk h' F' H' ((eA.ext e3).trans st)
def aP8{h:Hd}(hg:h.gen<18446744073709551616):(gT h).1.gen<18446744073709551616:=by
 unfold gT;split
 ·decide
 ·show h.gen+1<_;omega
def aST{h:PH}{a w r1 r3:Nat}{d:Dk}{x:Wl}{F:List Nat}(H:xY a w d x h F)(hx:x.broken=false)(s:Tx)(hs:s.length≤1000000)(hb:d.buf.length≤990000)(B1:Bx h r1 [pT w 0])(B3:Bx h r3 [.string (tx s)])(m1:r1∉F)(m3:r3∉F){k:cE}
  (hk:∀h' F' d' x' e,xY a w d' x' h' F'->eA h F h' F'->fP d x s=(d',x'.brk e,e)->k (.int .i64 e) h'):bT PG aAA #[pT r1 0,pT r3 0] h k:=by
 apply qA.call;unfold qA;obtain⟨Fd,rfl,B,D,n1⟩:=id H.here;have L:=wV.of B;have hm:=D.ok.many;have h4:=H.ok.four;have hu:=H.ok.used;have hser:=H.ser;have hz:=D.ok.size;have hsg:d.segs≤4096:=by unfold Dk.segs;omega
 have hm1:r1≠w∧r1∉Fd:=by simpa using m1
 have hm3:r3≠w∧r3∉Fd:=by simpa using m3
 simp only[eO.load,gO B1,dT.f0,dY.f0,fY.load,L.disk,dW.f0,D.geo,aT.load,gO B3,iV,cC,reduceIte,cI,Nat.reduceAdd];refine aEh d λh2 u2=>?_;have L2:=wV.of (B.ext u2);refine⟨gO (B3.ext u2),?_⟩;refine aH4 d.size s.length (by omega) ?_;by_cases c1:dL d.size s.length=0
 ·have q1:(((dL d.size s.length:Nat):Int)==0)=true:=by rw[c1];rfl
  simp only[gA,q1,cC,reduceIte,cI,Nat.reduceAdd];refine hk h2 _ d x 1 (H.ext u2) (eA.ext u2) ?_;unfold fP;rw[if_neg (by rw[hx];decide),if_pos c1]
 ·have q1:(((dL d.size s.length:Nat):Int)==0)=false:=by rw[beq_eq_false_iff_ne];omega
  simp only[gA,q1,gO (B1.ext u2),dT.f0,L2.st,cC,reduceIte,cI,Nat.reduceAdd];refine aHq (D.ext u2) (by omega) λh3 u3=>?_;have e3:=u2.trans u3;by_cases c2:d.segs<dL d.size s.length
  ·have g2:((d.segs:Int)<(dL d.size s.length:Int))=True:=eq_true (by omega);simp only[g2,cC,reduceIte,cI,Nat.reduceAdd];refine hk h3 _ d x 2 (H.ext e3) (eA.ext e3) ?_;unfold fP;rw[if_neg (by rw[hx];decide),if_neg c1,if_pos c2]
  ·have g2:((d.segs:Int)<(dL d.size s.length:Int))=False:=eq_false (by omega);have L3:=wV.of (B.ext e3);simp only[g2,gO (B1.ext e3),dT.f1,L3.head,cC,reduceIte,cI,Nat.reduceAdd];refine aV9 x.hd H.gen λh4' u4=>?_;have e4:=e3.trans u4;obtain⟨N,hN⟩:∃N,gT x.hd=N:=⟨_,rfl⟩;have hng:=aP8 H.gen;have hns:=aJu x.hd;have hnh:=aOH (h:=x.hd) hz;have eW:fP d x s=if N.2≠0 then(d,x.brk N.2,N.2)
     else if (lL d N.1 s).2≠0 then((lL d N.1 s).1,x.brk (lL d N.1 s).2,(lL d N.1 s).2)
     else if (iE (lL d N.1 s).1 (1-x.slot) [(fO d.size N.1).1]).2≠0 then
      ((iE (lL d N.1 s).1 (1-x.slot) [(fO d.size N.1).1]).1,x.brk (iE (lL d N.1 s).1 (1-x.slot) [(fO d.size N.1).1]).2,(iE (lL d N.1 s).1 (1-x.slot) [(fO d.size N.1).1]).2)
     else((iE (lL d N.1 s).1 (1-x.slot) [(fO d.size N.1).1]).1,⟨N.1,1-x.slot,dL d.size s.length,1,true,false⟩,0):=by
    unfold fP;rw[if_neg (by rw[hx];decide),if_neg c1,if_neg c2,hN]
   rw[hN] at hng hns hnh ⊢;obtain⟨N1,N2⟩:=N;simp only at eW hng hns hnh;simp only[cC,reduceIte,cI,Nat.reduceAdd];intro r31 hr31
   try rw[cR]
   refine cM.fill (vs:=N1.cells) hr31 rfl N1.isC λh5 B5 u5=>?_;have e5:=e4.trans u5;by_cases c3:N2=0
   ·have q3:(N2 !=0)=false:=by rw[c3];rfl
    have L5:=wV.of (B.ext e5);have n31:r31∉w::Fd:=λhm=>(H.ext e4).known r31 hm hr31;have n31':r31≠w∧r31∉Fd:=by simpa using n31
    have b0:cV h5 ⟨r31,0,none⟩=some (.int .u64 (N1.gen:Int)):=B5.cell 0;rw[if_neg (λe=>e c3)] at eW;simp only[eI,q3,gO (B1.ext e5),dT.f0,dY.f0,fY.load,L5.disk,dW.f0,(D.ext e5).geo,cM.f0,cJ.load,b0,gO (B3.ext e5),cC,reduceIte,cI,Nat.reduceAdd];refine aEh d λh6 u6=>?_;have e6:=e5.trans u6;have b0':cV h6 ⟨r31,0,none⟩=some (.int .u64 (N1.gen:Int)):=(B5.ext u6).cell 0;refine⟨gO (B3.ext e6),b0',?_⟩;refine aPv d.size N1.gen 0 s hz hng (by decide) hs λh7 v G O7 f7 u7=>?_;have e7:=e6.trans u7;have L7:=wV.of (B.ext e7);have B7:=(B5.ext u6).ext u7;have b1:cV h7 ⟨r31,0+1,none⟩=some (.int .i64 (N1.seg:Int)):=B7.cell 1;simp only[gO (B1.ext e7),dT.f0,L7.st,cM.f1,aR.load,b1,cC,reduceIte,cI,Nat.reduceAdd];refine aNu (D.ext e7) (by omega) N1.seg hns λh8 u8=>?_;have e8:=e7.trans u8;have L8:=wV.of (B.ext e8);refine⟨L8.st,gO (B1.ext e8),?_⟩;have fl:(fR d.size N1.gen 0 s).length=dL d.size s.length:=iN ..;have hfit:=qZ d h4 hns;have dG:∀b∈G,b∉Fd:=λb hb hf=>D.known b hf (e6.none (f7 b hb));refine aLV (D.ext e8) (d.base N1.seg) (by omega) (O7.ext u8) dG (by omega) λh9 F9 D9 s9=>?_;obtain⟨B9,n9⟩:=(B.ext e8).step s9 n1;have st9:eA h (w::Fd) h9 (w::F9):=(eA.ext e8).trans (eA.in n1 s9);obtain⟨C1,m1'⟩:=(B1.ext e8).step s9 hm1.2;obtain⟨C3,m3'⟩:=(B3.ext e8).step s9 hm3.2;obtain⟨Bn,mn⟩:=(B7.ext u8).step s9 n31'.2;have hpo:=pW (fR d.size N1.gen 0 s) D.ok (d.base N1.seg);have hpb:=aBi (fR d.size N1.gen 0 s) d (d.base N1.seg);have hd':iE d (d.base N1.seg) (fR d.size N1.gen 0 s)=lL d N1 s:=rfl;rw[hd'] at D9 hpo hpb ⊢;by_cases c4:(lL d N1 s).2=0
    ·have q4:((lL d N1 s).2 !=0)=false:=by rw[c4];rfl
     rw[if_neg (λe=>e c4)] at eW;have L9:=wV.of B9;simp only[eI,q4,gO C1,dT.f0,dY.f0,fY.load,L9.disk,dW.f0,D9.geo,wK Bn,cC,reduceIte,cI,Nat.reduceAdd];refine aEh _ λh10 u10=>?_;refine⟨wK (Bn.ext u10),?_⟩;refine aPa (lL d N1 s).1.size N1 hng (by omega) λh11 u11=>?_;have e11:=u10.trans u11;have L11:=wV.of (B9.ext e11);rw[hpo.2.1];have hsl:=H.ok.slot;have w1:IntKind.i64.wrap ((1:Int)-(x.slot:Int))=((1-x.slot:Nat):Int):=by rw[eB (by omega) (by omega)];omega
     simp only[gO (C1.ext e11),dT.f0,L11.st,dT.f2,aR.load,L11.slot,w1,aGX,cC,reduceIte,cI,Nat.reduceAdd];intro r92 hr92;refine iB ?_
     try rw[cR]
     have O12:=aGb (h:=h11) (r:=r92) (fO d.size N1).1;have u12:dA h11 (h11.set r92 (.cells #[.string (tx (fO d.size N1).1)] aT)):=cX.new hr92;generalize h11.set r92 (.cells #[.string (tx (fO d.size N1).1)] aT)=h12 at *;have e12:=e11.trans u12;have n92:∀b∈[r92],b∉F9:=λb hb hf=>by
      simp only[iC] at hb;rw[hb] at hf;exact D9.known r92 hf (e11.none hr92)
     refine aLV (D9.ext e12) (1-x.slot) (by omega) O12 n92 (by simp only[iU,kV];omega) λh13 F13 D13 s13=>?_;obtain⟨B13,n13⟩:=(B9.ext e12).step s13 n9;have st13:eA h (w::Fd) h13 (w::F13):=(st9.trans (eA.ext e12)).trans (eA.in n9 s13);obtain⟨E1,-⟩:=(C1.ext e12).step s13 m1';obtain⟨En,-⟩:=(Bn.ext e12).step s13 mn;have hpo2:=pW [(fO d.size N1).1] hpo.1 (1-x.slot);obtain⟨P,hP⟩:∃P,iE (lL d N1 s).1 (1-x.slot) [(fO d.size N1).1]=P:=⟨_,rfl⟩;rw[hP] at D13 hpo2 eW ⊢;have geo:P.1.sectors=d.sectors:=hpo2.2.2.1.trans hpo.2.2.1;by_cases c5:P.2=0
     ·have q5:(P.2 !=0)=false:=by rw[c5];rfl
      rw[if_neg (λe=>e c5)] at eW;have L13:=wV.of B13;simp only[eI,q5,gO E1,dT.f1,dT.f2,dT.f3,dT.f4,dT.f5,wK En,aR.load,L13.slot,w1,cC,reduceIte,cI,Nat.reduceAdd];refine cM.put B13 (vs:=N1.cells) (o:=1) rfl (by show 1+2≤8;decide) N1.isC λh14 B14 u14=>?_;have nn:r1∉[w]:=by simpa using hm1.1
      have E14:=gO (E1.upd u14 nn);refine⟨E14,E14,E14,E14,?_⟩;refine aR.put B14 (o:=3) (by show 3<8;decide) rfl λh15 B15 u15=>?_;have E15:=gO ((E1.upd u14 nn).upd u15 nn);refine⟨E15,E15,E15,?_⟩;refine aR.put B15 (o:=4) (by show 4<8;decide) rfl λh16 B16 u16=>?_;have E16:=gO (((E1.upd u14 nn).upd u15 nn).upd u16 nn);refine⟨E16,E16,?_⟩;refine cJ.put B16 (o:=5) (by show 5<8;decide) rfl λh17 B17 u17=>?_;have E17:=gO ((((E1.upd u14 nn).upd u15 nn).upd u16 nn).upd u17 nn);refine⟨E17,?_⟩;refine gR.put B17 (o:=6) (by show 6<8;decide) rfl λh18 B18 u18=>?_;have B18:Bx h18 w (Wl.cells a ⟨N1,1-x.slot,dL d.size s.length,1,true,x.broken⟩):=B18;rw[hx] at B18;have uu:=(((u14.trans u15).trans u16).trans u17).trans u18;have hwo:=H.ok.check s;rw[eW] at hwo;refine hk h18 (w::F13) P.1 ⟨N1,1-x.slot,dL d.size s.length,1,true,false⟩ 0 ⟨⟨F13,rfl,B18,D13.upd uu (kN n13),n13⟩,hwo.1,by show 1≤dL d.size s.length;omega,hng⟩ ⟨st13.upd.trans (uu.mono λb hb=>.inl (by simp only[iC] at hb;simp[hb])),st13.grow⟩ ?_;rw[eW];rfl
     ·have q5:(P.2 !=0)=true:=bne_iff_ne.2 c5;rw[if_pos c5] at eW;simp only[eI,q5,cC,reduceIte,cI,Nat.reduceAdd];exact hk h13 (w::F13) P.1 x P.2 ⟨⟨F13,rfl,B13,D13,n13⟩,H.ok.to hpo2.1 geo,H.ser,H.gen⟩ st13 eW
    ·have q4:((lL d N1 s).2 !=0)=true:=bne_iff_ne.2 c4;rw[if_pos c4] at eW;simp only[eI,q4,cC,reduceIte,cI,Nat.reduceAdd];exact hk h9 (w::F9) (lL d N1 s).1 x (lL d N1 s).2 ⟨⟨F9,rfl,B9,D9,n9⟩,H.ok.to hpo.1 hpo.2.2.1,H.ser,H.gen⟩ st9 eW
   ·have q3:(N2 !=0)=true:=bne_iff_ne.2 c3;rw[if_pos c3] at eW;simp only[eI,q3,cC,reduceIte,cI,Nat.reduceAdd];exact hk h5 _ d x N2 (H.ext e5) (eA.ext e5) eW
def aOG{h:PH}{a w:Nat}{d:Dk}{x:Wl}{F:List Nat}(H:xY a w d x h F)(s:Tx)(hs:s.length≤1000000)(hb:d.buf.length≤980000){k:cE}
  (hk:∀h' F',xY a w (fP d x s).1 (fP d x s).2.1 h' F'->eA h F h' F'->k (.int .i64 (fP d x s).2.2) h'):bT PG wS #[pT w 0,.string (tx s)] h k:=by
 apply aAV.call;unfold aAV;intro r1 hr1
 try rw[cR]
 have u1:dA h (h.set r1 (.cells (Value.cells (pT w 0)) eO)):=cX.new hr1;have B1:Bx (h.set r1 (.cells (Value.cells (pT w 0)) eO)) r1 [pT w 0]:=Bx.new;generalize h.set r1 (.cells (Value.cells (pT w 0)) eO)=h1 at *;intro r3 hr3
 try rw[cR]
 have u3:dA h1 (h1.set r3 (.cells (Value.cells (.string (tx s))) aT)):=cX.new hr3;have B3:Bx (h1.set r3 (.cells (Value.cells (.string (tx s))) aT)) r3 [.string (tx s)]:=Bx.new;generalize h1.set r3 (.cells (Value.cells (.string (tx s))) aT)=h3 at *;have e3:=u1.trans u3;have m1:r1∉F:=λhm=>H.known r1 hm hr1;have m3:r3∉F:=λhm=>(H.ext u1).known r3 hm hr3;simp only[eO.load,gO (B1.ext u3),aD6,cC,reduceIte,cI,Nat.reduceAdd];refine aTP (Q:=λd' x' e=>fP d x s=(d',x'.brk e,e)) (H.ext e3) (λhx k' hk'=>?_) (λhx=>?_) (λhx h' F' d' x' e H' st q=>?_)
 ·exact aST (H.ext e3) hx s hs (by omega) (B1.ext u3) B3 m1 m3 hk'
 ·have e:fP d x s=(d,x,14):=by unfold fP;rw[if_pos hx]
  rw[e] at hk;exact hk h3 F (H.ext e3) (eA.ext e3)
 ·rw[q] at hk;exact hk h' F' H' ((eA.ext e3).trans st)
def Low(N:Nat)(s:Tx):Prop:=(∀i,1≤i->i<8->s.getD i 0=0)∧(s.getD 8 0).toNat≤N
def Low.mono{N M:Nat}{s:Tx}(h:Low N s)(hm:N≤M):Low M s:=⟨h.1,zLE h.2 hm⟩
def aRU{f c:Tx}(hl:f.length=c.length)(t i:Nat):(f.take t++c.drop t).getD i 0=if i<t then f.getD i 0 else c.getD i 0:=by
 rw[sQ,List.getElem?_append,lU,aDn,aJs];by_cases h1:i<t
 ·rw[if_pos h1,if_pos h1];by_cases h2:i<f.length
  ·rw[if_pos (by omega),sQ]
  ·rw[if_neg (by omega),sQ,List.getElem?_eq_none (show f.length≤i by omega),List.getElem?_eq_none (by omega)]
 ·rw[if_neg (show ¬i<min t f.length by omega),if_neg h1,sQ];by_cases h2:t≤f.length
  ·rw[show t+(i-min t f.length)=i by omega]
  ·rw[List.getElem?_eq_none (show c.length≤i by omega),List.getElem?_eq_none (by omega)]
def Low.mix{N:Nat}{f c:Tx}(hf:Low N f)(hc:Low N c)(hl:f.length=c.length)(t:Nat):Low N (f.take t++c.drop t):=by
 refine⟨λi h1 h2=>?_,?_⟩
 ·rw[aRU hl];split
  ·exact hf.1 i h1 h2
  ·exact hc.1 i h1 h2
 ·rw[aRU hl];split
  ·exact hf.2
  ·exact hc.2
def aRZ{N:Nat}:∀{s:Tx},Low N s->9≤s.length->yU s≤N
 | [],_,h|[_],_,h|[_,_],_,h|[_,_,_],_,h|[_,_,_,_],_,h|[_,_,_,_,_],_,h|[_,_,_,_,_,_],_,h|[_,_,_,_,_,_,_],_,h|[_,_,_,_,_,_,_,_],_,h=>by simp at h
 | a::b::c::d::e::f::g::i::j::r,h,_=>by
  have h1:b=0:=h.1 1 (by decide) (by decide);have h2:c=0:=h.1 2 (by decide) (by decide);have h3:d=0:=h.1 3 (by decide) (by decide);have h4:e=0:=h.1 4 (by decide) (by decide);have h5:f=0:=h.1 5 (by decide) (by decide);have h6:g=0:=h.1 6 (by decide) (by decide);have h7:i=0:=h.1 7 (by decide) (by decide);have h8:j.toNat≤N:=h.2;subst h1 h2 h3 h4 h5 h6 h7;have e:yU (a::0::0::0::0::0::0::0::j::r)=j.toNat:=by
   show lG [0,0,0,0,0,0,0,j]=j.toNat;simp[lG]
  rw[e];exact h8
def aUy{n:Nat}(h:n<256):be n 8=[0,0,0,0,0,0,0,UInt8.ofNat n]:=by
 have e:n/256=0:=by omega
 have e2:n%256=n:=by omega
 simp[be,e,e2]
def aTk{N gen:Nat}(hg:gen≤N)(hN:N<256)(a:UInt8)(r:Tx):Low N ([a]++(be gen 8++r)):=by
 rw[aUy (by omega)];refine⟨λi h1 h2=>?_,?_⟩
 ·have:i=1∨i=2∨i=3∨i=4∨i=5∨i=6∨i=7:=by omega
  rcases this with rfl|rfl|rfl|rfl|rfl|rfl|rfl<;>rfl
 ·show(UInt8.ofNat gen).toNat≤N;rw[UInt8.toNat_ofNat'];omega
def aS8{N size gen ser k parts:Nat}{b:Tx}(hg:gen≤N)(hN:N<256):Low N (nC size gen ser k parts b):=by
 unfold nC mQ mX;simp only[uS];exact aTk hg hN _ _
def aPO{N size:Nat}{h:Hd}(hg:h.gen≤N)(hN:N<256)(h0:(fO size h).2=0):Low N (fO size h).1:=by
 unfold fO at h0 ⊢;split at h0
 ·cases h0
 ·rename_i c;rw[if_neg c];unfold mQ nM;simp only[uS];exact aTk hg hN _ _
def aQC(N n:Nat):Low N (kJ n):=by
 have h:∀i,(kJ n).getD i 0=0:=λi=>by
  unfold kJ;rw[sQ,List.getElem?_replicate];split<;>rfl
 refine⟨λi _ _=>h i,?_⟩;rw[h];exact kT _
def aUg{size:Nat}{s:Tx}(h:(fW size s).2=0):(fW size s).1.gen=yU s:=by
 rw[←aMc] at h ⊢;unfold vV at h ⊢;split at h
 ·cases h
 ·rename_i a;split at h
  ·cases h
  ·rename_i b;split at h
   ·cases h
   ·rename_i c;split at h
    ·cases h
    ·rename_i d;split at h
     ·cases h
     ·rename_i e;split at h
      ·cases h
      ·rename_i f;rw[if_neg a,if_neg b,if_neg c,if_neg d,if_neg e,if_neg f];rfl
def aT8{N size:Nat}{s:Tx}(h:Low N s)(hl:9≤s.length):(fI size s).1.gen≤N:=by
 rw[←aQw];unfold aG4;split
 ·exact kT _
 ·split
  ·exact kT _
  ·split
   ·exact kT _
   ·split
    ·exact aRZ h hl
    ·exact kT _
def aKY(b:Hd×Int)(k:Int)(h:Hd):(nP b k h).1.gen=max b.1.gen h.gen:=by
 unfold nP;split
 ·rename_i c;show h.gen=_;omega
 ·rename_i c;by_cases e:h=Hd.zero
  ·rw[e];show b.1.gen=max b.1.gen 0;omega
  ·have:¬b.1.gen<h.gen:=λx=>c ⟨e,x⟩;omega
def aSL(size:Nat)(x y:Tx):(jX size x y).1.gen=max (fI size x).1.gen (fI size y).1.gen:=by
 unfold jX;rw[aKY,aKY];show max (max 0 _) _=_;omega
def aON{size:Nat}{x y:Tx}(h:1≤(jX size x y).1.gen):((jX size x y).2=0∧fI size x=((jX size x y).1,0)∨(jX size x y).2=1∧fI size y=((jX size x y).1,0)):=by
 have key:∀s:Tx,(fI size s).1≠Hd.zero->fI size s=((fI size s).1,0):=λs hs=>by
  have:(fI size s).2=0:=Classical.byContradiction λc=>hs (aMA c);rw[←this]
 unfold jX at h ⊢;by_cases c1:(fI size y).1≠Hd.zero∧(nP (Hd.zero,-1) 0 (fI size x).1).1.gen<(fI size y).1.gen
 ·have e:nP (nP (Hd.zero,-1) 0 (fI size x).1) 1 (fI size y).1=((fI size y).1,1):=if_pos c1;rw[e];exact .inr ⟨rfl,key y c1.1⟩
 ·have e:nP (nP (Hd.zero,-1) 0 (fI size x).1) 1 (fI size y).1=nP (Hd.zero,-1) 0 (fI size x).1:=if_neg c1;rw[e] at h ⊢;by_cases c2:(fI size x).1≠Hd.zero∧(Hd.zero,(-1:Int)).1.gen<(fI size x).1.gen
  ·have e2:nP (Hd.zero,-1) 0 (fI size x).1=((fI size x).1,0):=if_pos c2;rw[e2];exact .inl ⟨rfl,key x c2.1⟩
  ·have e2:nP (Hd.zero,-1) 0 (fI size x).1=(Hd.zero,-1):=if_neg c2;rw[e2] at h;exact absurd h (by decide)
def aJm{N size:Nat}:∀(l:List ((Nat×Tx)×(Bool×Int))) (t:Bool) (st:List Tx),(∀s∈st,s.length=size∧Low N s)->(∀x∈l,x.1.1<st.length∧x.1.2.length=size∧Low N x.1.2)->∀s∈uG size l t st,s.length=size∧Low N s
 | [],_,_,h,_=>h
 | x::r,t,st,h,hl=>by
  obtain⟨h1,h2,h2'⟩:=hl x (by simp);have hr:=λy hy=>hl y (aHC _ hy);have h3:(st.getD x.1.1 []).length=size∧Low N (st.getD x.1.1 []):=by
   rw[sQ,kF h1];exact h _ (aHO h1)
  unfold uG;split
  ·exact aJm r t st h hr
  ·split
   ·rename_i c;refine aJm r true _ (λs hs=>?_) (by rw[List.length_set];exact hr);rcases List.mem_or_eq_of_mem_set hs with e|e
    ·exact h s e
    ·rw[e];exact⟨by rw[jM,lU,jC,h2,h3.1];omega,h2'.mix h3.2 (by omega) _⟩
   ·refine aJm r t _ (λs hs=>?_) (by rw[List.length_set];exact hr);rcases List.mem_or_eq_of_mem_set hs with e|e
    ·exact h s e
    ·rw[e];exact⟨h2,h2'⟩
def aIl{size n:Nat}:∀(l:List ((Nat×Tx)×(Bool×Int))) (t:Bool) (st:List Tx),(∀x∈l,x.1.1≠n)->(uG size l t st).getD n []=st.getD n []
 | [],_,_,_=>rfl
 | x::r,t,st,h=>by
  have hr:=λy hy=>h y (aHC _ hy);have hx:=h x (by simp);have hset:∀s:Tx,(st.set x.1.1 s).getD n []=st.getD n []:=λs=>by rw[sQ,sQ,List.getElem?_set_ne hx]
  unfold uG;split
  ·exact aIl r t st hr
  ·split
   ·rw[aIl r true _ hr,hset]
   ·rw[aIl r t _ hr,hset]
def aPJ{room:Int}:∀(l:List Tx) (st:Dm×Int),(st.2=0->OkD st.1 room∧st.1.wf)->(l.foldl (mT room) st).2=0->OkD (l.foldl (mT room) st).1 room∧(l.foldl (mT room) st).1.wf
 | [],st,h,h0=>h h0
 | s::l,st,h,h0=>by
  rw[zLt] at h0 ⊢;refine aPJ l _ (λe=>?_) h0;unfold mT at e ⊢;split
  ·rename_i c;rw[if_pos c] at e;split
   ·rename_i c2;rw[if_pos c2] at e;exact⟨(aEZ e).2.2.1,aJH e (h c).2 (aKB s)⟩
   ·rename_i c2;rw[if_neg c2] at e;exact absurd e c2
  ·rename_i c;rw[if_neg c] at e;exact absurd e c
def aWY{room:Int}{l:List Tx}(h:(yM room l).2=0):OkD (yM room l).1 room∧(yM room l).1.wf:=by
 cases l with
 | nil=>exact absurd h (by show(3:Int)≠0;decide)
 | cons s l=>
  have e0:yM room (s::l)=if (l.foldl (mT room) (lY room s)).2≠0 then(Dm.zero,(l.foldl (mT room) (lY room s)).2) else l.foldl (mT room) (lY room s):=rfl
  rw[e0] at h ⊢;split at h
  ·rename_i c;exact absurd h c
  ·rename_i c;rw[if_neg c];refine aPJ l _ (λe=>?_) h;unfold lY at e ⊢;split at e
   ·rename_i a;exact absurd e a
   ·rename_i a;split at e
    ·cases e
    ·rename_i b;split at e
     ·rename_i d;exact absurd e d
     ·rename_i d;rw[if_neg a,if_neg b,if_neg d];exact⟨aC5.1 (Classical.not_not.1 d),(aKB s).s⟩
def aKj{room:Int}{s0:Dm}{l:List Tx}(h0:chk s0 room=0)(w0:s0.wf)(h:(kE room s0 l).2=0):OkD (kE room s0 l).1 room∧(kE room s0 l).1.wf:=by
 unfold kE at h ⊢;split
 ·exact⟨aC5.1 h0,w0⟩
 ·rename_i c;rw[if_neg c] at h;exact aWY h
def Dk.nw(d:Dk):Hd×Int:=jX d.size (d.st.getD 0 []) (d.st.getD 1 [])
def Qs(size g:Nat)(s:Tx):Prop:=(fW size s).2=0->(fW size s).1.ser≠0->(fW size s).1.gen≤g
def Qs.mono{size g g':Nat}{s:Tx}(h:Qs size g s)(hg:g≤g'):Qs size g' s:=λa b=>zLE (h a b) hg
def Qs.low{size g:Nat}{s:Tx}(h:Low g s)(hl:9≤s.length):Qs size g s:=λa _=>by
 rw[aUg a];exact aRZ h hl
structure Tw(d:Dk)(g:Nat):Prop where
 ok:d.Ok
 four:4≤d.sectors
 pos:1≤d.nw.1.gen
 small:d.nw.1.gen≤250
 lo:d.nw.1.gen≤g
 hi:g≤d.nw.1.gen+1
 low:∀s∈d.st,Low (d.nw.1.gen+1) s
 lowb:∀w∈d.buf,Low (d.nw.1.gen+1) w.2
 q:∀i,2≤i->i<d.sectors->Qs d.size g (d.st.getD i [])
 qb:∀w∈d.buf,2≤w.1->Qs d.size g w.2
 hb:∀w∈d.buf,w.1<2->w.1=1-d.nw.2.toNat
def aJv{st:List Tx}{i:Nat}(h:i<st.length):st.getD i []∈st:=by
 rw[sQ,kF h];exact aHO h
def aQx{d d':Dk}(hs:d'.size=d.size)(h9:∀i,i<2->9≤(d'.st.getD i []).length)(pos:1≤d.nw.1.gen)(keep:d'.st.getD d.nw.2.toNat []=d.st.getD d.nw.2.toNat [])(low:∀i,i<2->Low (d.nw.1.gen+1) (d'.st.getD i [])):
  d.nw.1.gen≤d'.nw.1.gen∧d'.nw.1.gen≤d.nw.1.gen+1:=by
 have e':d'.nw.1.gen=max (fI d.size (d'.st.getD 0 [])).1.gen (fI d.size (d'.st.getD 1 [])).1.gen:=by
  unfold Dk.nw;rw[aSL,hs]
 have l0:=aT8 (size:=d.size) (low 0 (by decide)) (h9 0 (by decide));have l1:=aT8 (size:=d.size) (low 1 (by decide)) (h9 1 (by decide));refine⟨?_,by omega⟩;have hk:∃k,k<2∧d.nw.2.toNat=k∧fI d.size (d.st.getD k [])=(d.nw.1,0):=by
  have:=aON (size:=d.size) (x:=d.st.getD 0 []) (y:=d.st.getD 1 []) pos;rcases this with⟨a,b⟩|⟨a,b⟩
  ·exact⟨0,by decide,by show d.nw.2.toNat=0;unfold Dk.nw;rw[a];rfl,b⟩
  ·exact⟨1,by decide,by show d.nw.2.toNat=1;unfold Dk.nw;rw[a];rfl,b⟩
 obtain⟨k,h2,hk1,hk2⟩:=hk;rw[hk1] at keep;have:(fI d.size (d'.st.getD k [])).1.gen=d.nw.1.gen:=by rw[keep,hk2]
 have:k=0∨k=1:=by omega
 rcases this with rfl|rfl<;>omega
def aEw{d:Dk}(pos:1≤d.nw.1.gen):d.nw.2=(d.nw.2.toNat:Int)∧d.nw.2.toNat≤1∧fI d.size (d.st.getD d.nw.2.toNat [])=(d.nw.1,0):=by
 have:=aON (size:=d.size) (x:=d.st.getD 0 []) (y:=d.st.getD 1 []) pos;rcases this with⟨a,b⟩|⟨a,b⟩
 ·have e:d.nw.2=0:=a;rw[e];exact⟨rfl,by decide,b⟩
 ·have e:d.nw.2=1:=a;rw[e];exact⟨rfl,by decide,b⟩
def Tw.crash{d:Dk}{g:Nat}(H:Tw d g)(small:d.nw.1.gen≤240)(l:List (Bool×Int)):Tw (d.crash l) ((d.crash l).nw.1.gen+1)∧(d.crash l).nw.1.gen≤d.nw.1.gen+1:=by
 have ok:=H.ok.crash l;have hz:∀x∈d.buf.zip l,x.1.1<d.st.length∧x.1.2.length=d.size∧Low (d.nw.1.gen+1) x.1.2:=λx hx=>by
  have hm:=(List.of_mem_zip hx).1;have:=H.ok.buf x.1 hm;exact⟨by rw[H.ok.len];exact this.1,this.2,H.lowb x.1 hm⟩
 have hlow:=aJm (d.buf.zip l) false d.st (λs hs=>⟨H.ok.each s hs,H.low s hs⟩) hz;have h64:=H.ok.size.1;have hp:=H.pos;have h4:=H.four;have hl:∀i,i<d.sectors->(d.crash l).st.getD i []∈(d.crash l).st:=λi hi=>aJv (by rw[ok.len];exact hi);obtain⟨-,s1,-⟩:=aEw H.pos;obtain⟨a,b⟩:=aQx (d:=d) (d':=d.crash l) rfl (λi hi=>by rw[ok.each _ (hl i (by omega))];show 9≤d.size;omega) H.pos (aIl _ _ _ λx hx e=>by
  have:=H.hb x.1 (List.of_mem_zip hx).1 (by omega);omega) λi hi=>(hlow _ (hl i (by omega))).2
 have hlow':∀s∈(d.crash l).st,Low ((d.crash l).nw.1.gen+1) s:=λs hs=>((hlow s hs).2).mono (by omega);exact⟨⟨ok,h4,by omega,by omega,by omega,lM _,hlow',λw hw=>absurd hw (by show ¬w∈([]:List (Nat×Tx));simp),λi h1 h2=>Qs.low (hlow' _ (hl i h2)) (by rw[ok.each _ (hl i h2)];show 9≤d.size;omega),λw hw=>absurd hw (by show ¬w∈([]:List (Nat×Tx));simp),λw hw=>absurd hw (by show ¬w∈([]:List (Nat×Tx));simp)⟩,b⟩
def mE(v:Value)(n:Nat):List Nat:=if n=0 then [] else match v with | .slice (some a) _ _=>[a.block]|_=>[]
def mE.mem{v:Value}{n b:Nat}(h:b∈mE v n):n≠0∧∃a m c,v= .slice (some a) m c∧b=a.block:=by
 unfold mE at h;split at h
 ·cases h
 ·rename_i c;split at h
  ·rename_i a m c';simp only[iC] at h;exact⟨c,a,m,c',rfl,h⟩
  ·cases h
def mE.new{h:PH}{v:Value}{n b:Nat}(H:iQ h v)(hb:b∈mE v n):h b=none:=by
 obtain⟨-,a,m,c,e,rfl⟩:=mE.mem hb;exact H a m c e
def aEs{h:PH}{v:Value}{l:List It}(S:jT h v l):∀b∈mE v l.length,h b≠none:=by
 intro b hb;obtain⟨h0,a,m,c,e,rfl⟩:=mE.mem hb;exact iH.known S (by intro e;apply h0;have:=congrArg List.length e;simpa using this) e
def aF9{h h':PH}{v:Value}{l:List It}{K:List Nat}(S:jT h v l)(u:cX K h h')(hK:∀b∈mE v l.length,b∉K):jT h' v l:=by
 refine iH.upd0 S u λhne a n c e=>hK a.block ?_;unfold mE;rw[if_neg (by intro e0;apply hne;rw[zLN e0];rfl),e];simp
def aBw{h h':PH}{v:Value}{l:List It}{F F':List Nat}(S:jT h v l)(s:eA h F h' F')(hd:∀b∈mE v l.length,b∉F):jT h' v l∧∀b∈mE v l.length,b∉F':=
 ⟨aF9 S s.upd hd,λb hb hm=>by
  rcases s.grow b hm with e|e
  ·exact hd b hb e
  ·exact aEs S b hb e⟩
def Jn.cells(w:Nat)(x:Jn)(iv:Value):List Value:=[pT w 0,.int .i64 x.room,.int .u64 x.s.p0.h,.int .i64 x.s.p0.i,.int .u64 x.s.p1.h,.int .i64 x.s.p1.i,iv]
structure wQ(a w j:Nat)(d:Dk)(x:Jn)(h:PH)(F:List Nat):Prop where
 here:∃Fw iv,F=j::(mE iv x.s.its.length++Fw)∧Bx h j (x.cells w iv)∧xY a w d x.w h Fw∧jT h iv x.s.its∧j∉Fw∧j∉mE iv x.s.its.length∧∀b∈mE iv x.s.its.length,b∉Fw
 ok:OkD x.s x.room
 wf:x.s.wf
def wQ.known{a w j:Nat}{d:Dk}{x:Jn}{h:PH}{F:List Nat}(H:wQ a w j d x h F):∀b∈F,h b≠none:=by
 obtain⟨Fw,iv,rfl,B,W,S,-⟩:=H.here;intro b hb;simp only[iW,tK] at hb;rcases hb with rfl|hb|hb
 ·exact B.known
 ·exact aEs S b hb
 ·exact W.known b hb
def wQ.upd{a w j:Nat}{d:Dk}{x:Jn}{h h':PH}{F K:List Nat}(H:wQ a w j d x h F)(u:cX K h h')(hK:∀b∈F,b∉K):wQ a w j d x h' F:=by
 obtain⟨Fw,iv,rfl,B,W,S,n⟩:=H.here;exact⟨⟨Fw,iv,rfl,B.upd u (hK j (by simp)),W.upd u (λb hb=>hK b (by simp[hb])),aF9 S u (λb hb=>hK b (by simp[hb])),n⟩,H.ok,H.wf⟩
def wQ.good(a w j:Nat)(d:Dk)(x:Jn):aH7 (wQ a w j d x):=⟨λH=>H.known,λH u hK=>H.upd u hK⟩
def wQ.ext{a w j:Nat}{d:Dk}{x:Jn}{h h':PH}{F:List Nat}(H:wQ a w j d x h F)(u:dA h h'):wQ a w j d x h' F:=(wQ.good a w j d x).ext H u
def aQ0(s:Dm)(b:Option Addr)(n c:Nat):cB PG (build bW #[(0,.int .i64 1),(1,s.v (.slice b n c))])=some ((mA s).v (.slice b n c) (.slice none 0 0)):=by kernel_rfl
def aWN(s:Dm)(b:Option Addr)(n c:Nat):cB PG (build bR #[(0,lO s.p0 s.p1),(1,.slice b n c)])=some (s.v (.slice b n c)):=by kernel_rfl
def aQ2(ch:Int)(q:Pl)(ns:List Nt)(b:Option Addr)(n c:Nat):cB PG (build bW #[(0,.int .i64 2),(2,.int .i64 ch),(3,.agg q.cells.toArray),(4,.slice b n c)])=some ((gN ch q ns).v (.slice none 0 0) (.slice b n c)):=by kernel_rfl
def sC{h:PH}{v:Value}{n:Nat}{l:List (List Value)}(S:iH h n v l):∃b m c,v= .slice b m c:=by
 obtain⟨b,c,e,-⟩:=S.here;exact⟨b,_,c,e⟩
def aOy{h:PH}{s:Dm}{iv:Value}(S:jT h iv s.its)(wf:s.wf){k:cE}(hk:∀h',dA h h'->k (.string (tx (fZ s))) h'):bT PG aB0 #[s.v iv] h k:=by
 apply aEB.call;unfold aEB;intro r1 hr1
 try rw[cR]
 have u1:dA h (h.set r1 (.cells (Value.cells (s.v iv)) bR)):=cX.new hr1;have B1:Bx (h.set r1 (.cells (Value.cells (s.v iv)) bR)) r1 (s.cells iv):=Bx.new;generalize h.set r1 (.cells (Value.cells (s.v iv)) bR)=h1 at *;have l1:cD PG h1 (loadAt bR (pT r1 0))=some (s.v iv):=bR.agg B1 (by show 0+5≤5;decide);obtain⟨b,m,c,rfl⟩:=sC S;simp only[l1,aQ0,cC,reduceIte,cI,Nat.reduceAdd];refine aMJ (r:=mA s) (S.ext u1) (eH.nil (e:=cL)).slR (aKC wf) λh2 u2=>?_;simp only[cC,reduceIte,cI,Nat.reduceAdd];exact hk h2 (u1.trans u2)
structure JlB(w j:Nat)(x:Jn)(iv:Value)(h:PH):Prop where
 wal:cV h ⟨j,0,none⟩=some (pT w 0)
 room:cV h ⟨j,0+1,none⟩=some (.int .i64 x.room)
 st:cD PG h (loadAt bR (pT j (0+2)))=some (x.s.v iv)
 pl:cD PG h (loadAt cU (pT j (0+2)))=some (lO x.s.p0 x.s.p1)
 its:cV h ⟨j,0+2+4,none⟩=some iv
def JlB.of{w j:Nat}{x:Jn}{iv:Value}{h:PH}(B:Bx h j (x.cells w iv)):JlB w j x iv h:=
 ⟨B.cell 0,B.cell 1,bR.agg B (by show 0+2+5≤7;decide),cU.agg B (by show 0+2+4≤7;decide),B.cell 6⟩
def aTt{h:PH}{w j:Nat}{a:Nat}{x:Jn}{iv:Value}(L:JlB w j x iv h)(W:wV a w x.w h){k:cE}(hk:k (.bool x.w.broken) h):bT PG oR #[pT j 0] h k:=by
 apply uX.call;unfold uX;simp only[fX.f0,eO.load,L.wal,cC,reduceIte,cI,Nat.reduceAdd];exact aTu W hk
def wQ.halted{a w j:Nat}{d:Dk}{x:Jn}{h:PH}{F:List Nat}(H:wQ a w j d x h F){k:cE}(hk:k (.bool x.w.broken) h):bT PG oR #[pT j 0] h k:=by
 obtain⟨Fw,iv,rfl,B,W,S,-⟩:=H.here;obtain⟨Fd,rfl,Bw,-⟩:=W.here;exact aTt (JlB.of B) (wV.of Bw) hk
def aMS{h:PH}{a w j:Nat}{d:Dk}{x:Jn}{F:List Nat}(H:wQ a w j d x h F){k:cE}(hk:∀h' v,jT h' v x.s.its->iQ h v->dA h h'->k (x.s.v v) h'):bT PG nD #[pT j 0] h k:=by
 apply pI.call;unfold pI;obtain⟨Fw,iv,rfl,B,W,S,-⟩:=H.here;have hlen:=H.ok.len;have hr2:=H.ok.r2;intro r1 hr1
 try rw[cR]
 have Z1:=bR.zbox (h:=h) (r:=r1);have u1:dA h (h.set r1 (.cells (dJ PG bR) bR)):=cX.new hr1;generalize h.set r1 (.cells (dJ PG bR) bR)=h1 at *;have L:=JlB.of (B.ext u1);have f1:eD h [r1]:=eD.one hr1;simp only[fX.f2,bR.f0,bR.f1,L.pl,bZ.load,L.its,cC,reduceIte,cI,Nat.reduceAdd];refine aO0 (S.ext u1) (by omega) λv2 h2 S2 N2 u2=>?_;have L2:=JlB.of ((B.ext u1).ext u2);obtain⟨b,m,c,rfl⟩:=sC S2;refine⟨L2.pl,?_⟩;have hb:cB PG (build bR #[(0,lO x.s.p0 x.s.p1),(1,.slice b m c)])=some (x.s.v (.slice b m c)):=by
  exact aWN x.s b m c
 simp only[hb,cC,reduceIte,cI,Nat.reduceAdd];have Zx:=Z1.ext u2;refine bR.put Zx (vs:=x.s.cells (.slice b m c)) (o:=0) rfl (by show 0+5≤5;decide) (by simp[Dm.cells,fL]) λh3 B3 u3=>?_;have l3:cD PG h3 (loadAt bR (pT r1 0))=some (x.s.v (.slice b m c)):=bR.agg (cs:=x.s.cells (.slice b m c)) B3 (by show 0+5≤5;decide);simp only[l3,cC,reduceIte,cI,Nat.reduceAdd];have N:∀a' n' c',Value.slice b m c= .slice (some a') n' c'->a'.block∉[r1]:=λa' n' c' e hm=>by
  simp only[iC] at hm;exact Z1.known (hm▸N2 a' n' c' e)
 exact hk h3 _ (S2.upd u3 N) (N2.of u1) ((u1.trans u2).fresh u3 f1)
def aUs{h0 h:PH}{a w j r:Nat}{d':Dk}{x:Jn}{w':Wl}{iv v':Value}{nx:Dm}{F0 Fw:List Nat}{e:Int}(B:Bx h j (x.cells w iv))(S:jT h iv x.s.its)(W:xY a w d' w' h Fw)(B2:Bx h r (nx.cells v'))(S2:jT h v' nx.its)
  (n1:j∉Fw) (n2:j∉mE iv x.s.its.length) (n3:∀b∈mE iv x.s.its.length,b∉Fw) (m2:j∉mE v' nx.its.length) (m3:∀b∈mE v' nx.its.length,b∉Fw) (m4:∀b∈mE v' nx.its.length,b∈F0∨h0 b=none)
  (st:eA h0 F0 h (j::(mE iv x.s.its.length++Fw))) (ok:OkD x.s x.room) (wf:x.s.wf) (ok2:e=0->OkD nx x.room) (wf2:e=0->nx.wf) {k:cE}
  (hk:∀h' F',wQ a w j d' ⟨w',x.room,if e=0 then nx else x.s⟩ h' F'->eA h0 F0 h' F'->k (.int .i64 e) h'):pN k (pT j 0) (pT r 0) (.int .i64 e) h:=by
 unfold pN;by_cases c:e=0
 ·have q:(e==0)=true:=by rw[c];rfl
  have l2:cD PG h (loadAt bR (pT r 0))=some (nx.v v'):=bR.agg B2 (by show 0+5≤5;decide);obtain⟨b,m,c',rfl⟩:=sC S2;simp only[gA,q,l2,fX.f2,cC,reduceIte,cI,Nat.reduceAdd];refine bR.put B (vs:=nx.cells (.slice b m c')) (o:=2) rfl (by show 2+5≤7;decide) (by simp[Dm.cells,fL]) λh3 B3 u3=>?_;unfold sT;have B3:Bx h3 j (Jn.cells w ⟨w',x.room,nx⟩ (.slice b m c')):=B3;rw[if_pos c] at hk;refine hk h3 (j::(mE (.slice b m c') nx.its.length++Fw)) ⟨⟨Fw,_,rfl,B3,W.upd u3 (kN n1),aF9 S2 u3 (kN m2),n1,m2,m3⟩,ok2 c,wf2 c⟩ ⟨?_,λb hb=>?_⟩
  ·exact st.upd.then u3 (λb hb=>by
    simp only[iC] at hb;exact st.grow b (by rw[hb];simp))
  ·simp only[iW,tK] at hb;rcases hb with rfl|hb|hb
   ·exact st.grow _ (by simp)
   ·exact m4 b hb
   ·exact st.grow b (by simp[hb])
 ·have q:(e==0)=false:=by rw[beq_eq_false_iff_ne];exact c
  rw[if_neg c] at hk;simp only[gA,q,cC,reduceIte,cI,Nat.reduceAdd];unfold sT;exact hk h _ ⟨⟨Fw,iv,rfl,B,W,S,n1,n2,n3⟩,ok,wf⟩ st
def aCO{r:Rc}(wf:yI r):r.bytes.1.length≤4096:=by
 rcases aAd r with⟨-,b⟩|⟨a,-⟩
 ·rw[b];exact aGG wf
 ·exact absurd wf a
def aUr{h:PH}{a w j:Nat}{d:Dk}{x:Jn}{F:List Nat}{vn:Value}{ns:List Nt}(H:wQ a w j d x h F)(ch:Int)(q:Pl)(hq:q.wf)(N:wN h vn ns)(hn:∀y∈ns,y.p.wf)(hb:d.buf.length≤900000){k:cE}
  (hk:∀h' F',wQ a w j (lS d x ch q ns).1 (lS d x ch q ns).2.1 h' F'->eA h F h' F'->k (.int .i64 (lS d x ch q ns).2.2) h'):bT PG qI #[pT j 0,.int .i64 ch,.agg q.cells.toArray,vn] h k:=by
 apply qE.call;unfold qE;obtain⟨Fw,iv,eF,B,W,S,n1,n2,n3⟩:=id H.here;have hlen:=H.ok.len;have hr2:=H.ok.r2;have wfr:(gN ch q ns).wf:=⟨⟨Pl.wf_zero,Pl.wf_zero,by simp[gN,Dm.zero]⟩,hq,hn⟩;intro r1 hr1
 try rw[cR]
 have u1:dA h (h.set r1 (.cells (Value.cells (.agg q.cells.toArray)) cG)):=cX.new hr1;have B1:Bx (h.set r1 (.cells (Value.cells (.agg q.cells.toArray)) cG)) r1 q.cells:=Bx.new;generalize h.set r1 (.cells (Value.cells (.agg q.cells.toArray)) cG)=h1 at *;have H1:=H.ext u1;refine wQ.halted H1 ?_;unfold lS at hk;cases hx:x.w.broken with
 | true=>
  rw[if_pos hx] at hk;simp only[cC,reduceIte,cI,Nat.reduceAdd];exact hk h1 F H1 (eA.ext u1)
 | false=>
  rw[if_neg (by rw[hx];decide)] at hk;have l1:cD PG h1 (loadAt cG (pT r1 0))=some (.agg q.cells.toArray):=cG.agg B1 (by show 0+2≤2;decide);obtain⟨bn,mn,cn,rfl⟩:=sC N;simp only[l1,aQ2 ch q ns,cC,reduceIte,cI,Nat.reduceAdd];intro r7 hr7
  try rw[cR]
  refine bW.fill (vs:=(gN ch q ns).cells (.slice none 0 0) (.slice bn mn cn)) hr7 rfl (by simp[Rc.cells,fL]) λh2 B7 u2=>?_;have e2:=u1.trans u2;have L:=JlB.of (B.ext e2);have l7:cD PG h2 (loadAt bW (pT r7 0))=some ((gN ch q ns).v (.slice none 0 0) (.slice bn mn cn)):=bW.agg B7 (by show 0+10≤10;decide);simp only[fX.f1,fX.f2,L.st,aR.load,L.room,l7,cC,reduceIte,cI,Nat.reduceAdd];have nz:jT h2 (.slice none 0 0) (gN ch q ns).s.its:=(eH.nil (e:=cF)).slR;refine aQo (r:=gN ch q ns) (S.ext e2) nz (N.ext e2) wfr (by omega) λh3 v' S3 N3 u3=>?_;have e3:=e2.trans u3;obtain⟨P,hP⟩:∃P,lT x.s x.room (gN ch q ns)=P:=⟨_,rfl⟩;have hgood:=aEZ (d:=x.s) (room:=x.room) (r:=gN ch q ns);have hpwf:=aJH (d:=x.s) (room:=x.room) (r:=gN ch q ns);rw[hP] at hk S3 hgood hpwf ⊢;simp only[cC,reduceIte,cI,Nat.reduceAdd];intro r22 hr22
  try rw[cR]
  obtain⟨b',m',c',rfl⟩:=sC S3;refine bR.fill (vs:=P.1.cells (.slice b' m' c')) hr22 rfl (by simp[Dm.cells,fL]) λh4 B22 u4=>?_;have e4:=e3.trans u4;by_cases c:P.2=0
  ·have qc:(P.2 !=0)=false:=by rw[c];rfl
   rw[if_neg (λe=>e c)] at hk;obtain⟨-,hrc,hok2,-⟩:=hgood c;have hwf2:=hpwf c H.wf wfr;have l7':cD PG h4 (loadAt bW (pT r7 0))=some ((gN ch q ns).v (.slice none 0 0) (.slice bn mn cn)):=bW.agg ((B7.ext u3).ext u4) (by show 0+10≤10;decide);simp only[eI,qc,l7',cC,reduceIte,cI,Nat.reduceAdd];refine aMJ (r:=gN ch q ns) (eH.nil (e:=cF)).slR (N.ext e4) wfr λh5 u5=>?_;have e5:=e4.trans u5;have L5:=JlB.of (B.ext e5);simp only[fX.f0,eO.load,L5.wal,iV,cC,reduceIte,cI,Nat.reduceAdd];have hsb:=aCO hrc;refine aQ4 (W.ext e5) _ (by omega) λh6 u6=>?_;have e6:=e5.trans u6;have L6:=JlB.of (B.ext e6);have W6:=W.ext e6;have S6:jT h6 (.slice b' m' c') P.1.its:=((S3.ext u4).ext u5).ext u6;have nb:∀b∈mE (.slice b' m' c') P.1.its.length,h2 b=none:=λb hb=>mE.new N3 hb;have d1:j∉mE (.slice b' m' c') P.1.its.length:=λhm=>(B.ext e2).known (nb j hm);have d2:∀b∈mE (.slice b' m' c') P.1.its.length,b∉Fw:=λb hb hf=>(W.ext e2).known b hf (nb b hb);have d3:∀b∈mE (.slice b' m' c') P.1.its.length,h b=none:=λb hb=>e2.none (nb b hb);have fin:∀h7 Fw' d' w' e,xY a w d' w' h7 Fw'->eA h6 Fw h7 Fw'->vH d x (gN ch q ns) P.1=(d',w',e)->pN k (pT j 0) (pT r22 0) (.int .i64 e) h7:=by
    intro h7 Fw' d' w' e W7 s7 eq;rw[eq] at hk;have r22F:r22∉Fw:=λhm=>(W.ext e3).known r22 hm hr22;obtain⟨B7',k1⟩:=(B.ext e6).step s7 n1;obtain⟨B22',-⟩:=((B22.ext u5).ext u6).step s7 r22F;obtain⟨S7,k2⟩:=aBw S6 s7 d2;obtain⟨S7',k3⟩:=aBw (S.ext e6) s7 n3;refine aUs (x:=x) B7' S7' W7 B22' S7 k1 n2 k3 d1 k2 (λb hb=>.inr (d3 b hb)) ?_ H.ok H.wf (λ_=>hok2) (λ_=>hwf2) hk;refine⟨?_,λb hb=>?_⟩
    ·exact e6.upd.then s7.upd (λb hb=>.inl (by rw[eF];simp[hb]))
    ·rw[eF];simp only[iW,tK] at hb ⊢;rcases hb with rfl|hb|hb
     ·exact .inl (.inl rfl)
     ·exact .inl (.inr (.inl hb))
     ·rcases s7.grow b hb with e|e
      ·exact .inl (.inr (.inr e))
      ·exact .inr (e6.none e)
   unfold vH at fin;cases cf:fits d x.w (gN ch q ns).bytes.1.length with
   | true=>
    rw[if_pos cf] at fin;simp only[fX.f0,eO.load,L6.wal,cC,reduceIte,cI,Nat.reduceAdd];refine aRn W6 _ (by omega) (by omega) λh7 F7 W7 s7=>?_;exact fin h7 F7 _ _ _ W7 s7 rfl
   | false=>
    rw[if_neg (by rw[cf];decide)] at fin;have l22:cD PG h6 (loadAt bR (pT r22 0))=some (P.1.v (.slice b' m' c')):=bR.agg ((B22.ext u5).ext u6) (by show 0+5≤5;decide);simp only[fX.f0,eO.load,L6.wal,l22,cC,reduceIte,cI,Nat.reduceAdd];refine aOy S6 hwf2 λh7 u7=>?_;have L7:=JlB.of ((B.ext e6).ext u7);refine⟨L7.wal,?_⟩;have hsw:=aCO (aB7 hok2);refine aOG (W6.ext u7) _ (by unfold fZ;omega) (by omega) λh8 F8 W8 s8=>?_;exact fin h8 F8 _ _ _ W8 ((eA.ext u7).trans s8) rfl
  ·have qc:(P.2 !=0)=true:=bne_iff_ne.2 c;rw[if_pos c] at hk;simp only[eI,qc,cC,reduceIte,cI,Nat.reduceAdd];exact hk h4 F (H.ext e4) (eA.ext e4)
def aXd(w:Nat)(room:Int)(x:Wl)(s:Dm)(b:Option Addr)(n c:Nat):cB PG (build fX #[(0,pT w 0),(1,.int .i64 room),(2,s.v (.slice b n c))])=some (.agg (Jn.cells w ⟨x,room,s⟩ (.slice b n c)).toArray):=by kernel_rfl
def aRQ(p q:Pl):cB PG (build bR #[(0,lO p q)])=some (Dm.v ⟨p,q,[]⟩ (.slice none 0 0)):=by kernel_rfl
def aPY{h0 h:PH}{a w r:Nat}{d:Dk}{x:Wl}{F0 Fw:List Nat}{room:Int}{s:Dm}{iv:Value}(W:xY a w d x h Fw)(B:Bx h r (s.cells iv))(S:jT h iv s.its)(n1:∀b∈mE iv s.its.length,b∉Fw)(rF:r∉Fw)(m4:∀b∈mE iv s.its.length,b∈F0∨h0 b=none)
  (st:eA h0 F0 h Fw) (ok:OkD s room) (wf:s.wf) (hb:d.buf.length≤900000) {k:cE}
  (bad:∀h' F',oQ a (fP d x (fZ s)).1 h' F'->eA h0 F0 h' F'->(fP d x (fZ s)).2.2≠0->k (.tuple #[.pointer none,.int .i64 (fP d x (fZ s)).2.2]) h')
  (hk:∀h' F' j,wQ a w j (fP d x (fZ s)).1 ⟨(fP d x (fZ s)).2.1,room,s⟩ h' F'->eA h0 F0 h' F'->(fP d x (fZ s)).2.2=0->k (.tuple #[pT j 0,.int .i64 0]) h'):aB6 k (.int .i64 room) (pT r 0) (pT w 0) h:=by
 unfold aB6;have l1:cD PG h (loadAt bR (pT r 0))=some (s.v iv):=bR.agg B (by show 0+5≤5;decide);simp only[l1,cC,reduceIte,cI,Nat.reduceAdd];refine aOy S wf λh1 u1=>?_;have hsw:=aCO (aB7 ok);refine aOG (W.ext u1) _ (by unfold fZ;omega) (by omega) λh2 F2 W2 s2=>?_;have st2:=st.trans ((eA.ext (F:=Fw) u1).trans s2);obtain⟨P,hP⟩:∃P,fP d x (fZ s)=P:=⟨_,rfl⟩;rw[hP] at bad hk W2 ⊢;by_cases c:P.2.2=0
 ·have q:(P.2.2 !=0)=false:=by rw[c];rfl
  obtain⟨B2,-⟩:=(B.ext u1).step s2 rF;obtain⟨S2,k2⟩:=aBw (S.ext u1) s2 n1;have l2:cD PG h2 (loadAt bR (pT r 0))=some (s.v iv):=bR.agg B2 (by show 0+5≤5;decide);obtain⟨b,m,c',rfl⟩:=sC S2;simp only[eI,q,l2,aXd w room P.2.1 s,cC,reduceIte,cI,Nat.reduceAdd];intro r37 hr37
  try rw[cR]
  have u3:dA h2 (h2.set r37 (.cells (Value.cells (.agg (Jn.cells w ⟨P.2.1,room,s⟩ (.slice b m c')).toArray)) fX)):=cX.new hr37;have B3:Bx (h2.set r37 (.cells (Value.cells (.agg (Jn.cells w ⟨P.2.1,room,s⟩ (.slice b m c')).toArray)) fX)) r37 (Jn.cells w ⟨P.2.1,room,s⟩ (.slice b m c')):=Bx.new;generalize h2.set r37 (.cells (Value.cells (.agg (Jn.cells w ⟨P.2.1,room,s⟩ (.slice b m c')).toArray)) fX)=h3 at *;refine hk h3 (r37::(mE (.slice b m c') s.its.length++F2)) r37 ⟨⟨F2,_,rfl,B3,W2.ext u3,S2.ext u3,λhm=>W2.known r37 hm hr37,λhm=>aEs S2 r37 hm hr37,k2⟩,ok,wf⟩ ⟨st2.upd.trans u3.upd,λb hb=>?_⟩ c;simp only[iW,tK] at hb;rcases hb with rfl|hb|hb
  ·exact st2.none hr37
  ·exact m4 b hb
  ·exact st2.grow b hb
 ·have q:(P.2.2 !=0)=true:=bne_iff_ne.2 c;simp only[eI,q,cC,reduceIte,cI,Nat.reduceAdd];obtain⟨Fd,eF,-,D2,-⟩:=W2.here;exact bad h2 Fd D2 ⟨st2.upd,λb hb=>st2.grow b (by rw[eF];simp[hb])⟩ c
def aI5{d:Dk}(H:d.Ok):(fA d).2.1.2.length≤d.segs:=by
 have key:∀(d':Dk) (hd:Hd) (slot:Nat),d'.sectors=d.sectors->(oX d' hd slot).2.length≤d.segs:=λd' hd slot e=>by
  have h1:=aJR (size:=d'.size) (gen:=hd.gen) (d'.segs+1) (d'.secs (d'.base hd.seg) d'.segs) 0;have h2:=aGo (size:=d'.size) (gen:=hd.gen) (d'.segs+1) (d'.secs (d'.base hd.seg) d'.segs) 0;rw[Dk.secs_len] at h1;have:=aGF (d:=d) (d':=d') e;show(jD d'.size hd.gen (d'.segs+1) (d'.secs (d'.base hd.seg) d'.segs) 0).1.length≤_;omega
 unfold fA;split
 ·exact kT _
 ·split
  ·exact kT _
  ·split
   ·split
    ·exact kT _
    ·exact key _ _ _ (((pW _ H.fl 1).2.2.1).trans d.fl_geo.2)
   ·exact key _ _ _ d.fl_geo.2
def aS0(d:Dk):d.fl.1.buf.length≤d.buf.length:=by
 unfold Dk.fl;split
 ·exact lM _
 ·exact kT _
def aI7(d:Dk):(fA d).1.buf.length≤d.buf.length+1:=by
 have hf:=aS0 d;have hp:=aBi [(fO d.size ⟨1,0⟩).1] d.fl.1 1;simp only[iU,kV] at hp;unfold fA;split
 ·show d.buf.length≤_;omega
 ·split
  ·show d.fl.1.buf.length≤_;omega
  ·split
   ·split
    ·show(iE d.fl.1 1 [(fO d.size ⟨1,0⟩).1]).1.buf.length≤_;omega
    ·show(iE d.fl.1 1 [(fO d.size ⟨1,0⟩).1]).1.buf.length≤_;omega
   ·show d.fl.1.buf.length≤_;omega
def aVQ{h:PH}{a:Nat}{d:Dk}{F:List Nat}(D:oQ a d h F)(room:Int)(p q:Pl)(wp:p.wf)(wq:q.wf)(hs:d.sectors≤1000)(hb:d.buf.length≤800000){k:cE}
  (bad:∀h' F',oQ a (fU d room p q).1 h' F'->eA h F h' F'->(fU d room p q).2.2≠0->k (.tuple #[.pointer none,.int .i64 (fU d room p q).2.2]) h')
  (hk:∀h' F' w j,wQ a w j (fU d room p q).1 (fU d room p q).2.1 h' F'->eA h F h' F'->(fU d room p q).2.2=0->k (.tuple #[pT j 0,.int .i64 0]) h'):bT PG wT #[pT a 0,.int .i64 room,lO p q] h k:=by
 apply aFk.call;unfold aFk;intro r1 hr1
 try rw[cR]
 have u1:dA h (h.set r1 (.cells (Value.cells (lO p q)) cU)):=cX.new hr1;have B1:Bx (h.set r1 (.cells (Value.cells (lO p q)) cU)) r1 (p.cells++q.cells):=Bx.new;generalize h.set r1 (.cells (Value.cells (lO p q)) cU)=h1 at *;have l1:cD PG h1 (loadAt cU (pT r1 0))=some (lO p q):=cU.agg B1 (by show 0+4≤4;decide);simp only[l1,aRQ,cC,reduceIte,cI,Nat.reduceAdd];intro r5 hr5
 try rw[cR]
 refine bR.fill (vs:=Dm.cells ⟨p,q,[]⟩ (.slice none 0 0)) hr5 rfl (by simp[Dm.cells,fL]) λh2 B2 u2=>?_;have e2:=u1.trans u2;have l2:cD PG h2 (loadAt bR (pT r5 0))=some (Dm.v ⟨p,q,[]⟩ (.slice none 0 0)):=bR.agg B2 (by show 0+5≤5;decide);have r5F:r5∉F:=λhm=>(D.ext u1).known r5 hm hr5;simp only[l2,cC,reduceIte,cI,Nat.reduceAdd];have nz:∀{h:PH},jT h (.slice none 0 0) (⟨p,q,[]⟩:Dm).its:=(eH.nil (e:=cF)).slR;refine aJa (d:=⟨p,q,[]⟩) nz (by simp) λh3 u3=>?_;have e3:=e2.trans u3;unfold fU at bad hk;have wf0:(⟨p,q,[]⟩:Dm).wf:=⟨wp,wq,by simp⟩;by_cases c:chk ⟨p,q,[]⟩ room=0
 ·have qc:(chk ⟨p,q,[]⟩ room !=0)=false:=by rw[c];rfl
  rw[if_neg (λe=>e c)] at bad hk;simp only[eI,qc,cC,reduceIte,cI,Nat.reduceAdd];refine aUc (D.ext e3) (by omega) (λh4 F4 D4 s4 ne=>?_) (λh4 F4 w v G W4 O4 dj s4 e0=>?_)
  ·have q4:((fA d).2.2 !=0)=true:=bne_iff_ne.2 ne;rw[if_pos ne] at bad;simp only[eI,q4,cC,reduceIte,cI,Nat.reduceAdd];exact bad h4 F4 D4 ((eA.ext e3).trans s4) ne
  ·have q4:((0:Int) !=0)=false:=rfl;rw[if_neg (λe=>e e0)] at bad hk;have hfw:=aI5 D.ok;have hbw:=aI7 d;have hsg:d.segs≤1000:=by unfold Dk.segs;omega
   have st4:=(eA.ext (F:=F) e3).trans s4;obtain⟨B4,r54⟩:=(B2.ext u3).step s4 r5F;have r5w:r5∉F4:=λhm=>r54 (by simp[hm]);have st4':eA h F h4 F4:=⟨st4.upd,λb hb=>st4.grow b (by simp[hb])⟩;have hmay:=aKj (room:=room) (s0:=⟨p,q,[]⟩) (l:=(fA d).2.1.2) c wf0;obtain⟨l,hl⟩:∃l,(fA d).2.1.2=l:=⟨_,rfl⟩;rw[hl] at bad hk O4 hfw hmay;have lv:=aAK O4.slR;by_cases c0:l=[]
   ·have es:kE room ⟨p,q,[]⟩ l=(⟨p,q,[]⟩,0):=by unfold kE;rw[if_pos c0]
    rw[es] at bad hk hmay;rw[if_neg (λe=>e rfl)] at bad hk;have g:((0:Int)<(l.length:Int))=False:=eq_false (by rw[c0];simp);simp only[eI,q4,lv,g,cC,reduceIte,cI,Nat.reduceAdd];refine aPY (h0:=h) (F0:=F) W4 B4 nz (λb hb=>by cases hb) r5w (λb hb=>by cases hb) st4' (hmay rfl).1 wf0 (by omega) (λh' F' D' st ne=>?_) (λh' F' j J st e=>?_)
    ·rw[if_pos ne] at bad;exact bad h' F' D' st ne
    ·rw[if_neg (λx=>x e)] at hk;exact hk h' F' w j J st rfl
   ·have es:kE room ⟨p,q,[]⟩ l=yM room l:=by unfold kE;rw[if_neg c0]
    rw[es] at bad hk hmay;have hpos:0<l.length:=aJ6.2 c0;have g:((0:Int)<(l.length:Int))=True:=eq_true (by omega);simp only[eI,q4,lv,g,cC,reduceIte,cI,Nat.reduceAdd];refine aTp O4.slR (by omega) λh5 v5 S5 N5 u5=>?_;obtain⟨R,hR⟩:∃R,yM room l=R:=⟨_,rfl⟩;rw[hR] at bad hk hmay S5 ⊢;simp only[cC,reduceIte,cI,Nat.reduceAdd];have B5:=B4.ext u5;obtain⟨b',m',c',rfl⟩:=sC S5;refine bR.put B5 (vs:=R.1.cells (.slice b' m' c')) (o:=0) rfl (by show 0+5≤5;decide) (by simp[Dm.cells,fL]) λh6 B6 u6=>?_;have W6:=(W4.ext u5).upd u6 (kN r5w);have m5:∀b∈mE (.slice b' m' c') R.1.its.length,h4 b=none:=λb hb=>mE.new N5 hb;have r5s:r5∉mE (.slice b' m' c') R.1.its.length:=λhm=>B4.known (m5 r5 hm);have S6:=aF9 S5 u6 (kN r5s);have f5:h r5=none:=u1.none hr5;have st6:eA h F h6 F4:=⟨(st4'.upd.trans u5.upd).then u6 (λb hb=>by
     simp only[iC] at hb;rw[hb];exact .inr f5),st4'.grow⟩
    by_cases c2:R.2=0
    ·have q2:(R.2 !=0)=false:=by rw[c2];rfl
     rw[if_neg (λe=>e c2)] at bad hk;simp only[eI,q2,cC,reduceIte,cI,Nat.reduceAdd];refine aPY (h0:=h) (F0:=F) (s:=R.1) (iv:=.slice b' m' c') W6 B6 S6 (λb hb hf=>W4.known b hf (m5 b hb)) r5w (λb hb=>st4'.none (m5 b hb)) st6 (hmay c2).1 (hmay c2).2 (by omega) (λh' F' D' st ne=>?_) (λh' F' j J st e=>?_)
     ·rw[if_pos ne] at bad;exact bad h' F' D' st ne
     ·rw[if_neg (λx=>x e)] at hk;exact hk h' F' w j J st rfl
    ·have q2:(R.2 !=0)=true:=bne_iff_ne.2 c2;rw[if_pos c2] at bad;simp only[eI,q2,cC,reduceIte,cI,Nat.reduceAdd];obtain⟨Fd,eF,-,D6,-⟩:=W6.here;exact bad h6 Fd D6 ⟨st6.upd,λb hb=>st6.grow b (by rw[eF];simp[hb])⟩ c2
 ·have qc:(chk ⟨p,q,[]⟩ room !=0)=true:=bne_iff_ne.2 c;rw[if_pos c] at bad;simp only[eI,qc,cC,reduceIte,cI,Nat.reduceAdd];exact bad h3 F (D.ext e3) (eA.ext e3) c
def aVk(x:W)(m:Nat)(h0:0<m)(hm:m<4294967296):cB PG (binOp .rem fM (wv x) (.int .u32 (m:Int)))=some (.int .u32 ((x.toNat%m:Nat):Int)):=by
 have hx:=x.isLt;unfold wv;rw[aPt (by omega)];have e:Int.tmod (x.toNat:Int) (m:Int)=((x.toNat%m:Nat):Int):=rfl;rw[e]
def aVI(x:W)(m:Nat)(h0:0<m)(hm:m<4294967296):cB PG (binOp .quo fM (wv x) (.int .u32 (m:Int)))=some (.int .u32 ((x.toNat/m:Nat):Int)):=by
 have hx:=x.isLt;unfold wv;rw[aKZ (by omega)];have e:Int.tdiv (x.toNat:Int) (m:Int)=((x.toNat/m:Nat):Int):=rfl;have:=Nat.div_le_self x.toNat m;rw[e,aGA];generalize x.toNat/m=q at *;congr 2;omega
def aIc(x:W)(n:Nat):(x>>>n).toNat=x.toNat/2^n:=by rw[BitVec.toNat_ushiftRight,Nat.shiftRight_eq_div_pow]
def aZI(x:W):Value.int .u32 ((x.toNat/2:Nat):Int)=wv (x>>>1):=by unfold wv;rw[aIc]
def aVj{h:PH}(x:W){k:cE}(hk:k (wv (aLB x)) h):bT PG aCB #[wv x] h k:=by
 apply aA2.call;unfold aA2;have r2:cB PG (binOp .rem fM (wv x) (.int .u32 2))=some (.int .u32 ((x.toNat%2:Nat):Int)):=aVk x 2 (by decide) (by decide);have q2:cB PG (binOp .quo fM (wv x) (.int .u32 2))=some (wv (x>>>1)):=by rw[←aZI];exact aVI x 2 (by decide) (by decide)
 have xr:cB PG (binOp .xor fM (wv (x>>>1)) (.int .u32 3988292384))=some (wv ((x>>>1) ^^^ 3988292384)):=aPA (y:=3988292384);unfold aLB at hk;by_cases c:x.toNat%2=1
 ·have q:(((x.toNat%2:Nat):Int)==1)=true:=by rw[c];rfl
  rw[if_pos c] at hk;simp only[r2,gA,q,q2,xr,cC,reduceIte,cI,Nat.reduceAdd];exact hk
 ·have q:(((x.toNat%2:Nat):Int)==1)=false:=by rw[beq_eq_false_iff_ne];omega
  rw[if_neg c] at hk;simp only[r2,gA,q,q2,cC,reduceIte,cI,Nat.reduceAdd];exact hk
def aZH(b:UInt8):cB PG (convert dM fM (.int .u8 (b.toNat:Int)))=some (wv (BitVec.ofNat 32 b.toNat)):=by
 have e:cB PG (convert dM fM (.int .u8 (b.toNat:Int)))=some (.int .u32 (IntKind.u32.wrap (b.toNat:Int))):=by kernel_rfl
 rw[e];unfold wv;rw[aGA,BitVec.toNat_ofNat];rfl
def aQZ{h:PH}{s:Tx}{i:Nat}(hi:i<s.length)(hs:s.length≤1000000)(y:W){n1:gH}{R:cE}
  (hk:n1 [wv (aJ3 8 y),.string (tx s),.int .i64 ((i+1:Nat):Int)] h):
  hC [0,1,5,6] (λn8 ρ h=>aB2 R n1 n8 (ρ 0) (ρ 1) (ρ 5) (ρ 6) h) [wv y,.string (tx s),.int .i64 (i:Int),.int .i64 0] h:=by
 refine⟨λvs h'=>∃k:Nat,k≤8∧vs=[wv (aJ3 k y),.string (tx s),.int .i64 (i:Int),.int .i64 (k:Int)]∧h'=h,fT 8 3,⟨0,by omega,rfl,rfl⟩,?_⟩;rintro ρ h' ⟨k,hkk,hvs,rfl⟩;simp only[iG,jB,kZ,and_true] at hvs;obtain⟨x0,x1,x5,x6⟩:=hvs;unfold aB2;rw[x0,x1,x5,x6];by_cases hlt:k<8
 ·have g:((k:Int)<8)=True:=eq_true (by omega);have gi:=nR (i:=k) (by omega);simp only[g,cC,reduceIte,cI,Nat.reduceAdd];refine aVj _ ?_;simp only[gi,cC,reduceIte,cI,Nat.reduceAdd];exact⟨⟨k+1,by omega,rfl,by first|rfl|trivial⟩,by simp[fT,x6];omega⟩
 ·have g:((k:Int)<8)=False:=eq_false (by omega);have gi:=nR (i:=i) (by omega);obtain rfl:k=8:=by omega
  simp only[g,gi,cC,reduceIte,cI,Nat.reduceAdd];exact hk
def aUV{h:PH}(x:W)(s:Tx)(hs:s.length≤1000000){k:cE}(hk:k (wv (aHX x s)) h):bT PG aB8 #[wv x,.string (tx s)] h k:=by
 apply tC.call;unfold tC;refine⟨λvs h'=>∃i:Nat,i≤s.length∧vs=[wv (aHX x (s.take i)),.string (tx s),.int .i64 (i:Int)]∧h'=h,fT s.length 2,⟨0,by omega,rfl,rfl⟩,?_⟩;rintro ρ h' ⟨i,hi,hvs,rfl⟩;simp only[iG,jB,kZ,and_true] at hvs;obtain⟨x0,x1,x5⟩:=hvs;unfold aFR;rw[x0,x1,x5];by_cases hlt:i<s.length
 ·have g:((i:Int)<(s.length:Int))=True:=eq_true (by omega);obtain⟨b,hb⟩:∃b,s[i]? =some b:=⟨_,kF hlt⟩;have ib:cB PG (Instr.index aT (.string (tx s)) (.int .i64 (i:Int)))=some (.int .u8 b.toNat):=oB aT.und hb;have et:aHX x (s.take (i+1))=aMj (aHX x (s.take i)) b:=by
   unfold aHX;rw[zLR,hb,List.foldl_append];rfl
  simp only[iV,g,ib,aZH,aPA,cC,reduceIte,cI,Nat.reduceAdd];refine aQZ hlt hs _ ?_;rw[show aJ3 8 (aHX x (s.take i) ^^^ BitVec.ofNat 32 b.toNat)=aHX x (s.take (i+1)) from et.symm];exact⟨⟨i+1,by omega,rfl,by first|rfl|trivial⟩,by simp[fT,x5];omega⟩
 ·have g:((i:Int)<(s.length:Int))=False:=eq_false (by omega);simp only[iV,g,cC,reduceIte,cI,Nat.reduceAdd];rw[sK (by omega)];exact hk
def aPH(x:W):cB PG (binOp .sub fM (.int .u32 4294967295) (wv x))=some (wv (~~~x)):=by
 have hx:=x.isLt;have e:cB PG (binOp .sub fM (.int .u32 4294967295) (wv x))=some (.int .u32 (IntKind.u32.wrap (4294967295-(x.toNat:Int)))):=by unfold wv;exact aKv
 rw[e];unfold wv;rw[aGA,BitVec.toNat_not];congr 2;omega
def aVJ{h:PH}(s:Tx)(hs:s.length≤1000000){k:cE}(hk:k (wv (aNc s)) h):bT PG aCW #[.string (tx s)] h k:=by
 apply aBp.call;unfold aBp;apply zL.call;unfold zL;have e0:cB PG (binOp .sub fM (.int .u32 4294967295) (.int .u32 0))=some (wv 4294967295):=aPH 0;simp only[e0,cC,reduceIte,cI,Nat.reduceAdd];refine aUV _ s hs ?_;simp only[aPH,cC,reduceIte,cI,Nat.reduceAdd];rw[aVd];exact hk
def aYw(a b c d:Int):kC PG (buildSlice cY 4 #[(0,.int .u8 a),(1,.int .u8 b),(2,.int .u8 c),(3,.int .u8 d)])=some (.cells #[.int .u8 a,.int .u8 b,.int .u8 c,.int .u8 d] dM,λr=>pure (.slice (some ⟨r,0,none⟩) 4 4)):=by kernel_rfl
def aSG{h:PH}(x:W){k:cE}(hk:∀h',dA h h'->k (.string (tx (aF8 x))) h'):bT PG aBX #[wv x] h k:=by
 apply aAb.call;unfold aAb;have hx:=x.isLt;have cv:∀n:Nat,n<256->cB PG (convert fM dM (.int .u32 (n:Int)))=some (.int .u8 (n:Int)):=λn hn=>by
  have e:cB PG (convert fM dM (.int .u32 (n:Int)))=some (.int .u8 (IntKind.u8.wrap (n:Int))):=by kernel_rfl
  rw[e,aJV];congr 2;omega
 have hq:∀m:Nat,0<m->m<4294967296->cB PG (binOp .quo fM (wv x) (.int .u32 (m:Int)))=some (wv (BitVec.ofNat 32 (x.toNat/m))):=λm h0 hm=>by
  rw[aVI x m h0 hm];unfold wv;have:=Nat.div_le_self x.toNat m;rw[BitVec.toNat_ofNat,aJf (by omega)]
 have r1:cB PG (binOp .rem fM (wv x) (.int .u32 256))=some (.int .u32 ((x.toNat%256:Nat):Int)):=aVk x 256 (by decide) (by decide);have q2:cB PG (binOp .quo fM (wv x) (.int .u32 256))=some (wv (BitVec.ofNat 32 (x.toNat/256))):=hq 256 (by decide) (by decide);have q3:cB PG (binOp .quo fM (wv x) (.int .u32 65536))=some (wv (BitVec.ofNat 32 (x.toNat/65536))):=hq 65536 (by decide) (by decide);have q4:cB PG (binOp .quo fM (wv x) (.int .u32 16777216))=some (.int .u32 ((x.toNat/16777216:Nat):Int)):=aVI x 16777216 (by decide) (by decide);have rr:∀n:Nat,n<4294967296->cB PG (binOp .rem fM (wv (BitVec.ofNat 32 n)) (.int .u32 256))=some (.int .u32 ((n%256:Nat):Int)):=λn hn=>by
  have:=aVk (BitVec.ofNat 32 n) 256 (by decide) (by decide);rw[BitVec.toNat_ofNat,aJf (a:=n) (by omega)] at this;exact this
 have m1:x.toNat%256<256:=zLB _ (by decide);have m2:x.toNat/256%256<256:=zLB _ (by decide);have m3:x.toNat/65536%256<256:=zLB _ (by decide);have m4:x.toNat/16777216<256:=by omega
 simp only[r1,cv _ m1,q2,rr (x.toNat/256) (by omega),cv _ m2,q3,rr (x.toNat/65536) (by omega),cv _ m3,q4,cv _ m4,aYw,cC,reduceIte,cI,Nat.reduceAdd];intro r11 hr11;refine iB ?_
 try rw[cR]
 have ec:(aF8 x).map jZ=[[.int .u8 ((x.toNat%256:Nat):Int)],[.int .u8 ((x.toNat/256%256:Nat):Int)],[.int .u8 ((x.toNat/65536%256:Nat):Int)],[.int .u8 ((x.toNat/16777216:Nat):Int)]]:=by
  have e8:(x>>>8).toNat=x.toNat/256:=aIc x 8;have e16:(x>>>16).toNat=x.toNat/65536:=aIc x 16;have e24:(x>>>24).toNat=x.toNat/16777216:=aIc x 24;unfold aF8 jZ;simp only[iG,jB,UInt8.toNat_ofNat',e8,e16,e24];rw[show(2:Nat)^8=256 from rfl,aJf (a:=x.toNat/16777216) m4]
 have u1:dA h (h.set r11 (.cells #[.int .u8 ((x.toNat%256:Nat):Int),.int .u8 ((x.toNat/256%256:Nat):Int),.int .u8 ((x.toNat/65536%256:Nat):Int),.int .u8 ((x.toNat/16777216:Nat):Int)] dM)):=cX.new hr11;have O:eH (h.set r11 (.cells #[.int .u8 ((x.toNat%256:Nat):Int),.int .u8 ((x.toNat/256%256:Nat):Int),.int .u8 ((x.toNat/65536%256:Nat):Int),.int .u8 ((x.toNat/16777216:Nat):Int)] dM)) dM 1 (.slice (some ⟨r11,0,none⟩) 4 4) ((aF8 x).map jZ) [r11]:=eH.lit (n:=4) (λr hr=>by obtain⟨m,_,rfl⟩:=pQ.1 hr;rfl) eN rfl (by decide) (by rw[ec];rfl);have hcv:=aFQ cY.und dM.und aT.und O.slR;simp only[hcv,cC,reduceIte,cI,Nat.reduceAdd];exact hk _ u1
def aMP{h:PH}(s:Tx)(hs:s.length≤1000000){k:cE}(hk:∀h',dA h h'->k (.string (tx (mQ s))) h'):bT PG pX #[.string (tx s)] h k:=by
 apply aA6.call;unfold aA6;refine aVJ s hs ?_;refine aSG _ λh3 u3=>?_;have ea:cB PG (binOp .add aT (.string (tx s)) (.string (tx (aF8 (aNc s)))))=some (.string (tx (mQ s))):=jW (by show s.length+4≤_;omega);simp only[ea,cC,reduceIte,cI,Nat.reduceAdd];exact hk h3 u3
def aOz{h:PH}(s:Tx)(hs:s.length≤1000000){k:cE}(hk:∀h',dA h h'->k (.bool (oE s)) h'):bT PG wB #[.string (tx s)] h k:=by
 apply aAf.call;unfold aAf;by_cases h4:4≤s.length
 ·have g:((4:Int)≤(s.length:Int))=True:=eq_true (by omega);have w4:IntKind.i64.wrap ((s.length:Int)-4)=((s.length-4:Nat):Int):=by rw[eB (by omega) (by omega)];omega
  have c1:cB PG (Instr.sliceAt aT (.string (tx s)) none (some (.int .i64 ((s.length-4:Nat):Int))) none)=some (.string (tx (s.take (s.length-4)))):=by
   have:=kD (P:=PG) (t:=aT) (l:=s) (i:=0) (j:=s.length-4) (lo:=none) (hi:=some (.int .i64 ((s.length-4:Nat):Int))) aT.und (.inl ⟨rfl,rfl⟩) (.inr ⟨_,rfl⟩) (by omega) (by omega);rw[this,zLb]
  simp only[iV,g,w4,c1,cC,reduceIte,cI,Nat.reduceAdd];refine aMP _ (by rw[lU];omega) λh2 u2=>?_;have ed:decide (s=mQ (s.take (s.length-4)))=oE s:=by
   unfold oE mQ;rw[xF,decide_eq_true_iff,decide_eq_true_iff];constructor
   ·intro e;refine⟨h4,?_⟩;have e2:=congrArg (List.drop (s.length-4)) e;rw[List.drop_left' (by rw[lU];omega)] at e2;exact e2.symm
   ·intro ⟨_,e⟩;rw[e,zL6]
  simp only[aFd,ed,cC,reduceIte,cI,Nat.reduceAdd];exact hk h2 u2
 ·have g:((4:Int)≤(s.length:Int))=False:=eq_false (by omega);have ed:oE s=false:=by
   unfold oE;simp[h4]
  rw[ed] at hk;simp only[iV,g,cC,reduceIte,cI,Nat.reduceAdd];exact hk h cX.refl
end
end Go.Proofs.YtiohehjhlghikaaGreatDoor
