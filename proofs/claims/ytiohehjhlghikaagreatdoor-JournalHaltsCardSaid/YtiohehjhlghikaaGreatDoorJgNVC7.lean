/- The texts of this claim, put together. -/
import Derived.Test.YtiohehjhlghikaaGreatDoorJgNVC6
set_option linter.all false
set_option maxRecDepth 100000
open Go.Instr (loadAt fieldAt indexAt extract buildSlice build)
namespace Go.Proofs.YtiohehjhlghikaaGreatDoor
section
open Go
def aVw{h:PH}{x y:Operand}(a b:UInt8):cD PG h (fK .eql dK x y (.int .u8 (a.toNat:Int)) (.int .u8 (b.toNat:Int)))=some (.bool (decide (a=b))):=by
 rw[fO];congr 2;rw[xQ];simp[UInt8.toNat_inj,Int.natCast_inj]
def iO(s:Tx):cC PG (Builtin.len_ #[aT] aR #[.string (tx s)])=some (.int .i64 (s.length:Int)):=by rw[tR aT.und,kV]
def aTb{h:PH}(s:Tx)(hs:s.length≤1000000){k:cF}(hk:∀n,n≤s.length->(∀x∈s.drop n,x=0)->(n=0∨s[n-1]?≠some 0)->k (.string (tx (s.take n))) h):bT PG xI #[.string (tx s),.int .u8 0] h k:=by
 apply uZ.call;unfold uZ;refine⟨λvs h'=>∃n:Nat,n≤s.length∧vs=[.string (tx (s.take n)),.int .u8 0]∧h'=h∧∀x∈s.drop n,x=0,λvs _=>(match vs with | .string b::_=>b.size|_=>0),⟨s.length,mG _,by rw[zLJ],rfl,by simp⟩,?_⟩;rintro ρ h' ⟨n,hn,hvs,rfl,hz⟩;simp only[hY,iZ,kP,and_true] at hvs;obtain⟨x0,x1⟩:=hvs;unfold aCj;rw[x0,x1];have hl:(s.take n).length=n:=by rw[mN];omega
 by_cases h0:n=0
 ·have g:((0:Int)<((s.take n).length:Int))=False:=eq_false (by omega);simp only[iO,g,cB,reduceIte,cJ,Nat.reduceAdd];exact hk n hn hz (.inl h0)
 ·have g:((0:Int)<((s.take n).length:Int))=True:=eq_true (by omega);have gw:IntKind.i64.wrap (((s.take n).length:Int)-1)=((n-1:Nat):Int):=by rw[eI (by omega) (by omega)];omega
  obtain⟨b,hb⟩:∃b,(s.take n)[n-1]? =some b:=⟨_,kO (by omega)⟩;have hb':s[n-1]? =some b:=by rw[aET,if_pos (by omega)] at hb;exact hb
  have ib:cC PG (Instr.index aT (.string (tx (s.take n))) (.int .i64 ((n-1:Nat):Int)))=some (.int .u8 b.toNat):=nL aT.und hb;have e8:∀{x y:Operand},cD PG h' (fK .eql dK x y (.int .u8 (b.toNat:Int)) (.int .u8 0))=some (.bool (decide (b=0))):=aVw b 0;by_cases hb0:b=0
  ·have c:cC PG (Instr.sliceAt aT (.string (tx (s.take n))) none (some (.int .i64 ((n-1:Nat):Int))) none)=some (.string (tx (s.take (n-1)))):=by
    have:=kL (P:=PG) (t:=aT) (l:=s.take n) (i:=0) (j:=n-1) (lo:=none) (hi:=some (.int .i64 ((n-1:Nat):Int))) aT.und (.inl ⟨rfl,rfl⟩) (.inr ⟨_,rfl⟩) (by omega) (by omega);rw[this,zLb,aIP,aFU (by omega)]
   simp only[iO,g,gw,ib,e8,hb0,decide_true,c,cB,reduceIte,cJ,Nat.reduceAdd];refine⟨⟨n-1,by omega,rfl,by first|rfl|trivial,λx hx=>?_⟩,?_⟩
   ·have e:s.drop (n-1)=b::s.drop n:=by
     rw[aAy (show n-1<s.length by omega),show n-1+1=n by omega];have:s[n-1]=b:=by rw[kO (show n-1<s.length by omega)] at hb';simpa using hb'
     rw[this]
    rw[e] at hx;rcases iR.1 hx with rfl|hx
    ·exact hb0
    ·exact hz x hx
   ·simp only[hY,x0,kV,mN];omega
  ·simp only[iO,g,gw,ib,e8,hb0,decide_false,cB,reduceIte,cJ,Nat.reduceAdd];exact hk n hn hz (.inr (by rw[hb'];simpa using hb0))
def aTZ{h:PH}(s:Tx)(hs:s.length≤1000000){k:cF}(hk:∀n,n≤s.length->(∀x∈s.take n,x=0)->k (.string (tx (s.drop n))) h):bT PG yQ #[.string (tx s),.int .u8 0] h k:=by
 apply wI.call;unfold wI;refine⟨λvs h'=>∃n:Nat,n≤s.length∧vs=[.string (tx (s.drop n)),.int .u8 0]∧h'=h∧∀x∈s.take n,x=0,λvs _=>(match vs with | .string b::_=>b.size|_=>0),⟨0,lD _,rfl,rfl,by simp⟩,?_⟩;rintro ρ h' ⟨n,hn,hvs,rfl,hz⟩;simp only[hY,iZ,kP,and_true] at hvs;obtain⟨x0,x1⟩:=hvs;unfold aC9;rw[x0,x1];have hl:(s.drop n).length=s.length-n:=jC;by_cases h0:n=s.length
 ·have g:((0:Int)<((s.drop n).length:Int))=False:=eq_false (by omega);simp only[iO,g,cB,reduceIte,cJ,Nat.reduceAdd];exact hk n hn hz
 ·have g:((0:Int)<((s.drop n).length:Int))=True:=eq_true (by omega);obtain⟨b,hb⟩:∃b,s[n]? =some b:=⟨_,kO (show n<s.length by omega)⟩;have ib:cC PG (Instr.index aT (.string (tx (s.drop n))) (.int .i64 0))=some (.int .u8 b.toNat):=nL (j:=0) aT.und (by rw[aJQ];exact hb);have e8:∀{x y:Operand},cD PG h' (fK .eql dK x y (.int .u8 (b.toNat:Int)) (.int .u8 0))=some (.bool (decide (b=0))):=aVw b 0;by_cases hb0:b=0
  ·have c:cC PG (Instr.sliceAt aT (.string (tx (s.drop n))) (some (.int .i64 1)) none none)=some (.string (tx (s.drop (n+1)))):=by
    have:=kL (P:=PG) (t:=aT) (l:=s.drop n) (i:=1) (j:=(s.drop n).length) (lo:=some (.int .i64 1)) (hi:=none) aT.und (.inr ⟨_,rfl⟩) (.inl ⟨rfl,rfl⟩) (by omega) (by omega);rw[this,zLJ,pR]
   simp only[iO,g,ib,e8,hb0,decide_true,c,cB,reduceIte,cJ,Nat.reduceAdd];refine⟨⟨n+1,by omega,rfl,by first|rfl|trivial,λx hx=>?_⟩,?_⟩
   ·rw[zLR,hb] at hx;rcases xN.1 hx with hx|hx
    ·exact hz x hx
    ·simp at hx;rw[hx];exact hb0
   ·simp only[hY,x0,kV,jC];omega
  ·simp only[iO,g,ib,e8,hb0,decide_false,cB,reduceIte,cJ,Nat.reduceAdd];exact hk n hn hz
def aUt{h:PH}(s:Tx)(hs:s.length≤1000000){k:cF}(hk:∀t:Tx,(t=[]↔∀x∈s,x=0)->k (.string (tx t)) h):bT PG aEz #[.string (tx s),.string {data:=#[0]}] h k:=by
 apply aBC.call;unfold aBC;have e0:∀{x y:Operand} (l:Tx),cD PG h (fK .eql aT x y (.string (tx l)) (.string {data:=#[]}))=some (.bool (decide (l=[]))):=λl=>aFB l [];have e1:∀{x y:Operand},cD PG h (fK .eql aT x y (.string {data:=#[0]}) (.string {data:=#[]}))=some (.bool false):=by
  intro x y;have:=aFB (h:=h) (t:=aT) (x:=x) (y:=y) [0] [];exact this
 have l0:cC PG (Builtin.len_ #[aT] aR #[.string {data:=#[0]}])=some (.int .i64 1):=iO [0];have i0:cC PG (Instr.index aT (.string {data:=#[0]}) (.int .i64 0))=some (.int .u8 0):=nL (l:=[0]) (j:=0) aT.und rfl;have q1:((1:Int)==1)=true:=rfl;have g128:((0:Int)<128)=True:=eq_true (by decide);by_cases c:s=[]
 ·simp only[e0,c,decide_true,cB,reduceIte,cJ,Nat.reduceAdd];exact hk [] (by simp[c])
 ·simp only[e0,e1,c,decide_false,l0,fO,q1,i0,g128,cB,reduceIte,cJ,Nat.reduceAdd];refine aTb s hs λn hn hz hl=>?_;refine aTZ (s.take n) (by rw[mN];omega) λm hm hy=>?_;refine hk _ ⟨λe=>?_,λe=>?_⟩
  ·have hm2:m=(s.take n).length:=by
    have:=congrArg List.length e;rw[jC,kI] at this;omega
   rw[hm2,zLJ] at hy;intro x hx;rw[←zL6 n s] at hx;rcases xN.1 hx with hx|hx
   ·exact hy x hx
   ·exact hz x hx
  ·rcases hl with hl|hl
   ·rw[hl];simp
   ·exfalso;cases hx:s[n-1]? with
    | none=>
     have hge:=List.getElem?_eq_none_iff.1 hx;have hn0:n≤s.length:=hn;have:s.length≠0:=λh=>c (zLN h);omega
    | some b=>
     rw[hx] at hl;exact hl (by rw[e b (wP hx)])
def aJo{h:PH}(size:Nat){k:cF}(hk:k (.bool (decide (fU size))) h):bT PG aA5 #[.int .i64 (size:Int)] h k:=by
 apply aFp.call;unfold aFp;by_cases h1:64≤size
 ·have g1:((64:Int)≤(size:Int))=True:=eq_true (by omega);have e:decide ((size:Int)≤512)=decide (fU size):=by
   rw[xQ,decide_eq_true_iff,decide_eq_true_iff];unfold fU;omega
  simp only[g1,cB,reduceIte,cJ,Nat.reduceAdd];rw[e];exact hk
 ·have g1:((64:Int)≤(size:Int))=False:=eq_false (by omega);have e:decide (fU size)=false:=decide_eq_false (λx=>h1 x.1);rw[e] at hk;simp only[g1,cB,reduceIte,cJ,Nat.reduceAdd];exact hk
def aHj{h:PH}(size n:Nat)(hn:n<1000000000000){k:cF}(hk:k (.int .i64 (dQ size n:Int)) h):bT PG tM #[.int .i64 (size:Int),.int .i64 (n:Int)] h k:=by
 apply aFq.call;unfold aFq;refine aJo size ?_;unfold dQ at hk;by_cases c:fU size
 ·have g0:((n:Int)<0)=False:=eq_false (by omega);by_cases c4:n≤4096
  ·have g4:((4096:Int)<(n:Int))=False:=eq_false (by omega);rw[if_pos ⟨c,c4⟩] at hk;have h64:=c.1;have h512:=c.2;have w1:IntKind.i64.wrap ((size:Int)-25)=((size-25:Nat):Int):=by rw[eI (by omega) (by omega)];omega
   have w2:IntKind.i64.wrap ((n:Int)+((size-25:Nat):Int))=((n+(size-25):Nat):Int):=by rw[eI (by omega) (by omega)];omega
   have w3:IntKind.i64.wrap (((n+(size-25):Nat):Int)-1)=((n+(size-25)-1:Nat):Int):=by rw[eI (by omega) (by omega)];omega
   have hq:((n+(size-25)-1:Nat):Int).tdiv ((size-25:Nat):Int)=(((n+(size-25)-1)/(size-25):Nat):Int):=by
    rw[Int.tdiv_eq_ediv_of_nonneg (by omega)];rfl
   have hqb:(n+(size-25)-1)/(size-25)≤n+(size-25)-1:=Nat.div_le_self _ _;obtain⟨Q,hQ⟩:∃Q,(n+(size-25)-1)/(size-25)=Q:=⟨_,rfl⟩;rw[hQ] at hq hqb hk;have q:cC PG (binOp .quo aR (.int .i64 ((n+(size-25)-1:Nat):Int)) (.int .i64 ((size-25:Nat):Int)))=some (.int .i64 (Q:Int)):=by
    rw[aKS (by omega),hq,eI (by omega) (by omega)]
   have m:(if (1:Int)<(Q:Int) then(Q:Int) else 1)=((max 1 Q:Nat):Int):=by
    split<;>omega
   simp only[c,decide_true,g0,g4,w1,w2,w3,q,aKZ,m,cB,reduceIte,cJ,Nat.reduceAdd];exact hk
  ·have g4:((4096:Int)<(n:Int))=True:=eq_true (by omega);rw[if_neg (λx=>c4 x.2)] at hk;simp only[c,decide_true,g0,g4,cB,reduceIte,cJ,Nat.reduceAdd];exact hk
 ·rw[if_neg (λx=>c x.1)] at hk;simp only[c,decide_false,cB,reduceIte,cJ,Nat.reduceAdd];exact hk
def kB.cells(f:kB):List Value:=[.int .u64 (f.gen:Int),.int .u64 (f.ser:Int),.int .i64 (f.part:Int),.int .i64 (f.parts:Int),.string (tx f.b)]
def kB.v(f:kB):Value:=.agg f.cells.toArray
def kB.isC(f:kB):∀v∈f.cells,fI v=true:=by simp[kB.cells,fI]
def uK:cC PG (build cP #[])=some kB.zero.v:=by kernel_rfl
def aUR(a b c d:Int)(s:ByteArray):cC PG (build cP #[(0,.int .u64 a),(1,.int .u64 b),(2,.int .i64 c),(3,.int .i64 d),(4,.string s)])=some (.agg #[.int .u64 a,.int .u64 b,.int .i64 c,.int .i64 d,.string s]):=by kernel_rfl
def aNQ{h:PH}{r:Nat}{f:kB}(B:Bx h r f.cells):cD PG h (loadAt cP (pT r 0))=some f.v:=cP.agg B (by show 0+5≤5;decide)
def aUg{h:PH}{x y:Operand}(l:Tx):cD PG h (fK .neq aT x y (.string (tx l)) (.string {data:=#[82]}))=some (.bool (!decide (l=[82]))):=aJJ l [82]
def aLL{h:PH}{x y:Operand}(l:Tx):cD PG h (fK .neq aT x y (.string (tx l)) (.string {data:=#[]}))=some (.bool (!decide (l=[]))):=aJJ l []
def aWS{h:PH}{x y:Operand}(l:Tx):cD PG h (fK .eql aT x y (.string (tx l)) (.string {data:=#[]}))=some (.bool (decide (l=[]))):=aFB l []
def aNd{st:gS}:(fD st 1).1<256:=vM st 1
def aU7{h:PH}(size:Nat)(s:Tx)(hs:s.length≤1000000){k:cF}(hk:∀h',cZ h h'->k (.tuple #[(fR size s).1.v,.int .i64 (fR size s).2]) h'):bT PG aGd #[.int .i64 (size:Int),.string (tx s)] h k:=by
 apply aCu.call;unfold aCu;intro r1 hr1
 try rw[cO]
 have Z1:=cP.zbox (h:=h) (r:=r1);have u1:cZ h (h.set r1 (.cells (dF PG cP) cP)):=cT.new hr1;generalize h.set r1 (.cells (dF PG cP) cP)=h1 at *;have f1:dZ h [r1]:=dZ.one hr1;have fin:∀{h':PH} (f:kB) (e:Int),fR size s=(f,e)->(∃cs:List Value,cs.length=5∧Bx h' r1 cs)->cZ h h'->cM PG (cQ cP (pT r1 0) f.v) h' λ_ h8=>bY (cD PG h8 (loadAt cP (pT r1 0))) λv9=>k (.tuple #[v9,.int .i64 e]) h8:=by
  intro h' f e hr ⟨cs,hcs,B⟩ w;refine cP.put B (vs:=f.cells) (o:=0) rfl (by omega) f.isC λh2 B2 u2=>?_;rw[zLd,zLU,aBA (by omega),zLQ] at B2;simp only[aNQ B2,cB,reduceIte,cJ,Nat.reduceAdd];have:=hk h2 (w.fresh u2 f1);rw[hr] at this;exact this
 have bad:∀{h':PH} (e:Int),fR size s=(kB.zero,e)->(∃cs:List Value,cs.length=5∧Bx h' r1 cs)->cZ h h'->cM PG (cQ cP (pT r1 0) kB.zero.v) h' λ_ h8=>bY (cD PG h8 (loadAt cP (pT r1 0))) λv9=>k (.tuple #[v9,.int .i64 e]) h8:=λe=>fin kB.zero e;refine aJo size ?_;by_cases ok:fU size
 ·have h64:=ok.1;have h512:=ok.2;simp only[ok,decide_true,iO,dY,cB,reduceIte,cJ,Nat.reduceAdd];by_cases hl:s.length=size
  ·have q:((s.length:Int) !=(size:Int))=false:=by simp[hl]
   simp only[q,cB,reduceIte,cJ,Nat.reduceAdd];refine aOV s hs λh4 u4=>?_;cases hsl:nQ s with
   | false=>
    have er:fR size s=(kB.zero,8):=by unfold fR;rw[if_neg (by simpa using ok),if_neg (by simpa using hl),if_pos hsl]
    simp only[uK,cB,reduceIte,cJ,Nat.reduceAdd];exact bad 8 er ⟨_,rfl,Z1.ext u4⟩ (u1.trans u4)
   | true=>
    have e4:=u1.trans u4;obtain⟨s',hs'⟩:∃s',s.take (size-4)=s':=⟨_,rfl⟩;have hl':s'.length=size-4:=by rw[←hs',mN];omega
    have er:fR size s=if aH8 s'∧aG2 size (aBB s')∧aHy size (aBB s') then(aBB s',0) else(kB.zero,5):=by
     unfold fR;rw[if_neg (by simpa using ok),if_neg (by simpa using hl),if_neg (by simp[hsl]),hs']
    have w1:IntKind.i64.wrap ((size:Int)-4)=((size-4:Nat):Int):=by rw[eI (by omega) (by omega)];omega
    have w2:IntKind.i64.wrap ((size:Int)-25)=((size-25:Nat):Int):=by rw[eI (by omega) (by omega)];omega
    have c1:cC PG (Instr.sliceAt aT (.string (tx s)) none (some (.int .i64 ((size-4:Nat):Int))) none)=some (.string (tx s')):=by
     have:=kL (P:=PG) (t:=aT) (l:=s) (i:=0) (j:=size-4) (lo:=none) (hi:=some (.int .i64 ((size-4:Nat):Int))) aT.und (.inl ⟨rfl,rfl⟩) (.inr ⟨_,rfl⟩) (by omega) (by omega);rw[this,zLb,hs']
    simp only[w1,c1,cB,reduceIte,cJ,Nat.reduceAdd];refine aHd s' λa h5 R5 u5 ha=>?_;have Z5:=(Z1.ext u4).ext u5;have n1a:r1≠a:=(Z1.ext u4).apart ha;have fa:dZ h [a]:=dZ.one (e4.none ha);have e5:=e4.trans u5;refine aL9 R5 1 λh6 R6 u6=>?_;refine aBL R6 λh7 R7 u7=>?_;refine aBL R7 λh8 R8 u8=>?_;refine aAL R8 λh9 R9 u9=>?_;refine aAL R9 λh10 R10 u10=>?_;refine aOG R10 λh11 R11 u11=>?_;have R11:kS h11 a (wZ s').2.1 (wZ s').2.2:=R11;show bY (cC PG (build cP #[(0,.int .u64 ((frG s').1:Int)),(1,.int .u64 ((frN s').1:Int)),(2,.int .i64 ((wU s').1:Int)),(3,.int .i64 ((uR s').1:Int)),(4,.string (tx (wZ s').1))])) _;have u11':=((((u6.trans u7).trans u8).trans u9).trans u10).trans u11;have Z11:=Z5.upd u11' (by simpa using n1a);have e11:=e5.fresh u11' fa;simp only[aUR,cB,reduceIte,cJ,Nat.reduceAdd];intro r40 hr40
    try rw[cO]
    refine cP.fill (vs:=(aBB s').cells) hr40 rfl (aBB s').isC λh12 B12 u12=>?_;have Z12:=Z11.ext u12;have n40a:r40≠a:=λe=>by
     have:=R11.here;rw[←e,hr40] at this;cases this
    have e12:=e11.trans u12;refine aOH (R11.ext u12) ?_;have eL:(if (wZ s').2.1=0 then((wZ s').2.2.length:Int) else 0)=((aI5 (wZ s').2:Nat):Int):=by
     unfold aI5;split<;>rfl
    rw[eL];refine aL9 (R11.ext u12) _ λh13 R13 u13=>?_;have R13:kS h13 a (frZ s').2.1 (frZ s').2.2:=R13;have B13:=B12.upd u13 (by simpa using n40a);have Z13:=Z12.upd u13 (by simpa using n1a);have e13:=e12.fresh u13 fa;have b2:cX h13 ⟨r40,0+2,none⟩=some (.int .i64 ((wU s').1:Int)):=B13.cell 2;have b3:cX h13 ⟨r40,0+3,none⟩=some (.int .i64 ((uR s').1:Int)):=B13.cell 3;have b4:cX h13 ⟨r40,0+4,none⟩=some (.string (tx (wZ s').1)):=B13.cell 4;have kp:=aNd (st:=(frN s').2);have kq:=aNd (st:=(wU s').2);have kp:(wU s').1<256:=kp;have kq:(uR s').1<256:=kq;have w3:IntKind.i64.wrap (((uR s').1:Int)-1)=((uR s').1:Int)-1:=eI (by omega) (by omega);have zl:(frZ s').1.length≤1000000:=by
     have:(frZ s').1.length≤s'.length:=by
      unfold frZ;have h1:=aI0 (wZ s').2 (aI5 (wZ s').2);have h2:aI5 (wZ s').2≤s'.length:=by
       have F:=aQs (size:=size) h64 hl';rw[F.t];unfold aI5;split
       ·split
        ·simp only[jC];omega
        ·exact lD _
       ·split
        ·rename_i h0;exact absurd h0 (by simp)
        ·exact lD _
      omega
     omega
    simp only[cP.f2,cP.f3,cP.f4,aR.load,aT.load,b2,b3,w3,w2,eM.f0,fO,cB,reduceIte,cJ,Nat.reduceAdd];refine aEJ R13 ?_;have bad5:¬(aH8 s'∧aG2 size (aBB s')∧aHy size (aBB s'))->fR size s=(kB.zero,5):=λh=>by rw[er,if_neg h]
    have Zx:∃cs:List Value,cs.length=5∧Bx h13 r1 cs:=⟨_,rfl,Z13⟩;by_cases c1:(frZ s').2.1=0
    ·have q1:((frZ s').2.1 !=0)=false:=by simp[c1]
     by_cases c2:(mD (0,s') 1).1=[82]
     ·have q2:decide ((mD (0,s') 1).1=[82])=true:=decide_eq_true c2;simp only[dY,q1,aUg,q2,cB,reduceIte,cJ,Nat.reduceAdd];refine aUt _ zl λt ht=>?_;by_cases c3:∀x∈(frZ s').1,x=0
      ·have q3:decide (t=[])=true:=decide_eq_true (ht.2 c3);by_cases c4:(wU s').1<(uR s').1
       ·have q4:(((uR s').1:Int)≤((wU s').1:Int))=False:=eq_false (by omega);have k1:aH8 s':=⟨c1,c2,c3,c4⟩;have lB:cC PG (Builtin.len_ #[aT] aR #[.string (tx (wZ s').1)])=some (.int .i64 ((wZ s').1.length:Int)):=iO _;have hlen:(wZ s').1.length≤65536:=by
         have F:=aQs (size:=size) h64 hl';rw[F.t];split
         ·show(mB s').length≤65536;unfold mB;rw[mN,jC];omega
         ·simp
        have hm:(wU s').1*(size-25)≤256*512:=Nat.mul_le_mul (by omega) (by omega);have w4:IntKind.i64.wrap (((wU s').1:Int)*((size-25:Nat):Int))=(((wU s').1*(size-25):Nat):Int):=by
         rw[←Int.natCast_mul,eI (by omega) (by omega)]
        have w5:IntKind.i64.wrap ((((wU s').1*(size-25):Nat):Int)+((wZ s').1.length:Int))=(((wU s').1*(size-25)+(wZ s').1.length:Nat):Int):=by
         rw[eI (by omega) (by omega)];omega
        by_cases k2:aG2 size (aBB s')
        ·have three:((wU s').1+1=(uR s').1∧1<(uR s').1)∨((wU s').1+1=(uR s').1∧¬1<(uR s').1)∨(wU s').1+1≠(uR s').1:=by omega
         rcases three with⟨cl,cm⟩|⟨cl,cm⟩|cl
         case' inl=>
          have ql:(((wU s').1:Int)==((uR s').1:Int)-1)=true:=by
           rw[beq_iff_eq];omega
          have qm:((1:Int)<((uR s').1:Int))=True:=eq_true (by omega);have cb:decide ((wZ s').1=[])=false:=decide_eq_false (k2.2 cl cm);simp only[aLL,q3,q4,ql,cP.f2,cP.f3,cP.f4,aR.load,aT.load,b2,b3,b4,qm,aWS,cb,nD,w4,lB,w5,cB,reduceIte,cJ,Nat.reduceAdd]
         case' inr.inl=>
          have ql:(((wU s').1:Int)==((uR s').1:Int)-1)=true:=by
           rw[beq_iff_eq];omega
          have qm:((1:Int)<((uR s').1:Int))=False:=eq_false (by omega);simp only[aLL,q3,q4,ql,cP.f2,cP.f3,cP.f4,aR.load,aT.load,b2,b3,b4,qm,nD,w4,lB,w5,cB,reduceIte,cJ,Nat.reduceAdd]
         case' inr.inr=>
          have ql:(((wU s').1:Int)==((uR s').1:Int)-1)=false:=by
           rw[beq_eq_false_iff_ne];omega
          have cr:(wZ s').1.length=size-25:=k2.1 cl;have qr:(((wZ s').1.length:Int) !=((size-25:Nat):Int))=false:=by simp[cr]
          simp only[aLL,q3,q4,ql,cP.f2,cP.f3,cP.f4,aR.load,aT.load,b2,b3,b4,lB,dY,qr,nD,w4,w5,cB,reduceIte,cJ,Nat.reduceAdd]
         all_goals
          refine aHj size _ (by omega) ?_;by_cases c5:dQ size ((wU s').1*(size-25)+(wZ s').1.length)=0
          ·have q5:(((dQ size ((wU s').1*(size-25)+(wZ s').1.length):Nat):Int)==0)=true:=by simp[c5]
           simp only[fO,q5,uK,cB,reduceIte,cJ,Nat.reduceAdd];refine⟨by simp,?_⟩;exact bad 5 (bad5 λx=>x.2.2.1 c5) Zx e13
          ·have q5:(((dQ size ((wU s').1*(size-25)+(wZ s').1.length):Nat):Int)==0)=false:=by
            rw[beq_eq_false_iff_ne];omega
           simp only[fO,q5,cP.f3,aR.load,b3,cB,reduceIte,cJ,Nat.reduceAdd];refine aHj size 4096 (by decide) ?_;refine⟨λ_=>b3,?_⟩;by_cases c6:(uR s').1≤dQ size 4096
           ·have q6:(((dQ size 4096:Nat):Int)<((uR s').1:Int))=False:=eq_false (by omega);simp only[q6,aNQ B13,cB,reduceIte,cJ,Nat.reduceAdd];exact fin (aBB s') 0 (by rw[er,if_pos ⟨k1,k2,c5,c6⟩]) Zx e13
           ·have q6:(((dQ size 4096:Nat):Int)<((uR s').1:Int))=True:=eq_true (by omega);simp only[q6,uK,cB,reduceIte,cJ,Nat.reduceAdd];exact bad 5 (bad5 λx=>c6 x.2.2.2) Zx e13
        ·by_cases cl:(wU s').1+1=(uR s').1
         ·have ql:(((wU s').1:Int)==((uR s').1:Int)-1)=true:=by
           rw[beq_iff_eq];omega
          have cmb:1<(uR s').1∧(wZ s').1=[]:=by
           refine Classical.byContradiction λx=>k2 ⟨λh=>absurd cl h,λ_ h1 h2=>x ⟨h1,h2⟩⟩
          have qm:((1:Int)<((uR s').1:Int))=True:=eq_true (by omega);have cb:decide ((wZ s').1=[])=true:=decide_eq_true cmb.2;simp only[aLL,q3,q4,ql,cP.f3,cP.f4,aR.load,aT.load,b2,b3,b4,qm,aWS,cb,uK,cB,reduceIte,cJ,Nat.reduceAdd];exact bad 5 (bad5 λx=>k2 x.2.1) Zx e13
         ·have ql:(((wU s').1:Int)==((uR s').1:Int)-1)=false:=by
           rw[beq_eq_false_iff_ne];omega
          have cr:(wZ s').1.length≠size-25:=λh=>k2 ⟨λ_=>h,λh=>absurd h cl⟩;have qr:(((wZ s').1.length:Int) !=((size-25:Nat):Int))=true:=by
           rw[bne_iff_ne];omega
          simp only[aLL,q3,q4,ql,cP.f2,cP.f3,cP.f4,aR.load,aT.load,b2,b3,b4,lB,dY,qr,uK,cB,reduceIte,cJ,Nat.reduceAdd];exact bad 5 (bad5 λx=>k2 x.2.1) Zx e13
       ·have q4:(((uR s').1:Int)≤((wU s').1:Int))=True:=eq_true (by omega);simp only[q3,aLL,q4,cP.f2,cP.f3,aR.load,b2,b3,uK,cB,reduceIte,cJ,Nat.reduceAdd];exact bad 5 (bad5 λx=>c4 x.1.2.2.2) Zx e13
      ·have q3:decide (t=[])=false:=decide_eq_false (λx=>c3 (ht.1 x));simp only[aLL,q3,uK,cB,reduceIte,cJ,Nat.reduceAdd];exact bad 5 (bad5 λx=>c3 x.1.2.2.1) Zx e13
     ·have q2:decide ((mD (0,s') 1).1=[82])=false:=decide_eq_false c2;simp only[dY,q1,aUg,q2,uK,cB,reduceIte,cJ,Nat.reduceAdd];exact bad 5 (bad5 λx=>c2 x.1.2.1) Zx e13
    ·have q1:((frZ s').2.1 !=0)=true:=by simp[c1]
     simp only[dY,q1,uK,cB,reduceIte,cJ,Nat.reduceAdd];exact bad 5 (bad5 λx=>c1 x.1.1) Zx e13
  ·have q:((s.length:Int) !=(size:Int))=true:=by
    rw[bne_iff_ne];omega
   have er:fR size s=(kB.zero,6):=by unfold fR;rw[if_neg (by simpa using ok),if_pos hl]
   simp only[q,uK,cB,reduceIte,cJ,Nat.reduceAdd];exact bad 6 er ⟨_,rfl,Z1⟩ u1
 ·have er:fR size s=(kB.zero,1):=by unfold fR;rw[if_pos ok]
  simp only[ok,decide_false,uK,cB,reduceIte,cJ,Nat.reduceAdd];exact bad 1 er ⟨_,rfl,Z1⟩ u1
def aLK(size:Nat)(s:Tx):(fR size s).1.parts<256∧(fR size s).1.b.length≤s.length:=by
 rw[←aOE];have h0:kB.zero.parts<256∧kB.zero.b.length≤s.length:=⟨by decide,lD _⟩;unfold wH;split
 ·exact h0
 ·split
  ·exact h0
  ·split
   ·exact h0
   ·split
    ·exact h0
    ·split
     ·exact h0
     ·split
      ·exact h0
      ·refine⟨?_,?_⟩
       ·show gX s<256;unfold gX;have:=aIm ((s.drop 18).take 1);have h2:((s.drop 18).take 1).length≤1:=by rw[mN];omega
        have h3:256^((s.drop 18).take 1).length≤256^1:=aMW (by decide) h2;omega
       ·show(mB s).length≤s.length;unfold mB;rw[mN,jC];omega
def aOL{size:Nat}{xs:List Tx}(h:∀s∈xs,s.length=size){k:Nat}{x:Tx}(hx:xs[k]? =some x):(xs.flatten.take ((k+1)*size)).drop (k*size)=x:=by
 have hk:=(zLA.1 hx).1;rw[zLy,Nat.succ_mul,aB4,aP6 h hk,aD4,hx];rfl
def aEV(size gen ser:Nat)(x:Tx)(xs:List Tx)(k parts:Nat)(text:Tx):iX size gen ser (x::xs) k parts text=if aGL gen ser k (if k=0 then(fR size x).1.parts else parts) (fR size x) then([],0) else if k+1=(fR size x).1.parts then(text++(fR size x).1.b,(fR size x).1.parts) else iX size gen ser xs (k+1) (if k=0 then(fR size x).1.parts else parts) (text++(fR size x).1.b):=rfl
def aSH{h:PH}{size gen ser:Nat}{xs:List Tx}(hsz:size≤1000)(h1:1≤size)(hx:∀s∈xs,s.length=size)(hl:xs.length≤5000){k:cF}
  (hk:∀h',cZ h h'->k (.tuple #[.string (tx (iX size gen ser xs 0 0 []).1),.int .i64 ((iX size gen ser xs 0 0 []).2:Int)]) h'):bT PG aEg #[.int .i64 (size:Int),.int .u64 (gen:Int),.int .u64 (ser:Int),.string (tx xs.flatten)] h k:=by
 apply aA3.call;unfold aA3;obtain⟨T,hT⟩:∃T,iX size gen ser xs 0 0 []=T:=⟨_,rfl⟩;rw[hT] at hk;have fl:=aAN hx;have flb:xs.length*size≤5000*1000:=Nat.mul_le_mul hl hsz;refine⟨λvs h'=>∃(n parts:Nat) (t:Tx),n≤xs.length∧vs=[.int .i64 (size:Int),.int .u64 (gen:Int),.int .u64 (ser:Int),.string (tx xs.flatten),.string (tx t),.int .i64 (parts:Int),.int .i64 (n:Int)]∧cZ h h'∧t.length≤n*1000∧T=iX size gen ser (xs.drop n) n parts t,fN xs.length 6,⟨0,0,[],by omega,rfl,cT.refl,by simp,hT.symm⟩,?_⟩;rintro ρ h' ⟨n,parts,t,hn,hvs,w,ht,hr⟩;simp only[hY,iZ,kP,and_true] at hvs;obtain⟨x0,x1,x2,x3,x10,x11,x12⟩:=hvs;unfold aHt;rw[x0,x1,x2,x3,x10,x11,x12];have g1:=nP (i:=n) (by omega);have hm1:(n+1)*size≤5001*1000:=Nat.mul_le_mul (by omega) hsz;have hm0:n*size≤5001*1000:=Nat.mul_le_mul (by omega) hsz;have g2:IntKind.i64.wrap (((n+1:Nat):Int)*(size:Int))=(((n+1)*size:Nat):Int):=by rw[←Int.natCast_mul,eI (by omega) (by omega)]
 have g3:IntKind.i64.wrap ((n:Int)*(size:Int))=((n*size:Nat):Int):=by rw[←Int.natCast_mul,eI (by omega) (by omega)]
 by_cases hlt:n<xs.length
 ·have hle:(n+1)*size≤xs.length*size:=wA _ hlt;have gl:((((n+1)*size:Nat):Int)≤(xs.flatten.length:Int))=True:=eq_true (by omega);obtain⟨x,hxx⟩:∃x,xs[n]? =some x:=⟨_,kO hlt⟩;have hxl:=hx x (wP hxx);have hms:n*size≤(n+1)*size:=wA _ (Nat.le_succ _);have c:cC PG (Instr.sliceAt aT (.string (tx xs.flatten)) (some (.int .i64 ((n*size:Nat):Int))) (some (.int .i64 (((n+1)*size:Nat):Int))) none)=some (.string (tx x)):=by
   have:=kL (P:=PG) (t:=aT) (l:=xs.flatten) (i:=n*size) (j:=(n+1)*size) (lo:=some (.int .i64 ((n*size:Nat):Int))) (hi:=some (.int .i64 (((n+1)*size:Nat):Int))) aT.und (.inr ⟨_,rfl⟩) (.inr ⟨_,rfl⟩) hms (by omega);rw[this,aOL hx hxx]
  have ed:xs.drop n=x::xs.drop (n+1):=by
   rw[aAy hlt];have:xs[n]=x:=by rw[kO hlt] at hxx;simpa using hxx
   rw[this]
  rw[ed] at hr;obtain⟨rf1,rf2⟩:=aLK size x;simp only[g1,nD,g2,iO,gl,g3,c,cB,reduceIte,cJ,Nat.reduceAdd];refine aU7 size x (by omega) λh2 u2=>?_;simp only[cB,reduceIte,cJ,Nat.reduceAdd];intro r15 hr15
  try rw[cO]
  refine cP.fill (vs:=(fR size x).1.cells) hr15 rfl (fR size x).1.isC λh3 B3 u3=>?_;have e3:=(w.trans u2).trans u3;have b0:cX h3 ⟨r15,0,none⟩=some (.int .u64 ((fR size x).1.gen:Int)):=B3.cell 0;have b1:cX h3 ⟨r15,0+1,none⟩=some (.int .u64 ((fR size x).1.ser:Int)):=B3.cell 1;have b2:cX h3 ⟨r15,0+2,none⟩=some (.int .i64 ((fR size x).1.part:Int)):=B3.cell 2;have b3:cX h3 ⟨r15,0+3,none⟩=some (.int .i64 ((fR size x).1.parts:Int)):=B3.cell 3;have b4:cX h3 ⟨r15,0+4,none⟩=some (.string (tx (fR size x).1.b)):=B3.cell 4;have tail:∀pp:Nat,pp=(if n=0 then(fR size x).1.parts else parts)->aBU k (λvs h'=>(∃(n parts:Nat) (t:Tx),n≤xs.length∧vs=[.int .i64 (size:Int),.int .u64 (gen:Int),.int .u64 (ser:Int),.string (tx xs.flatten),.string (tx t),.int .i64 (parts:Int),.int .i64 (n:Int)]∧cZ h h'∧t.length≤n*1000∧T=iX size gen ser (xs.drop n) n parts t)∧fN xs.length 6 vs h'<fN xs.length 6 ([0,1,2,3,10,11,12].map ρ) h') (.int .i64 (size:Int)) (.int .u64 (gen:Int)) (.int .u64 (ser:Int)) (.string (tx xs.flatten)) (.string (tx t)) (.int .i64 (pp:Int)) (.int .i64 (n:Int)) (pT r15 0) (.int .i64 (fR size x).2) h3:=by
   intro pp hpp;rw[aEV,←hpp] at hr;unfold aBU;have nq:∀{a b:Nat},a=b->((a:Int) !=(b:Int))=false:=λe=>by simp[e]
   have nn:∀{a b:Nat},a≠b->((a:Int) !=(b:Int))=true:=λe=>by rw[bne_iff_ne];omega
   have fail:aGL gen ser n pp (fR size x)->k (.tuple #[.string {data:=#[]},.int .i64 0]) h3:=λhb=>by
    rw[if_pos hb] at hr;have:=hk h3 e3;rw[hr] at this;exact this
   by_cases c1:(fR size x).2=0
   ·have q1:((fR size x).2 !=0)=false:=by simp[c1]
    by_cases c2:(fR size x).1.gen=gen
    ·by_cases c3:(fR size x).1.ser=ser
     ·by_cases c4:(fR size x).1.part=n
      ·by_cases c5:(fR size x).1.parts=pp
       ·have ea:cC PG (binOp .add aT (.string (tx t)) (.string (tx (fR size x).1.b)))=some (.string (tx (t++(fR size x).1.b))):=jT (by omega);have w5:IntKind.i64.wrap (((fR size x).1.parts:Int)-1)=((fR size x).1.parts:Int)-1:=eI (by omega) (by omega);rw[if_neg (λhb=>by
         rcases hb with a|a|a|a|a
         ·exact a c1
         ·exact a c2
         ·exact a c3
         ·exact a c4
         ·exact a c5)] at hr
        simp only[dY,q1,cP.f0,cP.f1,cP.f2,cP.f3,cP.f4,cI.load,aR.load,aT.load,b0,b1,b2,b3,b4,nq c2,nq c3,nq c4,nq c5,ea,w5,fO,cB,reduceIte,cJ,Nat.reduceAdd];by_cases c6:n+1=(fR size x).1.parts
        ·have q6:((n:Int)==((fR size x).1.parts:Int)-1)=true:=by rw[beq_iff_eq];omega
         rw[if_pos c6] at hr;simp only[q6,cB,reduceIte,cJ,Nat.reduceAdd];have:=hk h3 e3;rw[hr] at this;exact this
        ·have q6:((n:Int)==((fR size x).1.parts:Int)-1)=false:=by rw[beq_eq_false_iff_ne];omega
         rw[if_neg c6] at hr;simp only[q6,g1,cB,reduceIte,cJ,Nat.reduceAdd];exact⟨⟨n+1,pp,_,by omega,rfl,e3,by rw[jO];omega,hr⟩,by simp[fN,x12];omega⟩
       ·simp only[dY,q1,cP.f0,cP.f1,cP.f2,cP.f3,cI.load,aR.load,b0,b1,b2,b3,nq c2,nq c3,nq c4,nn c5,cB,reduceIte,cJ,Nat.reduceAdd];exact fail (.inr (.inr (.inr (.inr c5))))
      ·simp only[dY,q1,cP.f0,cP.f1,cP.f2,cP.f3,cI.load,aR.load,b0,b1,b2,b3,nq c2,nq c3,nn c4,cB,reduceIte,cJ,Nat.reduceAdd];exact fail (.inr (.inr (.inr (.inl c4))))
     ·simp only[dY,q1,cP.f0,cP.f1,cP.f2,cP.f3,cI.load,aR.load,b0,b1,b2,b3,nq c2,nn c3,cB,reduceIte,cJ,Nat.reduceAdd];exact fail (.inr (.inr (.inl c3)))
    ·simp only[dY,q1,cP.f0,cP.f1,cP.f2,cP.f3,cI.load,aR.load,b0,b1,b2,b3,nn c2,cB,reduceIte,cJ,Nat.reduceAdd];exact fail (.inr (.inl c2))
   ·have q1:((fR size x).2 !=0)=true:=by simp[c1]
    simp only[dY,q1,cB,reduceIte,cJ,Nat.reduceAdd];exact fail (.inl c1)
  by_cases hn0:n=0
  ·have q0:((n:Int)==0)=true:=by simp[hn0]
   simp only[fO,q0,cP.f3,aR.load,b3,cB,reduceIte,cJ,Nat.reduceAdd];exact tail _ (by rw[if_pos hn0])
  ·have q0:((n:Int)==0)=false:=by rw[beq_eq_false_iff_ne];omega
   simp only[fO,q0,cB,reduceIte,cJ,Nat.reduceAdd];exact tail _ (by rw[if_neg hn0])
 ·have gl:((((n+1)*size:Nat):Int)≤(xs.flatten.length:Int))=False:=by
   have:n=xs.length:=by omega
   have hms:(n+1)*size=n*size+size:=Nat.succ_mul _ _;rw[this] at hms;exact eq_false (by rw[this];omega)
  rw[aBA (by omega)] at hr;simp only[g1,nD,g2,iO,gl,cB,reduceIte,cJ,Nat.reduceAdd];have:=hk h' w;rw[hr] at this;exact this
def aVZ{h:PH}{size gen:Nat}{xs:List Tx}(ok:fU size)(hx:∀s∈xs,s.length=size)(hl:xs.length≤5000){k:cF}
  (hk:∀h' v F,eJ h' aT 1 v ((jU size gen (xs.length+1) xs 0).1.map jJ) F->dZ h F->cZ h h'->k (.tuple #[v,.int .i64 ((jU size gen (xs.length+1) xs 0).2:Int)]) h'):bT PG aGg #[.int .i64 (size:Int),.int .u64 (gen:Int),.string (tx xs.flatten)] h k:=by
 apply aHC.call;unfold aHC;obtain⟨T,hT⟩:∃T,jU size gen (xs.length+1) xs 0=T:=⟨_,rfl⟩;rw[hT] at hk;have h64:=ok.1;have h512:=ok.2;have fl:=aAN hx;have flb:xs.length*size≤5000*512:=Nat.mul_le_mul hl h512;refine aJo size ?_;simp only[ok,decide_true,cB,reduceIte,cJ,Nat.reduceAdd];refine⟨λvs h'=>∃(used ser f:Nat) (v:Value) (out:List Tx) (F:List Nat),used≤xs.length∧ser≤used∧out.length=ser∧xs.length<f+used∧vs=[.int .i64 (size:Int),.int .u64 (gen:Int),.string (tx xs.flatten),v,.int .i64 (used:Int),.int .u64 (ser:Int)]∧eJ h' aT 1 v (out.map jJ) F∧dZ h F∧cZ h h'∧T=(out++(jU size gen f (xs.drop used) ser).1,used+(jU size gen f (xs.drop used) ser).2),fN xs.length 4,⟨0,0,xs.length+1,_,[],[],by omega,by omega,rfl,by omega,rfl,eJ.nil,(λb hb=>by cases hb),cT.refl,by rw[←hT];simp⟩,?_⟩;rintro ρ h' ⟨used,ser,f,v,out,F,hu,hs,ho,hf,hvs,O,fF,w,hr⟩;simp only[hY,iZ,kP,and_true] at hvs;obtain⟨x0,x1,x2,x8,x9,x10⟩:=hvs;unfold aJd;rw[x0,x1,x2,x8,x9,x10];have hm0:used*size≤xs.length*size:=wA _ hu;have g3:IntKind.i64.wrap ((used:Int)*(size:Int))=((used*size:Nat):Int):=by rw[←Int.natCast_mul,eI (by omega) (by omega)]
 have c:cC PG (Instr.sliceAt aT (.string (tx xs.flatten)) (some (.int .i64 ((used*size:Nat):Int))) none none)=some (.string (tx (xs.drop used).flatten)):=by
  have:=kL (P:=PG) (t:=aT) (l:=xs.flatten) (i:=used*size) (j:=xs.flatten.length) (lo:=some (.int .i64 ((used*size:Nat):Int))) (hi:=none) aT.und (.inr ⟨_,rfl⟩) (.inl ⟨rfl,rfl⟩) (by omega) (mG _);rw[this,zLJ,aGK hx]
 obtain⟨f,rfl⟩:∃g,f=g+1:=⟨f-1,by omega⟩;have hle:=aLz (size:=size) (gen:=gen) (ser:=ser) (xs.drop used) 0 0 [];rw[jC] at hle;simp only[nD,g3,c,cB,reduceIte,cJ,Nat.reduceAdd];refine aSH (by omega) (by omega) (λs hs=>hx s (List.mem_of_mem_drop hs)) (by rw[jC];omega) λh2 u2=>?_;unfold jU at hr;by_cases c0:(iX size gen ser (xs.drop used) 0 0 []).2=0
 ·rw[if_pos c0,zLQ,zLP] at hr;have q0:(((iX size gen ser (xs.drop used) 0 0 []).2:Int)==0)=true:=by simp[c0]
  simp only[fO,q0,cB,reduceIte,cJ,Nat.reduceAdd];have:=hk h2 v F;have hr':T=(out,used):=hr;rw[hr'] at this;exact this (O.ext u2) fF (w.trans u2)
 ·rw[if_neg c0] at hr;have q0:(((iX size gen ser (xs.drop used) 0 0 []).2:Int)==0)=false:=by rw[beq_eq_false_iff_ne];omega
  simp only[fO,q0,aFw,cB,reduceIte,cJ,Nat.reduceAdd];intro r13 hr13;refine gY ?_
  try rw[cO]
  have S1:=(aFX (h:=h2) (r:=r13) (iX size gen ser (xs.drop used) 0 0 []).1).slR;have u3:cZ h2 (h2.set r13 (.cells #[.string (tx (iX size gen ser (xs.drop used) 0 0 []).1)] aT)):=cT.new hr13;refine lL cU.und cU.und aT.info aT.size aT.bytes aT.zero rfl (by decide) ((O.ext u2).ext u3) S1 (by simp[fI]) (by simp only[iF,iP,kI];omega) ?_;intro v4 h4 F4 O4 u4 g4 _;have O4:eJ h4 aT 1 v4 ((out++[(iX size gen ser (xs.drop used) 0 0 []).1]).map jJ) F4:=by rw[wB];exact O4
  have gu:IntKind.i64.wrap ((used:Int)+((iX size gen ser (xs.drop used) 0 0 []).2:Int))=((used+(iX size gen ser (xs.drop used) 0 0 []).2:Nat):Int):=by rw[eI (by omega) (by omega)];omega
  have gs:IntKind.u64.wrap ((ser:Int)+1)=((ser+1:Nat):Int):=by rw[jY (by omega) (by omega)];omega
  have e3:=(w.trans u2).trans u3;simp only[gu,gs,cB,reduceIte,cJ,Nat.reduceAdd];rw[pR] at hr;refine⟨⟨used+(iX size gen ser (xs.drop used) 0 0 []).2,ser+1,f,v4,_,F4,by omega,by omega,by rw[jO,ho];rfl,by omega,rfl,O4,fF.grow e3 g4,e3.fresh u4 fF,?_⟩,by simp[fN,x9];omega⟩;rw[hr,vP,Nat.add_assoc];rfl
def Hd.cells(h:Hd):List Value:=[.int .u64 (h.gen:Int),.int .i64 (h.seg:Int)]
def Hd.v(h:Hd):Value:=.agg h.cells.toArray
def Hd.isC(h:Hd):∀v∈h.cells,fI v=true:=by simp[Hd.cells,fI]
def aBy:cC PG (build cL #[])=some Hd.zero.v:=by kernel_rfl
def aWd(a b:Int):cC PG (build cL #[(0,.int .u64 a),(1,.int .i64 b)])=some (.agg #[.int .u64 a,.int .i64 b]):=by kernel_rfl
def aQL(a:Int):cC PG (build cL #[(0,.int .u64 a)])=some (.agg #[.int .u64 a,.int .i64 0]):=by kernel_rfl
def vQ{h:PH}{r:Nat}{x:Hd}(B:Bx h r x.cells):cD PG h (loadAt cL (pT r 0))=some x.v:=cL.agg B (by show 0+2≤2;decide)
def aXz{h:PH}{d:Nat}(q q':Hd):cD PG h (Op.equalIn (d+1+1) cL q.v q'.v)=some (decide (q=q')):=by
 unfold Hd.v;rw[aAS cL.und (by kernel_rfl) (λf=>match f.offset with|0=>(q.gen:Int)==(q'.gen:Int)|_=>(q.seg:Int)==(q'.seg:Int))]
 ·congr 1;rw[xQ];obtain⟨a,b⟩:=q;obtain⟨a',b'⟩:=q';simp;omega
 ·intro f hf;simp only[iR,zLg,or_false] at hf;rcases hf with rfl|rfl
  ·exact⟨by decide,_,_,iE cI.und rfl rfl,iE cI.und rfl rfl,qH cI.und⟩
  ·exact⟨by decide,_,_,iE aR.und rfl rfl,iE aR.und rfl rfl,qH aR.und⟩
def aQr{h:PH}{x y:Operand}(q q':Hd):cD PG h (fK .neq cL x y q.v q'.v)=some (.bool (!decide (q=q'))):=aKG (by kernel_rfl) (aXz (d:=9998) q q')
def aNn{h:PH}(size:Nat){k:cF}(hk:k (.bool (decide (fU size))) h):bT PG aDY #[.int .i64 (size:Int)] h k:=by
 apply aGp.call;unfold aGp;by_cases h1:64≤size
 ·have g1:((64:Int)≤(size:Int))=True:=eq_true (by omega);have e:decide ((size:Int)≤512)=decide (fU size):=by
   rw[xQ,decide_eq_true_iff,decide_eq_true_iff];unfold fU;omega
  simp only[g1,cB,reduceIte,cJ,Nat.reduceAdd];rw[e];exact hk
 ·have g1:((64:Int)≤(size:Int))=False:=eq_false (by omega);have e:decide (fU size)=false:=decide_eq_false (λx=>h1 x.1);rw[e] at hk;simp only[g1,cB,reduceIte,cJ,Nat.reduceAdd];exact hk
def aO5{h:PH}(size:Nat)(x:Hd)(hg:x.gen<18446744073709551616)(hs:x.seg<1000000){k:cF}(hk:∀h',cZ h h'->k (.tuple #[.string (tx (fQ size x).1),.int .i64 (fQ size x).2]) h'):bT PG aDI #[.int .i64 (size:Int),x.v] h k:=by
 apply aJI.call;unfold aJI;intro r1 hr1
 try rw[cO]
 have u1:cZ h (h.set r1 (.cells (Value.cells x.v) cL)):=cT.new hr1;have B1:Bx (h.set r1 (.cells (Value.cells x.v) cL)) r1 x.cells:=Bx.new;generalize h.set r1 (.cells (Value.cells x.v) cL)=h1 at *;have bad:(¬fU size∨x.gen=0∨1<x.seg)->k (.tuple #[.string {data:=#[]},.int .i64 1]) h1:=λc=>by
  have e:fQ size x=([],1):=by unfold fQ;rw[if_pos c]
  have:=hk h1 u1;rw[e] at this;exact this
 refine aNn size ?_;have b0:cX h1 ⟨r1,0,none⟩=some (.int .u64 (x.gen:Int)):=B1.cell 0;have b1:cX h1 ⟨r1,0+1,none⟩=some (.int .i64 (x.seg:Int)):=B1.cell 1;by_cases c1:fU size
 ·have h64:=c1.1;have h512:=c1.2;by_cases c2:x.gen=0
  ·have q2:((x.gen:Int)==0)=true:=by simp[c2]
   simp only[c1,decide_true,cL.f0,cI.load,b0,fO,q2,cB,reduceIte,cJ,Nat.reduceAdd];exact bad (.inr (.inl c2))
  ·have q2:((x.gen:Int)==0)=false:=by rw[beq_eq_false_iff_ne];omega
   have g3:((x.seg:Int)<0)=False:=eq_false (by omega);by_cases c3:1<x.seg
   ·have g4:((1:Int)<(x.seg:Int))=True:=eq_true (by omega);simp only[c1,decide_true,cL.f0,cL.f1,cI.load,aR.load,b0,b1,fO,q2,g3,g4,cB,reduceIte,cJ,Nat.reduceAdd];exact bad (.inr (.inr c3))
   ·have g4:((1:Int)<(x.seg:Int))=False:=eq_false (by omega);have w14:IntKind.i64.wrap ((size:Int)-14)=((size-14:Nat):Int):=by rw[eI (by omega) (by omega)];omega
    have e:fQ size x=(mZ (nM size x),0):=by unfold fQ;rw[if_neg (by rintro(a|a|a);exact a c1;exact c2 a;exact c3 a)]
    rw[e] at hk;simp only[c1,decide_true,cL.f0,cL.f1,cI.load,aR.load,b0,b1,fO,q2,g3,g4,cB,reduceIte,cJ,Nat.reduceAdd];intro r45 hr45
    try rw[cO]
    have S0:=WN.start hr45;have u2:cZ h1 (h1.set r45 (.cells (dF PG eO) eO)):=cT.new hr45;generalize h1.set r45 (.cells (dF PG eO) eO)=h2 at *;refine aN4 (ys:=[72]) S0 (by simp) (by simp) λh3 F3 x3 e3 S3 K3=>?_;have c0:cX h3 ⟨r1,0,none⟩=some (.int .u64 (x.gen:Int)):=(B1.ext S3.upd).cell 0;simp only[cL.f0,cI.load,c0,cB,reduceIte,cJ,Nat.reduceAdd];refine aDp S3 (by rw[e3];simp) hg λh4 F4 x4 e4 S4 K4=>?_;have c1':cX h4 ⟨r1,0+1,none⟩=some (.int .i64 (x.seg:Int)):=(B1.ext S4.upd).cell 1;simp only[cL.f1,aR.load,c1',cB,reduceIte,cJ,Nat.reduceAdd];refine aAp S4 (by rw[e4,e3];simp[xK,gU]) (x.seg:Int) λh5 F5 x5 e5 S5 K5=>?_;have e5':x5=(0,[72]++(be x.gen 8++be x.seg 1)):=by
     rw[e5,e4,e3];unfold kF xK;rw[if_pos ⟨by omega,by omega⟩];simp
    simp only[w14,cB,reduceIte,cJ,Nat.reduceAdd];refine aKF (by omega) λh6 u6=>?_;refine aN4 (WS.ext S5 u6) (by rw[e5'];simp[gU]) (by simp;omega) λh7 F7 x7 e7 S7 K7=>?_;refine aLX S7.at_ λh8 u8=>?_;have e7':x7=(0,nM size x):=by
     rw[e7,e5'];unfold nM kT;simp only[vP]
    have eb:aDN (x7.1,x7.2)=(nM size x,0):=by
     rw[e7'];rfl
    rw[eb];have hl:(nM size x).length≤1000000:=by
     unfold nM;simp only[jO,gU,vT,iP,kI];omega
    simp only[cB,reduceIte,cJ,Nat.reduceAdd];refine aQQ _ hl λh9 u9=>?_;exact hk h9 ((u1.trans (S7.upd.fresh u8 S7.fresh)).trans u9)
 ·simp only[c1,decide_false,cB,reduceIte,cJ,Nat.reduceAdd];exact bad (.inl c1)
def aVE{h:PH}(size:Nat)(s:Tx)(hs:s.length≤1000000){k:cF}(hk:∀h',cZ h h'->k (.tuple #[(fZ size s).1.v,.int .i64 (fZ size s).2]) h'):bT PG aIO #[.int .i64 (size:Int),.string (tx s)] h k:=by
 apply aIz.call;unfold aIz;intro r1 hr1
 try rw[cO]
 have Z1:=cL.zbox (h:=h) (r:=r1);have u1:cZ h (h.set r1 (.cells (dF PG cL) cL)):=cT.new hr1;generalize h.set r1 (.cells (dF PG cL) cL)=h1 at *;have f1:dZ h [r1]:=dZ.one hr1;have fin:∀{h':PH} (f:Hd) (e:Int),fZ size s=(f,e)->(∃cs:List Value,cs.length=2∧Bx h' r1 cs)->cZ h h'->cM PG (cQ cL (pT r1 0) f.v) h' λ_ h8=>bY (cD PG h8 (loadAt cL (pT r1 0))) λv9=>k (.tuple #[v9,.int .i64 e]) h8:=by
  intro h' f e hr ⟨cs,hcs,B⟩ w;refine cL.put B (vs:=f.cells) (o:=0) rfl (by omega) f.isC λh2 B2 u2=>?_;rw[zLd,zLU,aBA (by omega),zLQ] at B2;simp only[vQ B2,cB,reduceIte,cJ,Nat.reduceAdd];have:=hk h2 (w.fresh u2 f1);rw[hr] at this;exact this
 have bad:∀{h':PH} (e:Int),fZ size s=(Hd.zero,e)->(∃cs:List Value,cs.length=2∧Bx h' r1 cs)->cZ h h'->cM PG (cQ cL (pT r1 0) Hd.zero.v) h' λ_ h8=>bY (cD PG h8 (loadAt cL (pT r1 0))) λv9=>k (.tuple #[v9,.int .i64 e]) h8:=λe=>fin Hd.zero e;refine aNn size ?_;by_cases ok:fU size
 ·have h64:=ok.1;have h512:=ok.2;simp only[ok,decide_true,iO,dY,cB,reduceIte,cJ,Nat.reduceAdd];by_cases hl:s.length=size
  ·have q:((s.length:Int) !=(size:Int))=false:=by simp[hl]
   simp only[q,cB,reduceIte,cJ,Nat.reduceAdd];refine aOV s hs λh4 u4=>?_;have e4:=u1.trans u4;cases hsl:nQ s with
   | false=>
    have er:fZ size s=(Hd.zero,8):=by unfold fZ;rw[if_neg (by simpa using ok),if_neg (by simpa using hl),if_pos hsl]
    simp only[aBy,cB,reduceIte,cJ,Nat.reduceAdd];exact bad 8 er ⟨_,rfl,Z1.ext u4⟩ e4
   | true=>
    have er:fZ size s=if (fQ size (uA s)).2=0∧(fQ size (uA s)).1=s then(uA s,0) else(Hd.zero,5):=by
     unfold fZ;rw[if_neg (by simpa using ok),if_neg (by simpa using hl),if_neg (by simp[hsl])]
    have c1:cC PG (Instr.sliceAt aT (.string (tx s)) (some (.int .i64 1)) none none)=some (.string (tx (s.drop 1))):=by
     have:=kL (P:=PG) (t:=aT) (l:=s) (i:=1) (j:=s.length) (lo:=some (.int .i64 1)) (hi:=none) aT.und (.inr ⟨_,rfl⟩) (.inl ⟨rfl,rfl⟩) (by omega) (mG _);rw[this,zLJ]
    simp only[c1,cB,reduceIte,cJ,Nat.reduceAdd];refine aHd (s.drop 1) λa h5 R5 u5 ha=>?_;have n1a:r1≠a:=(Z1.ext u4).apart ha;have fa:dZ h [a]:=dZ.one (e4.none ha);refine aBL R5 λh6 R6 u6=>?_;refine aAL R6 λh7 R7 u7=>?_;show bY (cC PG (build cL #[(0,.int .u64 ((uA s).gen:Int)),(1,.int .i64 ((uA s).seg:Int))])) _;have u67:=u6.trans u7;have Z7:=((Z1.ext u4).ext u5).upd u67 (by simpa using n1a);have e7:=(e4.trans u5).fresh u67 fa;simp only[aWd,cB,reduceIte,cJ,Nat.reduceAdd];intro r31 hr31
    try rw[cO]
    refine cL.fill (vs:=(uA s).cells) hr31 rfl (uA s).isC λh8 B8 u8=>?_;have e8:=e7.trans u8;have lt1:(uA s).gen<18446744073709551616:=vM (0,s.drop 1) 8;have lt2:(uA s).seg<256:=vM (fD (0,s.drop 1) 8).2 1;simp only[vQ B8,cB,reduceIte,cJ,Nat.reduceAdd];refine aO5 size (uA s) lt1 (by omega) λh9 u9=>?_;have Zx:∃cs:List Value,cs.length=2∧Bx h9 r1 cs:=⟨_,rfl,(Z7.ext u8).ext u9⟩;have e9:=e8.trans u9;by_cases c2:(fQ size (uA s)).2=0
    ·have q2:((fQ size (uA s)).2 !=0)=false:=by simp[c2]
     by_cases c3:(fQ size (uA s)).1=s
     ·have q3:decide ((fQ size (uA s)).1=s)=true:=decide_eq_true c3;simp only[dY,q2,aJJ,q3,vQ (B8.ext u9),cB,reduceIte,cJ,Nat.reduceAdd];exact fin (uA s) 0 (by rw[er,if_pos ⟨c2,c3⟩]) Zx e9
     ·have q3:decide ((fQ size (uA s)).1=s)=false:=decide_eq_false c3;simp only[dY,q2,aJJ,q3,aBy,cB,reduceIte,cJ,Nat.reduceAdd];exact bad 5 (by rw[er,if_neg (λx=>c3 x.2)]) Zx e9
    ·have q2:((fQ size (uA s)).2 !=0)=true:=by simp[c2]
     simp only[dY,q2,aBy,cB,reduceIte,cJ,Nat.reduceAdd];exact bad 5 (by rw[er,if_neg (λx=>c2 x.1)]) Zx e9
  ·have q:((s.length:Int) !=(size:Int))=true:=by
    rw[bne_iff_ne];omega
   have er:fZ size s=(Hd.zero,6):=by unfold fZ;rw[if_neg (by simpa using ok),if_pos hl]
   simp only[q,aBy,cB,reduceIte,cJ,Nat.reduceAdd];exact bad 6 er ⟨_,rfl,Z1⟩ u1
 ·have er:fZ size s=(Hd.zero,1):=by unfold fZ;rw[if_pos ok]
  simp only[ok,decide_false,aBy,cB,reduceIte,cJ,Nat.reduceAdd];exact bad 1 er ⟨_,rfl,Z1⟩ u1
def aFT(size:Nat)(x y:Tx):Nat->Hd×Int
 | 0=>(Hd.zero,-1)
 | 1=>wO (Hd.zero,-1) 0 (fZ size x).1
 | _=>nC size x y
def aS6{h:PH}{v:Value}(size:Nat)(x y:Tx)(S:hM h 1 v ([x,y].map jJ))(hx:x.length≤1000000)(hy:y.length≤1000000){k:cF}(hk:∀h',cZ h h'->k (.tuple #[(nC size x y).1.v,.int .i64 (nC size x y).2]) h'):bT PG aFh #[.int .i64 (size:Int),v] h k:=by
 apply aFk.call;unfold aFk;intro r1 hr1
 try rw[cO]
 have Z1:=cL.zbox (h:=h) (r:=r1);have u1:cZ h (h.set r1 (.cells (dF PG cL) cL)):=cT.new hr1;generalize h.set r1 (.cells (dF PG cL) cL)=h1 at *;simp only[aBy,cB,reduceIte,cJ,Nat.reduceAdd];intro r4 hr4
 try rw[cO]
 refine cL.fill (vs:=Hd.zero.cells) hr4 rfl Hd.zero.isC λh2 B2 u2=>?_;have Z2:=Z1.ext u2;have n14:r1≠r4:=Z1.apart hr4;have e2:=u1.trans u2;have f1:dZ h [r1]:=dZ.one hr1;have f4:dZ h [r4]:=dZ.one (u1.none hr4);have lv:cC PG (Builtin.len_ #[cU] aR #[v])=some (.int .i64 2):=tP S;simp only[lv,cB,reduceIte,cJ,Nat.reduceAdd];refine⟨λvs h'=>∃i:Nat,i≤2∧vs=[.int .i64 (size:Int),pT r1 0,pT r4 0,.int .i64 (aFT size x y i).2,v,.int .i64 2,.int .i64 (i:Int)]∧Bx h' r4 (aFT size x y i).1.cells∧(∃cs:List Value,cs.length=2∧Bx h' r1 cs)∧cZ h h',fN 2 6,⟨0,by omega,rfl,B2,⟨_,rfl,Z2⟩,e2⟩,?_⟩;rintro ρ h' ⟨i,hi,hvs,B,⟨cs,hcs,Zb⟩,w⟩;simp only[hY,iZ,kP,and_true] at hvs;obtain⟨x0,x4,x6,x7,x13,x14,x15⟩:=hvs;unfold aH1;rw[x0,x4,x6,x7,x13,x14,x15];by_cases hlt:i<2
 ·have g:((i:Int)<2)=True:=eq_true (by omega);have gi:=nP (i:=i) (by omega);obtain⟨s,hs⟩:∃s,[x,y][i]? =some s:=⟨_,kO (show i<[x,y].length from hlt)⟩;have hsl:s.length≤1000000:=by
   have:=wP hs;simp only[iR,zLg,or_false] at this;rcases this with rfl|rfl<;>assumption
  obtain⟨a,i1,i2⟩:=aFR (S.ext w) hs;have step:aFT size x y (i+1)=wO (aFT size x y i) (i:Int) (fZ size s).1:=by
   have:i=0∨i=1:=by omega
   rcases this with rfl|rfl
   ·simp at hs;subst hs;rfl
   ·simp at hs;subst hs;rfl
  simp only[g,i1,i2,cB,reduceIte,cJ,Nat.reduceAdd];refine aVE size s hsl λh3 u3=>?_;simp only[cB,reduceIte,cJ,Nat.reduceAdd];intro r18 hr18
  try rw[cO]
  refine cL.fill (vs:=(fZ size s).1.cells) hr18 rfl (fZ size s).1.isC λh5 B5 u5=>?_;have e5:=(w.trans u3).trans u5;have D4:=(B.ext u3).ext u5;have D1:=(Zb.ext u3).ext u5;have b0:cX h5 ⟨r18,0,none⟩=some (.int .u64 ((fZ size s).1.gen:Int)):=B5.cell 0;have c0:cX h5 ⟨r4,0,none⟩=some (.int .u64 ((aFT size x y i).1.gen:Int)):=D4.cell 0;by_cases c1:(fZ size s).1=Hd.zero
  ·have q1:decide ((fZ size s).1=Hd.zero)=true:=decide_eq_true c1;have en:aFT size x y (i+1)=aFT size x y i:=by rw[step];exact if_neg (λz=>z.1 c1)
   simp only[vQ B5,aBy,aQr,q1,cB,reduceIte,cJ,Nat.reduceAdd];unfold yZ aCL;simp only[gi,cB,reduceIte,cJ,Nat.reduceAdd];rw[←en];rw[←en] at D4;exact⟨⟨i+1,by omega,rfl,D4,⟨cs,hcs,D1⟩,e5⟩,by simp[fN,x15];omega⟩
  ·have q1:decide ((fZ size s).1=Hd.zero)=false:=decide_eq_false c1;by_cases c2:(aFT size x y i).1.gen<(fZ size s).1.gen
   ·have g2:(((aFT size x y i).1.gen:Int)<((fZ size s).1.gen:Int))=True:=eq_true (by omega);have en:aFT size x y (i+1)=((fZ size s).1,(i:Int)):=by rw[step];exact if_pos ⟨c1,c2⟩
    simp only[vQ B5,aBy,aQr,q1,cL.f0,cI.load,b0,c0,g2,cB,reduceIte,cJ,Nat.reduceAdd];refine cL.put D4 (vs:=(fZ size s).1.cells) (o:=0) rfl (by show 0+2≤2;decide) (fZ size s).1.isC λh6 B6 u6=>?_;have B6:Bx h6 r4 (fZ size s).1.cells:=B6;unfold yZ aCL;simp only[gi,cB,reduceIte,cJ,Nat.reduceAdd];exact⟨⟨i+1,by omega,by rw[en],by rw[en];exact B6,⟨cs,hcs,D1.upd u6 (by simpa using n14)⟩,e5.fresh u6 f4⟩,by simp[fN,x15];omega⟩
   ·have g2:(((aFT size x y i).1.gen:Int)<((fZ size s).1.gen:Int))=False:=eq_false (by omega);have en:aFT size x y (i+1)=aFT size x y i:=by rw[step];exact if_neg (λz=>c2 z.2)
    simp only[vQ B5,aBy,aQr,q1,cL.f0,cI.load,b0,c0,g2,cB,reduceIte,cJ,Nat.reduceAdd];unfold yZ aCL;simp only[gi,cB,reduceIte,cJ,Nat.reduceAdd];rw[←en];rw[←en] at D4;exact⟨⟨i+1,by omega,rfl,D4,⟨cs,hcs,D1⟩,e5⟩,by simp[fN,x15];omega⟩
 ·have g:((i:Int)<2)=False:=eq_false (by omega);obtain rfl:i=2:=by omega
  have B:Bx h' r4 (nC size x y).1.cells:=B;simp only[g,vQ B,cB,reduceIte,cJ,Nat.reduceAdd];refine cL.put Zb (vs:=(nC size x y).1.cells) (o:=0) rfl (by omega) (nC size x y).1.isC λh6 B6 u6=>?_;rw[zLd,zLU,aBA (by omega),zLQ] at B6;simp only[vQ B6,cB,reduceIte,cJ,Nat.reduceAdd];exact hk h6 (w.fresh u6 f1)
def aVM{h:PH}(x:Hd)(hg:x.gen<18446744073709551616){k:cF}(hk:∀h',cZ h h'->k (.tuple #[(gL x).1.v,.int .i64 (gL x).2]) h'):bT PG aHY #[x.v] h k:=by
 apply aH7.call;unfold aH7;intro r1 hr1
 try rw[cO]
 have u1:cZ h (h.set r1 (.cells (Value.cells x.v) cL)):=cT.new hr1;have B1:Bx (h.set r1 (.cells (Value.cells x.v) cL)) r1 x.cells:=Bx.new;generalize h.set r1 (.cells (Value.cells x.v) cL)=h1 at *;intro r3 hr3
 try rw[cO]
 have Z3:=cL.zbox (h:=h1) (r:=r3);have u3:cZ h1 (h1.set r3 (.cells (dF PG cL) cL)):=cT.new hr3;have C1:=B1.ext u3;generalize h1.set r3 (.cells (dF PG cL) cL)=h3 at *;have e3:=u1.trans u3;have f3:dZ h [r3]:=dZ.one (u1.none hr3);have b0:cX h3 ⟨r1,0,none⟩=some (.int .u64 (x.gen:Int)):=C1.cell 0;have fin:∀{h':PH} (f:Hd) (e:Int),gL x=(f,e)->(∃cs:List Value,cs.length=2∧Bx h' r3 cs)->cZ h h'->cM PG (cQ cL (pT r3 0) f.v) h' λ_ h8=>bY (cD PG h8 (loadAt cL (pT r3 0))) λv9=>k (.tuple #[v9,.int .i64 e]) h8:=by
  intro h' f e hr ⟨cs,hcs,B⟩ w;refine cL.put B (vs:=f.cells) (o:=0) rfl (by omega) f.isC λh2 B2 u2=>?_;rw[zLd,zLU,aBA (by omega),zLQ] at B2;simp only[vQ B2,cB,reduceIte,cJ,Nat.reduceAdd];have:=hk h2 (w.fresh u2 f3);rw[hr] at this;exact this
 by_cases c:x.gen=18446744073709551615
 ·have q:((x.gen:Int)==18446744073709551615)=true:=by rw[beq_iff_eq];omega
  simp only[cL.f0,cI.load,b0,fO,q,aBy,cB,reduceIte,cJ,Nat.reduceAdd];exact fin Hd.zero 12 (by unfold gL;rw[if_pos c]) ⟨_,rfl,Z3⟩ e3
 ·have q:((x.gen:Int)==18446744073709551615)=false:=by rw[beq_eq_false_iff_ne];omega
  have wg:IntKind.u64.wrap ((x.gen:Int)+1)=((x.gen+1:Nat):Int):=by rw[jY (by omega) (by omega)];omega
  simp only[cL.f0,cI.load,b0,fO,q,wg,aQL,cB,reduceIte,cJ,Nat.reduceAdd];intro r16 hr16
  try rw[cO]
  refine cL.fill (vs:=Hd.cells ⟨x.gen+1,0⟩) hr16 rfl (Hd.isC _) λh5 B5 u5=>?_;have b1:cX h5 ⟨r1,0+1,none⟩=some (.int .i64 (x.seg:Int)):=(C1.ext u5).cell 1;have n316:r3≠r16:=Z3.apart hr16;have e5:=e3.trans u5;by_cases c2:x.seg=0
  ·have q2:((x.seg:Int)==0)=true:=by simp[c2]
   simp only[cL.f1,aR.load,b1,fO,q2,cB,reduceIte,cJ,Nat.reduceAdd];refine aR.put (o:=1) B5 (by show 1<2;decide) rfl λh6 B6 u6=>?_;have B6:Bx h6 r16 (Hd.cells ⟨x.gen+1,1⟩):=B6;unfold aDl;simp only[vQ B6,cB,reduceIte,cJ,Nat.reduceAdd];exact fin ⟨x.gen+1,1⟩ 0 (by unfold gL;rw[if_neg c,if_pos c2]) ⟨_,rfl,(Z3.ext u5).upd u6 (by simpa using n316)⟩ (e5.fresh u6 (dZ.one (e3.none hr16)))
  ·have q2:((x.seg:Int)==0)=false:=by rw[beq_eq_false_iff_ne];omega
   simp only[cL.f1,aR.load,b1,fO,q2,cB,reduceIte,cJ,Nat.reduceAdd];unfold aDl;simp only[vQ B5,cB,reduceIte,cJ,Nat.reduceAdd];exact fin ⟨x.gen+1,0⟩ 0 (by unfold gL;rw[if_neg c,if_neg c2]) ⟨_,rfl,Z3.ext u5⟩ e5
structure SpJ(h0 h:PH)(l:Nat)(rec:Loop)(r1 r3 r5 r11 rm rs r17:Nat)(size gen ser parts:Nat)(t:Tx)(out:List Tx)(v:Value)(F:List Nat):Prop where
 loop:h l=some (.loop rec)
 b1:Bx h r1 [.int .i64 (size:Int)]
 b3:Bx h r3 [.int .u64 (gen:Int)]
 b5:Bx h r5 [.int .u64 (ser:Int)]
 b11:Bx h r11 [.int .i64 (parts:Int)]
 bm:Bx h rm [.int .i64 ((size-25:Nat):Int)]
 bs:Bx h rs [.string (tx t)]
 b17:Bx h r17 [v]
 own:eJ h aT 1 v (out.map jJ) F
 fresh:dZ h0 F
 apart:∀b∈F,b∉[l,r1,r3,r5,r11,rm,rs,r17]
 ext:cZ h0 h
 fl:h0 l=none
 f17:h0 r17=none
 fs:h0 rs=none
def gJ{h:PH}{r:Nat}{v:Value}(B:Bx h r [v]):cX h ⟨r,0,none⟩=some v:=B.cell 0
def nd8{l r1 r3 r5 r11 rm rs r17:Nat}(hn: [l,r1,r3,r5,r11,rm,rs,r17].Nodup):(r1∉[l]∧r3∉[l]∧r5∉[l]∧r11∉[l]∧rm∉[l]∧rs∉[l]∧r17∉[l])∧(l∉[r17]∧r1∉[r17]∧r3∉[r17]∧r5∉[r17]∧r11∉[r17]∧rm∉[r17]∧rs∉[r17])∧(l∉[rs]∧r1∉[rs]∧r3∉[rs]∧r5∉[rs]∧r11∉[rs]∧rm∉[rs]∧r17∉[rs]):=by
 simp only[aFb,iR,zLg,or_false,not_or,List.nodup_nil,and_true] at hn;simp only[iL];obtain⟨⟨l1,l3,l5,l11,lm,ls,l17⟩,⟨a3,a5,a11,am,a_s,a17⟩,⟨c5,c11,cm,cs,c17⟩,⟨d11,dm,ds,d17⟩,⟨em,es,e17⟩,⟨fs,f17⟩,g17,-⟩:=hn;exact⟨⟨Ne.symm l1,Ne.symm l3,Ne.symm l5,Ne.symm l11,Ne.symm lm,Ne.symm ls,Ne.symm l17⟩,⟨l17,a17,c17,d17,e17,f17,g17⟩,⟨ls,a_s,cs,ds,es,fs,Ne.symm g17⟩⟩
def aUA{h0 h:PH}{l:Nat}{rec:Loop}{fn:FuncId}{tmps:Array Value}{D:Nat}{r1 r3 r5 r11 rm rs r17 size gen ser parts:Nat}{t:Tx}{out:List Tx}{v:Value}{F:List Nat}(ok:fU size)(g1:gen<18446744073709551616)(g2:ser<18446744073709551616)
  (hrec:rec= {state:=.ready,pending:=none,fn,tmps,params:=#[27,28],assign:=mH,body:=lO,defers:=D}) (hsz:tmps.size=57) (t4:tmps.getD 4 undef=pT r1 0) (t5:tmps.getD 5 undef=pT r3 0) (t6:tmps.getD 6 undef=pT r5 0) (t10:tmps.getD 10 undef=pT r11 0) (t11:tmps.getD 11 undef=pT r17 0)
  (hn: [l,r1,r3,r5,r11,rm,rs,r17].Nodup) (J:SpJ h0 h l rec r1 r3 r5 r11 rm rs r17 size gen ser parts t out v F) {i:Nat} {p:Tx} (hi:i<256) (hpa:parts<256) (hp:p.length+25≤size) (ho:out.length≤1000) {k:cF}
  (hk:∀h' v' F',SpJ h0 h' l rec r1 r3 r5 r11 rm rs r17 size gen ser parts t (out++[nR size gen ser i parts p]) v' F'->k (.bool true) h'):
  yE PG (aGJ l) #[.int .i64 (i:Int),.string (tx p)] h k:=by
 have h64:=ok.1;have h512:=ok.2;obtain⟨⟨nl1,nl3,nl5,nl11,nlm,nls,nl17⟩,⟨m0,m1,m3,m5,m11,mm,ms⟩,⟨s0,s1,s3,s5,s11,sm,s17⟩⟩:=nd8 hn;refine aPR J.loop (by rw[hrec];rfl) ?_;have e1:rec.assign=mH:=by rw[hrec]
 have e2:rec.body=lO:=by rw[hrec]
 have e3:(rec.params.zip #[.int .i64 (i:Int),.string (tx p)]).foldl (λtmps (t,a)=>tmps.setIfInBounds t a) rec.tmps=(tmps.setIfInBounds 27 (.int .i64 (i:Int))).setIfInBounds 28 (.string (tx p)):=by rw[hrec];simp
 rw[e1,e2,e3];refine tE.next (by simpa using hsz) ?_;have gd:∀j,j≠27->j≠28->((tmps.setIfInBounds 27 (.int .i64 (i:Int))).setIfInBounds 28 (.string (tx p))).getD j undef=tmps.getD j undef:=λj a b=>by
  simp[aE4,Array.getElem?_setIfInBounds,Ne.symm a,Ne.symm b]
 have t27:((tmps.setIfInBounds 27 (.int .i64 (i:Int))).setIfInBounds 28 (.string (tx p))).getD 27 undef= .int .i64 (i:Int):=by
  simp[aE4,Array.getElem?_setIfInBounds,hsz]
 have t28:((tmps.setIfInBounds 27 (.int .i64 (i:Int))).setIfInBounds 28 (.string (tx p))).getD 28 undef= .string (tx p):=by
  simp[aE4,Array.getElem?_setIfInBounds,hsz]
 rw[gd 4 (by decide) (by decide),gd 5 (by decide) (by decide),gd 6 (by decide) (by decide),gd 10 (by decide) (by decide),gd 11 (by decide) (by decide),t27,t28,t4,t5,t6,t10,t11];unfold tE;refine aO6 J.loop (by rw[hrec]) ?_;have u1:cT [l] h (h.set l (.loop {rec with state:=.busy})):=cT.set (by simp);have bl1:(h.set l (.loop {rec with state:=.busy})) l=some (.loop {rec with state:=.busy}):=eD;generalize h.set l (.loop {rec with state:=.busy})=h1 at *;have B1:=J.b1.upd u1 nl1;have B3:=J.b3.upd u1 nl3;have B5:=J.b5.upd u1 nl5;have B11:=J.b11.upd u1 nl11;have Bm:=J.bm.upd u1 nlm;have Bs:=J.bs.upd u1 nls;have B17:=J.b17.upd u1 nl17;have apart:=J.apart;have O1:=J.own.upd u1 (λb hb hm=>apart b hb (by simp only[iL] at hm;simp[hm]));intro r24 hr24
 try rw[cO]
 have S0:=WN.start hr24;generalize h1.set r24 (.cells (dF PG eO) eO)=h2 at *;refine aN4 (ys:=[82]) S0 (by simp) (by simp) λh3 F3 x3 e3 S3 K3=>?_;simp only[cI.load,gJ (B3.ext S3.upd),cB,reduceIte,cJ,Nat.reduceAdd];refine aDp S3 (by rw[e3];simp) g1 λh4 F4 x4 e4 S4 K4=>?_;simp only[cI.load,gJ (B5.ext S4.upd),cB,reduceIte,cJ,Nat.reduceAdd];refine aDp S4 (by rw[e4,e3];simp[xK,gU]) g2 λh5 F5 x5 e5 S5 K5=>?_;refine aAp S5 (by rw[e5,e4,e3];simp[xK,gU]) (i:Int) λh6 F6 x6 e6 S6 K6=>?_;have e6':x6=(0,[82]++(be gen 8++(be ser 8++be i 1))):=by
  rw[e6,e5,e4,e3];unfold kF xK;rw[if_pos ⟨by omega,by omega⟩];simp
 simp only[aR.load,gJ (B11.ext S6.upd),cB,reduceIte,cJ,Nat.reduceAdd];refine aAp S6 (by rw[e6'];simp[gU]) (parts:Int) λh7 F7 x7 e7 S7 K7=>?_;have e7':x7=(0,[82]++(be gen 8++(be ser 8++(be i 1++be parts 1)))):=by
  rw[e7,e6'];unfold kF;rw[if_pos ⟨by omega,by omega⟩];simp
 refine aR4 S7 (by rw[e7'];simp[gU]) p λh8 F8 x8 e8 S8 K8=>?_;have e8':x8=(0,[82]++(be gen 8++(be ser 8++(be i 1++(be parts 1++(be p.length 2++p)))))):=by
  rw[e8,e7'];unfold aEo;rw[if_pos (by omega)];simp
 have w1:IntKind.i64.wrap ((size:Int)-25)=((size-25:Nat):Int):=by rw[eI (by omega) (by omega)];omega
 have w2:IntKind.i64.wrap (((size-25:Nat):Int)-(p.length:Int))=((size-25-p.length:Nat):Int):=by rw[eI (by omega) (by omega)];omega
 simp only[aR.load,gJ (B1.ext S8.upd),w1,iO,w2,cB,reduceIte,cJ,Nat.reduceAdd];refine aKF (by omega) λh9 u9=>?_;refine aN4 (WS.ext S8 u9) (by rw[e8'];simp[gU];omega) (by simp;omega) λh10 F10 x10 e10 S10 K10=>?_;refine aLX S10.at_ λh11 u11=>?_;have e10':x10=(0,nA size gen ser i parts p):=by
  rw[e10,e8'];unfold nA kT;simp only[vP]
 have eb:aDN (x10.1,x10.2)=(nA size gen ser i parts p,0):=by
  rw[e10'];rfl
 have w11:cZ h1 h11:=S10.upd.fresh u11 S10.fresh;rw[eb];have hbl:=aGP (size:=size) (gen:=gen) (ser:=ser) (k:=i) (parts:=parts) hp;simp only[cU.load,gJ (B17.ext w11),cB,reduceIte,cJ,Nat.reduceAdd];refine aQQ _ (by omega) λh12 u12=>?_;have w12:=w11.trans u12;refine⟨gJ (B17.ext w12),?_⟩;simp only[aFw,cB,reduceIte,cJ,Nat.reduceAdd];intro r56 hr56;refine gY ?_
 try rw[cO]
 have S1:=(aFX (h:=h12) (r:=r56) (mZ (nA size gen ser i parts p))).slR;have u13:cZ h12 (h12.set r56 (.cells #[.string (tx (mZ (nA size gen ser i parts p)))] aT)):=cT.new hr56;generalize h12.set r56 (.cells #[.string (tx (mZ (nA size gen ser i parts p)))] aT)=h13 at *;have w13:=w12.trans u13;have O13:=O1.ext w13;refine lL cU.und cU.und aT.info aT.size aT.bytes aT.zero rfl (by decide) O13 S1 (by simp[fI]) (by simp only[iF,iP,kI];omega) ?_;intro v14 h14 F14 O14 u14 g14 _;have O14:eJ h14 aT 1 v14 ((out++[nR size gen ser i parts p]).map jJ) F14:=by rw[wB];exact O14
 have kn:∀b,h1 b≠none->h13 b≠none:=λb hb=>by
  cases e:h1 b with
  | none=>exact absurd e hb
  | some o=>rw[w13.get e];simp
 have notF:∀b∈[l,r1,r3,r5,r11,rm,rs,r17],b∉F14:=λb hb hm=>by
  rcases g14 b hm with h1'|h1'
  ·exact apart b h1' hb
  ·simp only[iR,zLg,or_false] at hb;rcases hb with rfl|rfl|rfl|rfl|rfl|rfl|rfl|rfl
   ·exact kn _ (by rw[bl1];simp) h1'
   ·exact kn _ B1.known h1'
   ·exact kn _ B3.known h1'
   ·exact kn _ B5.known h1'
   ·exact kn _ B11.known h1'
   ·exact kn _ Bm.known h1'
   ·exact kn _ Bs.known h1'
   ·exact kn _ B17.known h1'
 have aF:∀b∈[l,r1,r3,r5,r11,rm,rs,r17],b∉F:=λb hb hm=>apart b hm hb;have C:∀{r:Nat} {cs:List Value},r∈[l,r1,r3,r5,r11,rm,rs,r17]->Bx h1 r cs->Bx h14 r cs:=λhr B=>(B.ext w13).upd u14 (aF _ hr);have B17':=C (by simp) B17;refine cU.put B17' (o:=0) (by show 0<1;decide) O14.slR.isc λh15 B15 u15=>?_;have B15:Bx h15 r17 [v14]:=B15;have bl15:h15 l=some (.loop {rec with state:=.busy}):=u15.get (u14.get (w13.get bl1) (aF l (by simp))) m0;refine aSn bl15 ?_;have u16:cT [l] h15 (h15.set l (.loop {{rec with state:=.busy} with state:=if (none:Option Code).isNone then .ready else .done,pending:=none})):=cT.set (by simp);have bl16:(h15.set l (.loop {{rec with state:=.busy} with state:=if (none:Option Code).isNone then .ready else .done,pending:=none})) l=some (.loop rec):=by rw[eD,hrec];rfl
 generalize h15.set l (.loop {{rec with state:=.busy} with state:=if (none:Option Code).isNone then .ready else .done,pending:=none})=h16 at *;have D:∀{r:Nat} {cs:List Value},r∈[l,r1,r3,r5,r11,rm,rs,r17]->r∉[r17]->r∉[l]->Bx h1 r cs->Bx h16 r cs:=λhr h17 hl B=>((C hr B).upd u15 h17).upd u16 hl;have fF14:dZ h0 F14:=λb hb=>by
  rcases g14 b hb with h2|h2
  ·exact J.fresh b h2
  ·cases e:h0 b with
   | none=>rfl
   | some o=>
    exfalso;have e1:=J.ext.get e;by_cases hbl:b=l
    ·exact notF l (by simp) (hbl▸hb)
    ·exact kn b (by rw[u1.get e1 (by simpa using hbl)];simp) h2
 refine hk h16 v14 F14 ⟨bl16,D (by simp) m1 nl1 B1,D (by simp) m3 nl3 B3,D (by simp) m5 nl5 B5,D (by simp) m11 nl11 B11,D (by simp) mm nlm Bm,D (by simp) ms nls Bs,B15.upd u16 nl17,(O14.upd u15 (λb hb hm=>by
  simp only[iL] at hm;exact notF r17 (by simp) (hm▸hb))).upd u16 (λb hb hm=>by
  simp only[iL] at hm;exact notF l (by simp) (hm▸hb)),fF14,λb hb hm=>notF b hm hb,((((J.ext.fresh u1 (dZ.one J.fl)).trans w13).fresh u14 J.fresh).fresh u15 (dZ.one J.f17)).fresh u16 (dZ.one J.fl),J.fl,J.f17,J.fs⟩
def aU6{h0 h:PH}{l:Nat}{rec:Loop}{fn:FuncId}{tmps:Array Value}{D:Nat}{r1 r3 r5 r11 rm rs r17 size gen ser:Nat}{s:Tx}{v:Value}{F:List Nat}(ok:fU size)(hs:s.length≤4096)(g1:gen<18446744073709551616)(g2:ser<18446744073709551616)
  (hrec:rec= {state:=.ready,pending:=none,fn,tmps,params:=#[27,28],assign:=mH,body:=lO,defers:=D}) (hsz:tmps.size=57) (t4:tmps.getD 4 undef=pT r1 0) (t5:tmps.getD 5 undef=pT r3 0) (t6:tmps.getD 6 undef=pT r5 0) (t10:tmps.getD 10 undef=pT r11 0) (t11:tmps.getD 11 undef=pT r17 0)
  (hn: [l,r1,r3,r5,r11,rm,rs,r17].Nodup) (J:SpJ h0 h l rec r1 r3 r5 r11 rm rs r17 size gen ser (dQ size s.length) s [] v F) {k:cF}
  (hk:∀h' v' F' t,SpJ h0 h' l rec r1 r3 r5 r11 rm rs r17 size gen ser (dQ size s.length) t (fV size gen ser s) v' F'->k (.tuple #[]) h'):
  bT PG aCH #[aGJ l,pT rm 0,pT rs 0] h k:=by
 have h64:=ok.1;have h512:=ok.2;have h106:=aIC (n:=s.length) ok;have hp1:=uJ (n:=s.length) ok hs;obtain⟨⟨nl1,nl3,nl5,nl11,nlm,nls,nl17⟩,⟨m0,m1,m3,m5,m11,mm,ms⟩,⟨s0,s1,s3,s5,s11,sm,s17⟩⟩:=nd8 hn;apply aEe.call;unfold aEe;refine⟨λvs h'=>∃(i:Nat) (v':Value) (F':List Nat),i<dQ size s.length∧vs=[aGJ l,pT rm 0,pT rs 0,.int .i64 (i:Int)]∧SpJ h0 h' l rec r1 r3 r5 r11 rm rs r17 size gen ser (dQ size s.length) (s.drop (i*(size-25))) ((fV size gen ser s).take i) v' F',fN 200 3,⟨0,v,F,by omega,rfl,by simpa using J⟩,?_⟩;rintro ρ h' ⟨i,v',F',hi,hvs,J'⟩;simp only[hY,iZ,kP,and_true] at hvs;obtain⟨x0,x1,x2,x4⟩:=hvs;unfold aH6;rw[x0,x1,x2,x4];obtain⟨pl1,pl2,pl3,pl4⟩:=aF7 ok hs hi;have hmin:(if ((s.drop (i*(size-25))).length:Int)<((size-25:Nat):Int) then((s.drop (i*(size-25))).length:Int) else((size-25:Nat):Int))=(((jA (size-25) s i).length:Nat):Int):=by
  unfold jA;rw[mN];split<;>omega
 have hle:(jA (size-25) s i).length≤(s.drop (i*(size-25))).length:=by
  unfold jA;rw[mN];omega
 have c:cC PG (Instr.sliceAt aT (.string (tx (s.drop (i*(size-25))))) none (some (.int .i64 (((jA (size-25) s i).length:Nat):Int))) none)=some (.string (tx (jA (size-25) s i))):=by
  have:=kL (P:=PG) (t:=aT) (l:=s.drop (i*(size-25))) (i:=0) (j:=(jA (size-25) s i).length) (lo:=none) (hi:=some (.int .i64 (((jA (size-25) s i).length:Nat):Int))) aT.und (.inl ⟨rfl,rfl⟩) (.inr ⟨_,rfl⟩) (by omega) hle;rw[this,zLb];congr 3;unfold jA;rw[mN,Nat.min_comm];by_cases q:(s.drop (i*(size-25))).length≤size-25
  ·rw[aFU q,zLJ,qX q]
  ·rw[Nat.min_eq_right (by omega)]
 simp only[aR.load,aT.load,gJ J'.bm,gJ J'.bs,iO,aMk,hmin,c,cB,reduceIte,cJ,Nat.reduceAdd];refine aUA ok g1 g2 hrec hsz t4 t5 t6 t10 t11 hn J' (i:=i) (p:=jA (size-25) s i) (by omega) (by omega) pl1 (by rw[mN];omega) λh2 v2 F2 J2=>?_;have et:(fV size gen ser s).take i++[nR size gen ser i (dQ size s.length) (jA (size-25) s i)]=(fV size gen ser s).take (i+1):=by
  rw[zLR];have:(fV size gen ser s)[i]? =some (nR size gen ser i (dQ size s.length) (jA (size-25) s i)):=by
   unfold fV;rw[wW,List.getElem?_range hi];rfl
  rw[this];rfl
 rw[et] at J2;have hdl:(s.drop (i*(size-25))).length=s.length-i*(size-25):=jC;have epl:(jA (size-25) s i).length=min (size-25) (s.length-i*(size-25)):=by
  unfold jA;rw[mN,hdl]
 have hm:(i+1)*(size-25)=i*(size-25)+(size-25):=Nat.succ_mul _ _;by_cases cl:i+1=dQ size s.length
 ·have q:((((jA (size-25) s i).length:Nat):Int)==((s.drop (i*(size-25))).length:Int))=true:=by
   have:=(aCs ok hs cl).1;rw[beq_iff_eq];omega
  simp only[aT.load,gJ J2.bs,iO,fO,q,cB,reduceIte,cJ,Nat.reduceAdd];rw[cl,qX (by rw[jS];exact mG _)] at J2;exact hk h2 v2 F2 _ J2
 ·have h3:=aC0 (k:=i) ok hs (by omega);have q:((((jA (size-25) s i).length:Nat):Int)==((s.drop (i*(size-25))).length:Int))=false:=by
   rw[beq_eq_false_iff_ne];omega
  have ep:(jA (size-25) s i).length=size-25:=by omega
  have gi:=nP (i:=i) (by omega);have c2:cC PG (Instr.sliceAt aT (.string (tx (s.drop (i*(size-25))))) (some (.int .i64 (((jA (size-25) s i).length:Nat):Int))) none none)=some (.string (tx (s.drop ((i+1)*(size-25))))):=by
   have:=kL (P:=PG) (t:=aT) (l:=s.drop (i*(size-25))) (i:=(jA (size-25) s i).length) (j:=(s.drop (i*(size-25))).length) (lo:=some (.int .i64 (((jA (size-25) s i).length:Nat):Int))) (hi:=none) aT.und (.inr ⟨_,rfl⟩) (.inl ⟨rfl,rfl⟩) hle (mG _);rw[this,zLJ,pR,ep,hm]
  simp only[aT.load,gJ J2.bs,iO,fO,q,c2,cB,reduceIte,cJ,Nat.reduceAdd];refine aT.put J2.bs (o:=0) (by show 0<1;decide) rfl λh3 B3 u3=>?_;have B3:Bx h3 rs [.string (tx (s.drop ((i+1)*(size-25))))]:=B3;simp only[gi,cB,reduceIte,cJ,Nat.reduceAdd];refine⟨⟨i+1,v2,F2,by omega,rfl,⟨u3.get J2.loop s0,J2.b1.upd u3 s1,J2.b3.upd u3 s3,J2.b5.upd u3 s5,J2.b11.upd u3 s11,J2.bm.upd u3 sm,B3,J2.b17.upd u3 s17,J2.own.upd u3 (λb hb hm=>by
   simp only[iL] at hm;exact J2.apart b hb (by simp[hm])),J2.fresh,J2.apart,J2.ext.fresh u3 (dZ.one J2.fs),J2.fl,J2.f17,J2.fs⟩⟩,by simp[fN,x4];omega⟩
def aOg{h:PH}(size gen ser:Nat)(s:Tx)(ok:fU size)(g1:gen<18446744073709551616)(g2:ser<18446744073709551616)(hl:s.length≤1000000){k:cF}
  (hk:∀h' v F,eJ h' aT 1 v ((fV size gen ser s).map jJ) F->dZ h F->cZ h h'->k (.tuple #[v,.int .i64 (if dQ size s.length=0 then 1 else 0)]) h'):bT PG aC4 #[.int .i64 (size:Int),.int .u64 (gen:Int),.int .u64 (ser:Int),.string (tx s)] h k:=by
 have h64:=ok.1;have h512:=ok.2;apply wR.call;unfold wR;intro r1 hr1
 try rw[cO]
 have u1:cZ h (h.set r1 (.cells (Value.cells (.int .i64 (size:Int))) aR)):=cT.new hr1;have B1:Bx (h.set r1 (.cells (Value.cells (.int .i64 (size:Int))) aR)) r1 [.int .i64 (size:Int)]:=Bx.new;generalize h.set r1 (.cells (Value.cells (.int .i64 (size:Int))) aR)=h1 at *;intro r3 hr3
 try rw[cO]
 have u3:cZ h1 (h1.set r3 (.cells (Value.cells (.int .u64 (gen:Int))) cI)):=cT.new hr3;have B3:Bx (h1.set r3 (.cells (Value.cells (.int .u64 (gen:Int))) cI)) r3 [.int .u64 (gen:Int)]:=Bx.new;generalize h1.set r3 (.cells (Value.cells (.int .u64 (gen:Int))) cI)=h3 at *;intro r5 hr5
 try rw[cO]
 have u5:cZ h3 (h3.set r5 (.cells (Value.cells (.int .u64 (ser:Int))) cI)):=cT.new hr5;have B5:Bx (h3.set r5 (.cells (Value.cells (.int .u64 (ser:Int))) cI)) r5 [.int .u64 (ser:Int)]:=Bx.new;generalize h3.set r5 (.cells (Value.cells (.int .u64 (ser:Int))) cI)=h5 at *;have e5:=(u1.trans u3).trans u5;have C1:=(B1.ext u3).ext u5;have C3:=B3.ext u5;simp only[aR.load,gJ C1,iO,cB,reduceIte,cJ,Nat.reduceAdd];refine aHj size s.length (by omega) ?_;intro r11 hr11
 try rw[cO]
 refine aR.fill hr11 rfl λh11 B11 u11=>?_;have e11:=e5.trans u11;by_cases c0:dQ size s.length=0
 ·have q0:(((dQ size s.length:Nat):Int)==0)=true:=by simp[c0]
  simp only[aR.load,gJ B11,fO,q0,cB,reduceIte,cJ,Nat.reduceAdd];have:=hk h11 (.slice none 0 0) [] (by
   have:fV size gen ser s=[]:=by unfold fV;rw[c0];rfl
   rw[this];exact eJ.nil) (λb hb=>by cases hb) e11
  rw[if_pos c0] at this;exact this
 ·have q0:(((dQ size s.length:Nat):Int)==0)=false:=by rw[beq_eq_false_iff_ne];omega
  have hs:s.length≤4096:=by
   have:=(aBZ (n:=s.length) ok).2;omega
  simp only[aR.load,gJ B11,fO,q0,cB,reduceIte,cJ,Nat.reduceAdd];intro r17 hr17
  try rw[cO]
  have B17:=cU.zbox (h:=h11) (r:=r17);have u17:cZ h11 (h11.set r17 (.cells (dF PG cU) cU)):=cT.new hr17;generalize h11.set r17 (.cells (dF PG cU) cU)=h17 at *;have B17:Bx h17 r17 [.slice none 0 0]:=B17;have D1:=(C1.ext u11).ext u17;have D3:=(C3.ext u11).ext u17;have D5:=(B5.ext u11).ext u17;have D11:=B11.ext u17;have e17:=e11.trans u17;have w1:IntKind.i64.wrap ((size:Int)-25)=((size-25:Nat):Int):=by rw[eI (by omega) (by omega)];omega
  simp only[aR.load,gJ D1,w1,cB,reduceIte,cJ,Nat.reduceAdd];apply aGy.call;unfold aGy;intro rs hrs
  try rw[cO]
  have us:cZ h17 (h17.set rs (.cells (Value.cells (.string (tx s))) aT)):=cT.new hrs;have Bs:Bx (h17.set rs (.cells (Value.cells (.string (tx s))) aT)) rs [.string (tx s)]:=Bx.new;generalize h17.set rs (.cells (Value.cells (.string (tx s))) aT)=h18 at *;intro rm hrm
  try rw[cO]
  have um:cZ h18 (h18.set rm (.cells (Value.cells (.int .i64 ((size-25:Nat):Int))) aR)):=cT.new hrm;have Bm:Bx (h18.set rm (.cells (Value.cells (.int .i64 ((size-25:Nat):Int))) aR)) rm [.int .i64 ((size-25:Nat):Int)]:=Bx.new;have Bs2:=Bs.ext um;generalize h18.set rm (.cells (Value.cells (.int .i64 ((size-25:Nat):Int))) aR)=h19 at *;have usm:=us.trans um;have e19:=e17.trans usm;simp only[aDM,cB,reduceIte,cJ,Nat.reduceAdd];unfold aDO;refine⟨by kernel_rfl,?_⟩;intro fn tmps l D hv hsz hl0;have t4:tmps.getD 4 undef=pT r1 0:=hv (4,_) (by simp);have t5:tmps.getD 5 undef=pT r3 0:=hv (5,_) (by simp);have t6:tmps.getD 6 undef=pT r5 0:=hv (6,_) (by simp);have t10:tmps.getD 10 undef=pT r11 0:=hv (10,_) (by simp);have t11:tmps.getD 11 undef=pT r17 0:=hv (11,_) (by simp);have ul:cZ h19 (h19.set l (.loop {state:=.ready,pending:=none,fn,tmps,params:=#[27,28],assign:=mH,body:=lO,defers:=D})):=cT.new hl0;have bl:(h19.set l (.loop {state:=.ready,pending:=none,fn,tmps,params:=#[27,28],assign:=mH,body:=lO,defers:=D})) l=some (.loop {state:=.ready,pending:=none,fn,tmps,params:=#[27,28],assign:=mH,body:=lO,defers:=D}):=eD;obtain⟨rec,hrec⟩:∃rec:Loop,rec= {state:=.ready,pending:=none,fn,tmps,params:=#[27,28],assign:=mH,body:=lO,defers:=D}:=⟨_,rfl⟩;rw[←hrec] at ul bl ⊢;generalize h19.set l (.loop rec)=h20 at *;have e20:=e19.trans ul;have fresh_l:h l=none:=e19.none hl0;have f17:h r17=none:=e11.none hr17;have fs:h rs=none:=e17.none hrs;have n: [l,r1,r3,r5,r11,rm,rs,r17].Nodup:=by
   have a1:r1≠r3:=B1.apart hr3;have a2:r1≠r5:=(B1.ext u3).apart hr5;have a3:r3≠r5:=B3.apart hr5;have a4:r1≠r11:=C1.apart hr11;have a5:r3≠r11:=C3.apart hr11;have a6:r5≠r11:=B5.apart hr11;have a7:r1≠r17:=(C1.ext u11).apart hr17;have a8:r3≠r17:=(C3.ext u11).apart hr17;have a9:r5≠r17:=(B5.ext u11).apart hr17;have a10:r11≠r17:=B11.apart hr17;have b1:r1≠rs:=D1.apart hrs;have b2:r3≠rs:=D3.apart hrs;have b3:r5≠rs:=D5.apart hrs;have b4:r11≠rs:=D11.apart hrs;have b5:r17≠rs:=B17.apart hrs;have c1:r1≠rm:=(D1.ext us).apart hrm;have c2:r3≠rm:=(D3.ext us).apart hrm;have c3:r5≠rm:=(D5.ext us).apart hrm;have c4:r11≠rm:=(D11.ext us).apart hrm;have c5:r17≠rm:=(B17.ext us).apart hrm;have c6:rs≠rm:=Bs.apart hrm;have d1:r1≠l:=(D1.ext usm).apart hl0;have d2:r3≠l:=(D3.ext usm).apart hl0;have d3:r5≠l:=(D5.ext usm).apart hl0;have d4:r11≠l:=(D11.ext usm).apart hl0;have d5:r17≠l:=(B17.ext usm).apart hl0;have d6:rs≠l:=Bs2.apart hl0;have d7:rm≠l:=Bm.apart hl0;simp only[aFb,iR,zLg,or_false,not_or,List.nodup_nil,and_true];exact⟨⟨d1.symm,d2.symm,d3.symm,d4.symm,d7.symm,d6.symm,d5.symm⟩,⟨a1,a2,a4,c1,b1,a7⟩,⟨a3,a5,c2,b2,a8⟩,⟨a6,c3,b3,a9⟩,⟨c4,b4,a10⟩,⟨c6.symm,c5.symm⟩,b5.symm,not_false⟩
  have um2:=usm.trans ul;show bT PG aCH #[aGJ l,pT rm 0,pT rs 0] h20 _;refine aU6 ok hs g1 g2 hrec hsz t4 t5 t6 t10 t11 n ⟨bl,D1.ext um2,D3.ext um2,D5.ext um2,D11.ext um2,Bm.ext ul,Bs2.ext ul,B17.ext um2,eJ.nil,(λb hb=>by cases hb),(λb hb=>by cases hb),e20,fresh_l,f17,fs⟩ λh21 v' F' t J=>?_;refine aLq J.loop (by rw[hrec];exact .inl rfl) ?_;have ep:rec.pending=none:=by rw[hrec]
  have hn':=(nd8 n).1.2.2.2.2.2.2;have u22:cT [l] h21 (h21.set l (.loop {rec with state:=.exhausted})):=cT.set (by simp);generalize h21.set l (.loop {rec with state:=.exhausted})=h22 at *;rw[ep];show bY _ _;have B22:=J.b17.upd u22 hn';simp only[cU.load,gJ B22,cB,reduceIte,cJ,Nat.reduceAdd];have:=hk h22 v' F' (J.own.upd u22 (λb hb hm=>by
   simp only[iL] at hm;exact J.apart b hb (by simp[hm]))) J.fresh (J.ext.fresh u22 (dZ.one fresh_l))
  rw[if_neg c0] at this;exact this
def uC(w:Nat×Tx):List Value:=[.int .i64 (w.1:Int),.string (tx w.2)]
def uC.isC(w:Nat×Tx):∀v∈uC w,fI v=true:=by simp[uC,fI]
structure oD(a:Nat)(d:Dk)(h:PH)(F:List Nat):Prop where
 here:∃sv bv Fs Fb,F=a::(Fs++Fb)∧Bx h a [.int .i64 (d.size:Int),.int .i64 (d.sectors:Int),sv,bv,.int .i64 (d.arm:Int)]∧eJ h aT 1 sv (d.st.map jJ) Fs∧eJ h eR 2 bv (d.buf.map uC) Fb∧a∉Fs∧a∉Fb∧∀b∈Fs,b∉Fb
 ok:d.Ok
 arm:d.arm<9223372036854775808
def oD.known{a:Nat}{d:Dk}{h:PH}{F:List Nat}(H:oD a d h F):∀b∈F,h b≠none:=by
 obtain⟨sv,bv,Fs,Fb,rfl,B,S,W,-⟩:=H.here;intro b hb;simp only[iR,xN] at hb;rcases hb with rfl|hb|hb
 ·exact B.known
 ·exact S.known b hb
 ·exact W.known b hb
def oD.upd{a:Nat}{d:Dk}{h h':PH}{F K:List Nat}(H:oD a d h F)(u:cT K h h')(hK:∀b∈F,b∉K):oD a d h' F:=by
 obtain⟨sv,bv,Fs,Fb,rfl,B,S,W,n1,n2,n3⟩:=H.here;exact⟨⟨sv,bv,Fs,Fb,rfl,B.upd u (hK a (by simp)),S.upd u (λb hb=>hK b (by simp[hb])),W.upd u (λb hb=>hK b (by simp[hb])),n1,n2,n3⟩,H.ok,H.arm⟩
def oD.good(a:Nat)(d:Dk):aHM (oD a d):=⟨λH=>H.known,λH u hK=>H.upd u hK⟩
def oD.ext{a:Nat}{d:Dk}{h h':PH}{F:List Nat}(H:oD a d h F)(u:cZ h h'):oD a d h' F:=(oD.good a d).ext H u
def aQA{h:PH}{v:Value}{rows:List (List Value)}{F:List Nat}(O:eJ h aT 1 v rows F){i:Nat}(hi:i<rows.length){x:Value}(hx:fI x=true):
  ∃b o,cC PG (indexAt cU v (.int .i64 (i:Int)))=some (pT b o)∧∀{k:cF},(∀h',eJ h' aT 1 v (rows.set i [x]) F->cT F h h'->k undef h')->cM PG (cQ aT (pT b o) x) h k:=by
 have S:=O.slR;rcases O.here with⟨-,e,-⟩|⟨b,cap,cs,rfl,rfl,hb,hle,hm,hsz,ht⟩
 ·rw[e] at hi;exact absurd hi (by simp)
 ·have ea:cC PG (indexAt cU (.slice (some ⟨b,0,none⟩) rows.length cap) (.int .i64 (i:Int)))=some (pT b i):=by
   have:=aGf (P:=PG) (t:=cU) (b:=b) (o:=0) (len:=rows.length) (cap:=cap) (k:=.i64) (j:=(i:Int)) cU.und aT.info aT.size (by omega) (by omega);rw[this];simp
  refine⟨b,i,ea,λhk=>?_⟩;refine kN aT.und rfl hb (by omega) hx aT.info aT.size ?_;refine hk _ ?_ (cT.set (by simp));have hr:Rows 1 (rows.set i [x]):=λr hr=>by
   rcases List.mem_or_eq_of_mem_set hr with e|e
   ·exact O.ok r e
   ·rw[e];rfl
  have hl:(rows.set i [x]).length=rows.length:=List.length_set;have:=eJ.mk' (h:=h.set b (.cells (cs.setIfInBounds i x) aT (0,0))) (e:=aT) (b:=b) (cap:=cap) (size:=1) (cs:=cs.setIfInBounds i x) hr eD (by omega) hm (by simpa using hsz) (by
   rw[hl,Nat.mul_one,Array.toList_setIfInBounds];rw[Nat.mul_one] at ht;have fl1:∀{l:List (List Value)},Rows 1 l->∀j:Nat,l.flatten[j]? =(l[j]?).bind (λr:List Value=>r[0]?):=by
    intro l hl;induction l with
    | nil=>intro j;rfl
    | cons y l ih=>
     intro j;have hy:=hl y (by simp);obtain⟨z,rfl⟩:∃z,y=[z]:=by
      cases y with
      | nil=>cases hy
      | cons z t=>cases t with
       | nil=>exact⟨z,rfl⟩
       | cons _ _=>simp at hy
     have ih:=ih (λr hr=>hl r (by simp[hr]));cases j with
     | zero=>rfl
     | succ j=>
      show l.flatten[j]? =_;rw[ih j];rfl
   apply aLS;intro j;rw[fl1 hr,aET,List.getElem?_set,List.getElem?_set];have htj:(cs.toList.take rows.length)[j]? =rows.flatten[j]?:=by rw[ht]
   rw[fl1 O.ok,aET] at htj;have hcl:cs.toList.length=cs.size:=by simp
   by_cases c:i=j
   ·subst c;rw[if_pos hi,if_pos rfl,if_pos rfl,if_pos hi,if_pos (by rw[hcl];omega)];rfl
   ·rw[if_neg c,if_neg c];exact htj)
  rw[hl] at this;exact this
def aEY(d:Dk):Value:=.agg #[.int .i64 (d.size:Int),.int .i64 (d.sectors:Int)]
def aEH{h:PH}(d:Dk){k:cF}(hk:∀h',cZ h h'->k (.int .i64 (d.size:Int)) h'):bT PG kA #[aEY d] h k:=by
 apply yW.call;unfold yW;intro r1 hr1
 try rw[cO]
 have u1:cZ h (h.set r1 (.cells (Value.cells (aEY d)) eA)):=cT.new hr1;have B1:Bx (h.set r1 (.cells (Value.cells (aEY d)) eA)) r1 [.int .i64 (d.size:Int),.int .i64 (d.sectors:Int)]:=Bx.new;generalize h.set r1 (.cells (Value.cells (aEY d)) eA)=h1 at *;have c0:cX h1 ⟨r1,0,none⟩=some (.int .i64 (d.size:Int)):=B1.cell 0;simp only[eA.f0,aR.load,c0,cB,reduceIte,cJ,Nat.reduceAdd];exact hk h1 u1
def aMM{h:PH}(d:Dk){k:cF}(hk:∀h',cZ h h'->k (.int .i64 (d.sectors:Int)) h'):bT PG sD #[aEY d] h k:=by
 apply vG.call;unfold vG;intro r1 hr1
 try rw[cO]
 have u1:cZ h (h.set r1 (.cells (Value.cells (aEY d)) eA)):=cT.new hr1;have B1:Bx (h.set r1 (.cells (Value.cells (aEY d)) eA)) r1 [.int .i64 (d.size:Int),.int .i64 (d.sectors:Int)]:=Bx.new;generalize h.set r1 (.cells (Value.cells (aEY d)) eA)=h1 at *;have c0:cX h1 ⟨r1,0+1,none⟩=some (.int .i64 (d.sectors:Int)):=B1.cell 1;simp only[eA.f1,aR.load,c0,cB,reduceIte,cJ,Nat.reduceAdd];exact hk h1 u1
def aPN{h:PH}(d:Dk)(n:Int){k:cF}(hk:∀h',cZ h h'->k (.bool (decide (0≤n∧n<(d.sectors:Int)))) h'):bT PG tS #[aEY d,.int .i64 n] h k:=by
 apply yH.call;unfold yH;intro r1 hr1
 try rw[cO]
 have u1:cZ h (h.set r1 (.cells (Value.cells (aEY d)) eA)):=cT.new hr1;have B1:Bx (h.set r1 (.cells (Value.cells (aEY d)) eA)) r1 [.int .i64 (d.size:Int),.int .i64 (d.sectors:Int)]:=Bx.new;generalize h.set r1 (.cells (Value.cells (aEY d)) eA)=h1 at *;have c0:cX h1 ⟨r1,0+1,none⟩=some (.int .i64 (d.sectors:Int)):=B1.cell 1;have hk:=hk h1 u1;by_cases c:0≤n
 ·have g:((0:Int)≤n)=True:=eq_true c;have e:decide (n<(d.sectors:Int))=decide (0≤n∧n<(d.sectors:Int)):=by
   rw[xQ,decide_eq_true_iff,decide_eq_true_iff];exact⟨λh=>⟨c,h⟩,λh=>h.2⟩
  simp only[g,eA.f1,aR.load,c0,cB,reduceIte,cJ,Nat.reduceAdd];rw[e];exact hk
 ·have g:((0:Int)≤n)=False:=eq_false c;have e:decide (0≤n∧n<(d.sectors:Int))=false:=decide_eq_false (λh=>c h.1);rw[e] at hk;simp only[g,cB,reduceIte,cJ,Nat.reduceAdd];exact hk
structure DkB(a:Nat)(d:Dk)(h:PH)(sv bv:Value):Prop where
 geo:cD PG h (loadAt eA (pT a 0))=some (aEY d)
 size:cX h ⟨a,0,none⟩=some (.int .i64 (d.size:Int))
 st:cX h ⟨a,0+2,none⟩=some sv
 buf:cX h ⟨a,0+3,none⟩=some bv
 arm:cX h ⟨a,0+4,none⟩=some (.int .i64 (d.arm:Int))
def DkB.of{a:Nat}{d:Dk}{h:PH}{sv bv:Value}(B:Bx h a [.int .i64 (d.size:Int),.int .i64 (d.sectors:Int),sv,bv,.int .i64 (d.arm:Int)]):DkB a d h sv bv:=⟨eA.agg B (by show 0+2≤5;decide),B.cell 0,B.cell 2,B.cell 3,B.cell 4⟩
def aPC{h:PH}{a:Nat}{d:Dk}{F:List Nat}(D:oD a d h F){k:cF}(hk:∀h',oD a d.tick h' F->cT F h h'->k (.bool (decide (d.arm=1))) h'):bT PG yY #[pT a 0] h k:=by
 apply aCJ.call;unfold aCJ;have ha:=D.arm;obtain⟨sv,bv,Fs,Fb,rfl,B,S,W,n1,n2,n3⟩:=D.here;have L:=DkB.of B;by_cases c:d.arm=0
 ·have q:((d.arm:Int)==0)=true:=by simp[c]
  have e:decide (d.arm=1)=false:=by rw[c];rfl
  have et:d.tick=d:=by
   unfold Dk.tick;rw[c];obtain⟨x1,x2,x3,x4,x5⟩:=d;simp only at c;subst c;rfl
  rw[e,et] at hk;simp only[eB.f3,aR.load,L.arm,fO,q,cB,reduceIte,cJ,Nat.reduceAdd];exact hk h D cT.refl
 ·have q:((d.arm:Int)==0)=false:=by rw[beq_eq_false_iff_ne];omega
  have w:IntKind.i64.wrap ((d.arm:Int)-1)=((d.arm-1:Nat):Int):=by rw[eI (by omega) (by omega)];omega
  simp only[eB.f3,aR.load,L.arm,fO,q,w,cB,reduceIte,cJ,Nat.reduceAdd];refine aR.put B (o:=4) (by show 4<5;decide) rfl λh2 B2 u2=>?_;have B2:Bx h2 a [.int .i64 (d.tick.size:Int),.int .i64 (d.tick.sectors:Int),sv,bv,.int .i64 (d.tick.arm:Int)]:=B2;have L2:=DkB.of B2;have e:(((d.arm-1:Nat):Int)==0)=decide (d.arm=1):=by
   rw[xQ,beq_iff_eq,decide_eq_true_iff];omega
  have c4:cX h2 ⟨a,0+4,none⟩=some (.int .i64 ((d.arm-1:Nat):Int)):=B2.cell 4;simp only[eB.f3,aR.load,c4,fO,e,cB,reduceIte,cJ,Nat.reduceAdd];refine hk h2 ⟨⟨sv,bv,Fs,Fb,rfl,B2,S.upd u2 (λb hb hm=>?_),W.upd u2 (λb hb hm=>?_),n1,n2,n3⟩,D.ok.tick,by show d.arm-1<_;omega⟩ (u2.mono λb hb=>.inl (by simp only[iL] at hb;simp[hb]))
  ·simp only[iL] at hm;exact n1 (hm▸hb)
  ·simp only[iL] at hm;exact n2 (hm▸hb)
def aXf(n:Int)(s:ByteArray):cC PG (build eR #[(0,.int .i64 n),(1,.string s)])=some (.agg #[.int .i64 n,.string s]):=by kernel_rfl
def aXb(n:Int)(s:ByteArray):jX PG (buildSlice eZ 1 #[(0,.agg #[.int .i64 n,.string s])])=some (.cells #[.int .i64 n,.string s] eR,λr=>pure (.slice (some ⟨r,0,none⟩) 1 1)):=by kernel_rfl
def aSi{h:PH}{a:Nat}{d:Dk}{F:List Nat}(D:oD a d h F)(n:Int)(s:Tx)(hb:d.buf.length≤1000000){k:cF}(hk:∀h' F',oD a (d.wr n s).1 h' F'->eN h F h' F'->k (.int .i64 (d.wr n s).2) h'):bT PG aCY #[pT a 0,.int .i64 n,.string (tx s)] h k:=by
 apply aCD.call;unfold aCD;obtain⟨sv,bv,Fs,Fb,eF,B,S,W,n1,n2,n3⟩:=id D.here;have L:=DkB.of B;have hok:=D.ok.wr n s;unfold Dk.wr at hk hok;simp only[eB.f0,L.geo,cB,reduceIte,cJ,Nat.reduceAdd];refine aPN d n λh1 u1=>?_;have D1:=D.ext u1;have L1:=DkB.of (B.ext u1);by_cases c1:0≤n∧n<(d.sectors:Int)
 ·by_cases c2:s.length=d.size
  ·have q2:((s.length:Int) !=(d.size:Int))=false:=by simp[c2]
   rw[if_neg (by omega)] at hk hok;simp only[c1,decide_true,and_self,iO,eB.f0,eA.f0,aR.load,L1.size,dY,q2,cB,reduceIte,cJ,Nat.reduceAdd];refine aPC D1 λh2 D2 u2=>?_;have st2:eN h F h2 F:=(eN.ext u1).trans ⟨u2,λb hb=>.inl hb⟩;by_cases c3:d.arm=1
   ·rw[if_pos c3] at hk;simp only[c3,decide_true,cB,reduceIte,cJ,Nat.reduceAdd];exact hk h2 F D2 st2
   ·rw[if_neg c3] at hk hok;obtain⟨sv,bv,Fs,Fb,eF,B2,S2,W2,n1,n2,n3⟩:=D2.here;have L2:=DkB.of B2;simp only[c3,decide_false,eB.f2,eZ.load,L2.buf,aXf,aXb,cB,reduceIte,cJ,Nat.reduceAdd];intro r44 hr44;refine gY ?_
    try rw[cO]
    have Sl:hM (h2.set r44 (.cells #[.int .i64 n,.string (tx s)] eR)) 2 (.slice (some ⟨r44,0,none⟩) 1 1) [[.int .i64 n,.string (tx s)]]:=(eJ.lit (e:=eR) (size:=2) (rows:=[[.int .i64 n,.string (tx s)]]) (n:=1) (λr hr=>by simp only[iL] at hr;rw[hr];rfl) eD rfl (by decide) rfl).slR;have u3:cZ h2 (h2.set r44 (.cells #[.int .i64 n,.string (tx s)] eR)):=cT.new hr44;generalize h2.set r44 (.cells #[.int .i64 n,.string (tx s)] eR)=h3 at *;have bl:(d.tick.buf.map uC).length=d.buf.length:=by rw[iF];rfl
    refine lL eZ.und eZ.und eR.info eR.size eR.bytes eR.zero rfl (by decide) (W2.ext u3) Sl (by simp[fI]) (by rw[bl];simp only[iP,kI];omega) ?_;intro v4 h4 F4 O4 u4 g4 _;have B4:=(B2.ext u3).upd u4 n2;have en:n=((n.toNat:Nat):Int):=by omega
    have O4:eJ h4 eR 2 v4 ((d.buf++[(n.toNat,s)]).map uC) F4:=by
     rw[wB];have:uC (n.toNat,s)=[.int .i64 n,.string (tx s)]:=by unfold uC;simp only;rw[←en]
     rw[hY,iZ,this];exact O4
    have S4:=(S2.ext u3).upd u4 n3;have k3:∀b,h2 b≠none->h3 b≠none:=λb hb=>by
     cases e:h2 b with
     | none=>exact absurd e hb
     | some o=>rw[u3.get e];simp
    have na4:a∉F4:=λhm=>by
     rcases g4 a hm with e|e
     ·exact n2 e
     ·exact k3 a B2.known e
    have ns4:∀b∈Fs,b∉F4:=λb hb hm=>by
     rcases g4 b hm with e|e
     ·exact n3 b hb e
     ·exact k3 b (S2.known b hb) e
    refine eZ.put B4 (o:=3) (by show 3<5;decide) O4.slR.isc λh5 B5 u5=>?_;have B5:Bx h5 a [.int .i64 (d.size:Int),.int .i64 (d.sectors:Int),sv,v4,.int .i64 ((d.arm-1:Nat):Int)]:=B5;have ha:=D.arm;refine hk h5 (a::(Fs++F4)) ⟨⟨sv,v4,Fs,F4,rfl,B5,S4.upd u5 (λb hb hm=>?_),O4.upd u5 (λb hb hm=>?_),n1,na4,ns4⟩,hok,by show d.arm-1<_;omega⟩ (st2.trans ⟨?_,?_⟩)
    ·simp only[iL] at hm;exact n1 (hm▸hb)
    ·simp only[iL] at hm;exact na4 (hm▸hb)
    ·rw[eF];intro b o hbo hnm;simp only[iR,xN,not_or] at hnm;exact u5.get (u4.get (u3.get hbo) hnm.2.2) (by simp only[iL];exact hnm.1)
    ·intro b hb;rw[eF];simp only[iR,xN] at hb ⊢;rcases hb with rfl|hb|hb
     ·exact .inl (.inl rfl)
     ·exact .inl (.inr (.inl hb))
     ·rcases g4 b hb with e|e
      ·exact .inl (.inr (.inr e))
      ·right;cases e2:h2 b with
       | none=>rfl
       | some o=>rw[u3.get e2] at e;cases e
  ·have q2:((s.length:Int) !=(d.size:Int))=true:=by rw[bne_iff_ne];omega
   rw[if_pos (by omega)] at hk;simp only[c1,decide_true,and_self,iO,eB.f0,eA.f0,aR.load,L1.size,dY,q2,cB,reduceIte,cJ,Nat.reduceAdd];exact hk h1 F D1 (eN.ext u1)
 ·rw[if_pos (by omega)] at hk;simp only[c1,decide_false,cB,reduceIte,cJ,Nat.reduceAdd];exact hk h1 F D1 (eN.ext u1)
def aUm{h:PH}{v:Value}{l:List (Nat×Tx)}(S:hM h 2 v (l.map uC)){i:Nat}{w:Nat×Tx}(hx:l[i]? =some w):∃a,cC PG (indexAt eZ v (.int .i64 (i:Int)))=some (.pointer (some a))∧cD PG h (loadAt eR (.pointer (some a)))=some (.agg (uC w).toArray):=
 S.loadAgg (t:=eZ) (k:=.i64) (j:=(i:Int)) eZ.und eR.info eR.size eR.und rfl (by omega) (by rw[wY,wW,hx];rfl)
def aOy{h:PH}{v:Value}{l:List (Nat×Tx)}(S:hM h 2 v (l.map uC)):cC PG (Builtin.len_ #[eZ] aR #[v])=some (.int .i64 l.length):=by
 have:=S.len (t':=aR) eZ.und;rw[iF] at this;exact this
def aIa{st:List Tx}{l:List (Nat×Tx)}{i:Nat}{w:Nat×Tx}(hx:l[i]? =some w):lP st (l.take (i+1))=(lP st (l.take i)).set w.1 w.2:=by
 rw[zLR,hx];exact aIY _ _ _
def aNU(l:List Tx)(i:Nat)(x:Tx):(l.map jJ).set i [.string (tx x)]=(l.set i x).map jJ:=by rw[List.map_set];rfl
def aO9{h:PH}{a:Nat}{d:Dk}{F:List Nat}(D:oD a d h F)(hb:d.buf.length≤1000000){k:cF}(hk:∀h' F',oD a d.fl.1 h' F'->eN h F h' F'->k (.int .i64 d.fl.2) h'):bT PG zH #[pT a 0] h k:=by
 apply uV.call;unfold uV;have hok:=D.ok.fl;unfold Dk.fl at hk hok;refine aPC D λh1 D1 u1=>?_;have st1:eN h F h1 F:=⟨u1,λb hb=>.inl hb⟩;by_cases c:d.arm=1
 ·rw[if_pos c] at hk;simp only[c,decide_true,cB,reduceIte,cJ,Nat.reduceAdd];exact hk h1 F D1 st1
 ·rw[if_neg c] at hk hok;obtain⟨sv,bv,Fs,Fb,eF,B,S,W,n1,n2,n3⟩:=D1.here;have L:=DkB.of B;have B:Bx h1 a [.int .i64 (d.size:Int),.int .i64 (d.sectors:Int),sv,bv,.int .i64 ((d.arm-1:Nat):Int)]:=B;have S:eJ h1 aT 1 sv (d.st.map jJ) Fs:=S;have W:eJ h1 eR 2 bv (d.buf.map uC) Fb:=W;simp only[c,decide_false,eB.f2,eZ.load,L.buf,aOy W.slR,cB,reduceIte,cJ,Nat.reduceAdd];refine⟨λvs h'=>∃i:Nat,i≤d.buf.length∧vs=[pT a 0,bv,.int .i64 (d.buf.length:Int),.int .i64 (i:Int)]∧eJ h' aT 1 sv ((lP d.st (d.buf.take i)).map jJ) Fs∧cT Fs h1 h',fN d.buf.length 3,⟨0,by omega,rfl,S,cT.refl⟩,?_⟩;rintro ρ h' ⟨i,hi,hvs,S2,w⟩;simp only[hY,iZ,kP,and_true] at hvs;obtain⟨x0,x10,x11,x12⟩:=hvs;unfold aF3;rw[x0,x10,x11,x12];have B2:=B.upd w n1;have W2:=W.upd w (λb hb hm=>n3 b hm hb);by_cases hlt:i<d.buf.length
  ·have g:((i:Int)<(d.buf.length:Int))=True:=eq_true (by omega);have gi:=nP (i:=i) (by omega);obtain⟨x,hx⟩:∃x,d.buf[i]? =some x:=⟨_,kO hlt⟩;have hxb:=D.ok.buf x (wP hx);obtain⟨p,i1,i2⟩:=aUm W2.slR hx;simp only[g,i1,i2,cB,reduceIte,cJ,Nat.reduceAdd];intro r12 hr12
   try rw[cO]
   refine eR.fill (vs:=uC x) hr12 rfl (uC.isC x) λh3 B3 u3=>?_;have c0:cX h3 ⟨r12,0,none⟩=some (.int .i64 (x.1:Int)):=B3.cell 0;have c1:cX h3 ⟨r12,0+1,none⟩=some (.string (tx x.2)):=B3.cell 1;have cs:cX h3 ⟨a,0+2,none⟩=some sv:=(B2.ext u3).cell 2;have hx1:x.1<((lP d.st (d.buf.take i)).map jJ).length:=by rw[iF,aAA,D.ok.len];exact hxb.1
   obtain⟨b,o,j1,j2⟩:=aQA (S2.ext u3) hx1 (x:=.string (tx x.2)) rfl;simp only[eB.f1,cU.load,cs,eR.f0,eR.f1,aR.load,aT.load,c0,c1,j1,cB,reduceIte,cJ,Nat.reduceAdd];refine j2 λh4 S4 u4=>?_;simp only[gi,cB,reduceIte,cJ,Nat.reduceAdd];refine⟨⟨i+1,by omega,rfl,?_,(w.trans u3.upd).trans u4⟩,by simp[fN,x12];omega⟩;rw[aIa hx,←aNU];exact S4
  ·have g:((i:Int)<(d.buf.length:Int))=False:=eq_false (by omega);have ei:d.buf.take i=d.buf:=qX (by omega);rw[ei] at S2;simp only[g,eB.f2,cB,reduceIte,cJ,Nat.reduceAdd];refine eZ.put B2 (o:=3) (by show 3<5;decide) rfl λh3 B3 u3=>?_;have B3:Bx h3 a [.int .i64 (d.size:Int),.int .i64 (d.sectors:Int),sv,.slice none 0 0,.int .i64 ((d.arm-1:Nat):Int)]:=B3;have ha:=D.arm;refine hk h3 (a::(Fs++[])) ⟨⟨sv,.slice none 0 0,Fs,[],rfl,B3,S2.upd u3 (λb hb hm=>?_),eJ.nil,n1,by simp,by simp⟩,hok,by show d.arm-1<_;omega⟩ (st1.trans ⟨?_,?_⟩)
   ·simp only[iL] at hm;exact n1 (hm▸hb)
   ·rw[eF];exact(w.mono λb hb=>.inl (by simp[hb])).trans (u3.mono λb hb=>.inl (by simp only[iL] at hb;simp[hb]))
   ·intro b hb;rw[eF];simp only[zLQ,iR,xN] at hb ⊢;rcases hb with rfl|hb
    ·exact .inl (.inl rfl)
    ·exact .inl (.inr (.inl hb))
def aVl{d:Dk}(H:d.Ok){n:Nat}(hn:n<d.sectors){i:Nat}{w:Nat×Tx}(hx:d.buf[i]? =some w):(lP d.st (d.buf.take (i+1))).getD n []=if w.1=n then w.2 else(lP d.st (d.buf.take i)).getD n []:=by
 rw[aIa hx,aD4,aD4,List.getElem?_set];have hl:(lP d.st (d.buf.take i)).length=d.sectors:=by rw[aAA,H.len]
 by_cases c:w.1=n
 ·rw[if_pos c,if_pos c,if_pos (by omega)];rfl
 ·rw[if_neg c,if_neg c]
def aT0{h:PH}{a:Nat}{d:Dk}{F:List Nat}(D:oD a d h F)(n:Int)(hb:d.buf.length≤1000000){k:cF}(hk:∀h',cZ h h'->k (.tuple #[.string (tx (d.rd n).1),.int .i64 (d.rd n).2]) h'):bT PG aDC #[pT a 0,.int .i64 n] h k:=by
 apply aCp.call;unfold aCp;obtain⟨sv,bv,Fs,Fb,eF,B,S,W,n1,n2,n3⟩:=id D.here;have L:=DkB.of B;unfold Dk.rd at hk;simp only[eB.f0,L.geo,cB,reduceIte,cJ,Nat.reduceAdd];refine aPN d n λh1 u1=>?_;have B1:=B.ext u1;have S1:=S.ext u1;have W1:=W.ext u1;have L1:=DkB.of B1;by_cases c1:0≤n∧n<(d.sectors:Int)
 ·rw[if_neg (by omega)] at hk;have en:n=((n.toNat:Nat):Int):=by omega
  have hn:n.toNat<d.sectors:=by omega
  obtain⟨m,hm⟩:∃m,n.toNat=m:=⟨_,rfl⟩;rw[hm] at en hn hk;obtain⟨x,hx⟩:∃x,d.st[m]? =some x:=⟨_,kO (by rw[D.ok.len];exact hn)⟩;obtain⟨p,i1,i2⟩:=aFR S1.slR hx;subst en;simp only[c1,and_self,decide_true,eB.f1,eB.f2,cU.load,eZ.load,L1.st,L1.buf,i1,i2,aOy W1.slR,cB,reduceIte,cJ,Nat.reduceAdd];refine⟨λvs h'=>∃i:Nat,i≤d.buf.length∧vs=[.int .i64 (m:Int),.string (tx ((lP d.st (d.buf.take i)).getD m [])),bv,.int .i64 (d.buf.length:Int),.int .i64 (i:Int)]∧cZ h h',fN d.buf.length 4,⟨0,by omega,?_,u1⟩,?_⟩
  ·have:(lP d.st (d.buf.take 0)).getD m []=x:=by
    rw[zLd,aD4];show(d.st[m]?).getD []=x;rw[hx];rfl
   rw[this];rfl
  rintro ρ h' ⟨i,hi,hvs,w⟩;simp only[hY,iZ,kP,and_true] at hvs;obtain⟨x1,x6,x26,x27,x28⟩:=hvs;unfold aGA;rw[x1,x6,x26,x27,x28];by_cases hlt:i<d.buf.length
  ·have g:((i:Int)<(d.buf.length:Int))=True:=eq_true (by omega);have gi:=nP (i:=i) (by omega);obtain⟨y,hy⟩:∃y,d.buf[i]? =some y:=⟨_,kO hlt⟩;obtain⟨q,j1,j2⟩:=aUm (W.ext w).slR hy;simp only[g,j1,j2,cB,reduceIte,cJ,Nat.reduceAdd];intro r21 hr21
   try rw[cO]
   refine eR.fill (vs:=uC y) hr21 rfl (uC.isC y) λh3 B3 u3=>?_;have c0:cX h3 ⟨r21,0,none⟩=some (.int .i64 (y.1:Int)):=B3.cell 0;have c1:cX h3 ⟨r21,0+1,none⟩=some (.string (tx y.2)):=B3.cell 1;have st:=aVl D.ok hn hy;by_cases c:y.1=m
   ·have q0:((y.1:Int)==(m:Int))=true:=by simp[c]
    rw[if_pos c] at st;simp only[eR.f0,eR.f1,aR.load,aT.load,c0,c1,fO,q0,aAF,aCa,gi,cB,reduceIte,cJ,Nat.reduceAdd];refine⟨⟨i+1,by omega,?_,w.trans u3⟩,by simp[fN,x28];omega⟩;rw[st]
   ·have q0:((y.1:Int)==(m:Int))=false:=by rw[beq_eq_false_iff_ne];omega
    rw[if_neg c] at st;simp only[eR.f0,aR.load,c0,fO,q0,aAF,aCa,gi,cB,reduceIte,cJ,Nat.reduceAdd];refine⟨⟨i+1,by omega,?_,w.trans u3⟩,by simp[fN,x28];omega⟩;rw[st]
  ·have g:((i:Int)<(d.buf.length:Int))=False:=eq_false (by omega);have ei:d.buf.take i=d.buf:=qX (by omega);simp only[g,ei,cB,reduceIte,cJ,Nat.reduceAdd];exact hk h' w
 ·rw[if_pos (by omega)] at hk;simp only[c1,decide_false,cB,reduceIte,cJ,Nat.reduceAdd];exact hk h1 u1
def Dk.armed(d:Dk)(n:Int):Dk:=⟨d.size,d.sectors,d.st,d.buf,n.toNat⟩
def Dk.Ok.armed{d:Dk}(H:d.Ok)(n:Int):(d.armed n).Ok:=⟨H.len,H.size,H.one,H.many,H.each,H.buf⟩
def aWq{h:PH}{a:Nat}{d:Dk}{F:List Nat}(D:oD a d h F)(n:Int)(hn:n<9223372036854775808){k:cF}(hk:∀h',oD a (d.armed n) h' F->cT F h h'->k (.tuple #[]) h'):bT PG aDv #[pT a 0,.int .i64 n] h k:=by
 apply aDe.call;unfold aDe;obtain⟨sv,bv,Fs,Fb,rfl,B,S,W,n1,n2,n3⟩:=id D.here;have em:cC PG (Builtin.max_ #[aR,aR] aR #[.int .i64 0,.int .i64 n])=some (.int .i64 ((n.toNat:Nat):Int)):=by
  have e:((n.toNat:Nat):Int)=if 0<n then n else 0:=by split<;>omega
  rw[e];exact aKZ
 simp only[em,eB.f3,cB,reduceIte,cJ,Nat.reduceAdd];refine aR.put B (o:=4) (by show 4<5;decide) rfl λh2 B2 u2=>?_;refine hk h2 ⟨⟨sv,bv,Fs,Fb,rfl,B2,S.upd u2 (λb hb hm=>?_),W.upd u2 (λb hb hm=>?_),n1,n2,n3⟩,D.ok.armed n,by show n.toNat<_;omega⟩ (u2.mono λb hb=>.inl (by simp only[iL] at hb;simp[hb]))
 ·simp only[iL] at hm;exact n1 (hm▸hb)
 ·simp only[iL] at hm;exact n2 (hm▸hb)
def aKw{h:PH}{a:Nat}{d:Dk}{F:List Nat}(D:oD a d h F){k:cF}(hk:k (.int .i64 (d.buf.length:Int)) h):bT PG uO #[pT a 0] h k:=by
 apply zZ.call;unfold zZ;obtain⟨sv,bv,Fs,Fb,rfl,B,S,W,n1,n2,n3⟩:=id D.here;have L:=DkB.of B;simp only[eB.f2,eZ.load,L.buf,aOy W.slR,cB,reduceIte,cJ,Nat.reduceAdd];exact hk
def aNx{size:Nat}{xs:List Tx}(h:∀s∈xs,s.length=size)(i:Nat)(hi:i≤xs.length):((xs.take i).flatten).length=i*size:=by
 rw[aAN (λs hs=>h s (List.mem_of_mem_take hs)),mN,aFU hi]
def aIi{xs:List Tx}{i:Nat}{x:Tx}(hx:xs[i]? =some x):(xs.take (i+1)).flatten=(xs.take i).flatten++x:=by
 rw[zLR,hx,zLG];simp
def aVk{h:PH}{v:Value}{size:Nat}{l:List Tx}(S:hM h 1 v (l.map jJ))(hx:∀s∈l,s.length=size)(h0:1≤size)(hs:l.length*size≤1000000){k:cF}(hk:∀h',cZ h h'->k (.string (tx l.flatten)) h'):bT PG aEu #[v,.string (tx [])] h k:=by
 apply aA0.call;unfold aA0;have hll:l.length*1≤l.length*size:=Nat.mul_le_mul_left _ h0;by_cases c0:l.length=0
 ·have q0:((l.length:Int)==0)=true:=by simp[c0]
  simp only[tP S,fO,q0,cB,reduceIte,cJ,Nat.reduceAdd];have:=hk h cT.refl;rw[zLN c0] at this;exact this
 ·have q0:((l.length:Int)==0)=false:=by rw[beq_eq_false_iff_ne];omega
  obtain⟨x0,hx0⟩:∃x,l[0]? =some x:=⟨_,kO (by omega)⟩;have hl0:=hx x0 (wP hx0);by_cases c1:l.length=1
  ·have q1:((l.length:Int)==1)=true:=by simp[c1]
   obtain⟨p,i1,i2⟩:=aFR S hx0;have i1:cC PG (indexAt cU v (.int .i64 0))=some (.pointer (some p)):=i1;simp only[tP S,fO,q0,q1,i1,i2,cB,reduceIte,cJ,Nat.reduceAdd];have:=hk h cT.refl;have e:l.flatten=x0:=by
    obtain⟨y,rfl⟩:∃y,l=[y]:=List.length_eq_one_iff.1 c1;simp only[zLK,zL4] at hx0;subst hx0;simp
   rw[e] at this;exact this
  ·have q1:((l.length:Int)==1)=false:=by rw[beq_eq_false_iff_ne];omega
   have lz:cC PG (Builtin.len_ #[aT] aR #[.string (tx [])])=some (.int .i64 0):=iO [];have g0:((0:Int)<0)=False:=eq_false (by decide);simp only[tP S,fO,q0,q1,lz,g0,cB,reduceIte,cJ,Nat.reduceAdd];unfold aDy;simp only[tP S,cB,reduceIte,cJ,Nat.reduceAdd];refine⟨λvs h'=>∃i:Nat,i≤l.length∧vs=[v,.string (tx []),.int .i64 ((i*size:Nat):Int),v,.int .i64 (l.length:Int),.int .i64 (i:Int)]∧h'=h,fN l.length 5,⟨0,by omega,by rw[Nat.zero_mul];rfl,rfl⟩,?_⟩;rintro ρ h' ⟨i,hi,hvs,rfl⟩;simp only[hY,iZ,kP,and_true] at hvs;obtain⟨y0,y1,y5,y39,y40,y41⟩:=hvs;unfold aHe;rw[y0,y1,y5,y39,y40,y41];have him:i*size≤l.length*size:=wA _ hi;by_cases hlt:i<l.length
   ·have g:((i:Int)<(l.length:Int))=True:=eq_true (by omega);have gi:=nP (i:=i) (by omega);obtain⟨x,hxx⟩:∃x,l[i]? =some x:=⟨_,kO hlt⟩;have hxl:=hx x (wP hxx);obtain⟨p,i1,i2⟩:=aFR S hxx;have him1:(i+1)*size≤l.length*size:=wA _ hlt;have hsm:(i+1)*size=i*size+size:=Nat.succ_mul _ _;have w1:IntKind.i64.wrap ((9223372036854775807:Int)-((i*size:Nat):Int))=(9223372036854775807:Int)-((i*size:Nat):Int):=eI (by omega) (by omega);have g2:((9223372036854775807:Int)-((i*size:Nat):Int)<(x.length:Int))=False:=eq_false (by omega);have w2:IntKind.i64.wrap (((i*size:Nat):Int)+(x.length:Int))=(((i+1)*size:Nat):Int):=by rw[eI (by omega) (by omega)];omega
    simp only[g,i1,i2,iO,w1,g2,aHP,w2,gi,cB,reduceIte,cJ,Nat.reduceAdd];exact⟨⟨i+1,by omega,rfl,trivial⟩,by simp[fN,y41];omega⟩
   ·have g:((i:Int)<(l.length:Int))=False:=eq_false (by omega);obtain rfl:i=l.length:=by omega
    simp only[g,cB,reduceIte,cJ,Nat.reduceAdd];rw[zB];intro r hr
    try rw[cO]
    have u1:cZ h' (h'.set r (.cells #[.pointer none,.slice none 0 0] cV)):=cT.new hr;have a1:(h'.set r (.cells #[.pointer none,.slice none 0 0] cV)) r=some (.cells #[.pointer none,.slice none 0 0] cV (0,0)):=eD;generalize h'.set r (.cells #[.pointer none,.slice none 0 0] cV)=h1 at *;refine aQK a1 (n:=l.length*size) (by omega) (by omega) λh2 gg cap hF hcap u2 hg=>?_;have ug:cT [r,gg] h' h2:=(u1.upd.trans (u2.mono λb hb=>.inl (by simp at hb;simp[hb])));have hgn:h' gg=none:=u1.none hg;have fin:∀h2,cT [r,gg] h' h2->cZ h' h2:=λh2 u b o hb _=>u b o hb (by
     simp only[iR,zLg,or_false,not_or];exact⟨(λe=>by rw[e,hr] at hb;cases hb),(λe=>by rw[e,hgn] at hb;cases hb)⟩)
    obtain⟨p,i1,i2⟩:=aFR (S.ext (fin h2 ug)) hx0;have i1:cC PG (indexAt cU v (.int .i64 0))=some (.pointer (some p)):=i1;simp only[i1,i2,cB,reduceIte,cJ,Nat.reduceAdd];have hll1:1*size≤l.length*size:=wA _ (by omega);refine FB.write hF (ys:=x0) (by simp only[kI];omega) (by simp only[kI];omega) λv5 h3 F3 u3=>?_;have e3:=ug.trans u3;obtain⟨vr,j1,Sr,-⟩:=(S.ext (fin h3 e3)).cut (t:=cU) (lo:=some (.int .i64 1)) (hi:=none) (l:=1) (m:=(l.map jJ).length) cU.und aT.info aT.size (.inr ⟨_,rfl⟩) (.inl ⟨rfl,rfl⟩) (by rw[iF];omega) (mG _);rw[zLJ,←List.map_drop] at Sr;have ld:(l.drop 1).length=l.length-1:=jC;simp only[j1,tP Sr,cB,reduceIte,cJ,Nat.reduceAdd];have Sr0:=Sr;have e1:(l.take (0+1)).flatten=[]++x0:=by rw[aIi hx0];simp
    refine⟨λvs h4=>∃i:Nat,i+1≤l.length∧vs=[.string (tx []),pT r 0,vr,.int .i64 ((l.drop 1).length:Int),.int .i64 (i:Int)]∧FB h4 r gg cap (l.take (i+1)).flatten∧cT [r,gg] h3 h4,fN l.length 4,⟨0,by omega,rfl,by rw[e1];exact F3,cT.refl⟩,?_⟩;rintro σ h4 ⟨i,hi,hvs,F4,w⟩;simp only[hY,iZ,kP,and_true] at hvs;obtain⟨yj1,yj8,yj63,yj64,yj65⟩:=hvs;unfold aHN;rw[yj1,yj8,yj63,yj64,yj65];have w4:=e3.trans w;have lt:=aNx hx (i+1) hi;have hmi:(i+1)*size≤l.length*size:=wA _ hi;by_cases hlt2:i<(l.drop 1).length
    ·have g3:((i:Int)<((l.drop 1).length:Int))=True:=eq_true (by omega);have gi:=nP (i:=i) (by omega);obtain⟨x,hxx⟩:∃x,l[i+1]? =some x:=⟨_,kO (by omega)⟩;have hxd:(l.drop 1)[i]? =some x:=by rw[aJQ,Nat.add_comm];exact hxx
     have hxl:=hx x (wP hxx);have hm2:(i+1+1)*size≤l.length*size:=wA _ (by omega);have hsm:(i+1+1)*size=(i+1)*size+size:=Nat.succ_mul _ _;have Sx:hM h4 1 vr ((l.drop 1).map jJ):=by
      obtain⟨vr',j1',Sr',-⟩:=(S.ext (fin h4 w4)).cut (t:=cU) (lo:=some (.int .i64 1)) (hi:=none) (l:=1) (m:=(l.map jJ).length) cU.und aT.info aT.size (.inr ⟨_,rfl⟩) (.inl ⟨rfl,rfl⟩) (by rw[iF];omega) (mG _);rw[zLJ,←List.map_drop] at Sr';rw[j1] at j1';cases j1';exact Sr'
     obtain⟨p,k1,k2⟩:=aFR Sx hxd;simp only[g3,k1,k2,cB,reduceIte,cJ,Nat.reduceAdd];refine FB.write F4 (ys:=[]) (by simp only[kI];omega) (by simp only[kI];omega) λv6 h5 F5 u5=>?_;refine FB.write F5 (ys:=x) (by simp only[zLQ];omega) (by simp only[zLQ];omega) λv7 h6 F6 u6=>?_;simp only[gi,cB,reduceIte,cJ,Nat.reduceAdd];rw[zLQ,←aIi hxx] at F6;exact⟨⟨i+1,by omega,rfl,F6,(w.trans u5).trans u6⟩,by simp[fN,yj65];omega⟩
    ·have g3:((i:Int)<((l.drop 1).length:Int))=False:=eq_false (by omega);have et:l.take (i+1)=l:=qX (by omega);rw[et] at F4 lt;simp only[g3,cB,reduceIte,cJ,Nat.reduceAdd];have hmz:1*size≤(i+1)*size:=wA _ (by omega);refine FB.string F4 (by intro e;rw[e] at lt;simp only[kI] at lt;omega) λh5 F5 u5=>?_;exact hk h5 (fin h5 (w4.trans (u5.mono λb hb=>.inl (by simp at hb;simp[hb]))))
def Dk.stable(d:Dk):Tx:=d.st.flatten
def aNs{h:PH}{a:Nat}{d:Dk}{F:List Nat}(D:oD a d h F)(hs:d.sectors≤1000){k:cF}(hk:∀h',cZ h h'->k (.string (tx d.stable)) h'):bT PG yA #[pT a 0] h k:=by
 apply aBN.call;unfold aBN;obtain⟨sv,bv,Fs,Fb,rfl,B,S,W,n1,n2,n3⟩:=id D.here;have L:=DkB.of B;have ok:=D.ok.size;unfold fU at ok;have hm:d.sectors*d.size≤1000*512:=Nat.mul_le_mul hs ok.2;simp only[eB.f1,cU.load,L.st,cB,reduceIte,cJ,Nat.reduceAdd];refine aVk S.slR D.ok.each (by omega) (by rw[D.ok.len];omega) λh' u=>?_;exact hk h' u
def Dk.new(size sectors:Nat):Dk:=⟨size,sectors,List.replicate sectors (kT size),[],0⟩
def Dk.new_ok{size sectors:Nat}(ok:fU size)(h1:1≤sectors)(h2:sectors≤4096):(Dk.new size sectors).Ok:=⟨aGe,ok,h1,h2,λs hs=>by rw[List.eq_of_mem_replicate hs];exact vT _,by simp[Dk.new]⟩
def aXJ(a b:Int):cC PG (build eA #[(0,.int .i64 a),(1,.int .i64 b)])=some (.agg #[.int .i64 a,.int .i64 b]):=by kernel_rfl
def aXL(a b:Int)(r n m:Nat):cC PG (build eB #[(0,.agg #[.int .i64 a,.int .i64 b]),(1,.slice (some ⟨r,0,none⟩) n m)])=some (.agg #[.int .i64 a,.int .i64 b,.slice (some ⟨r,0,none⟩) n m,.slice none 0 0,.int .i64 0]):=by kernel_rfl
def aDn(size n i:Nat):List Tx:=List.replicate i (kT size)++List.replicate (n-i) []
def aSj{size n i:Nat}(hi:i<n):(aDn size n i).set i (kT size)=aDn size n (i+1):=by
 unfold aDn;obtain⟨m,rfl⟩:∃m,n=i+(m+1):=⟨n-i-1,by omega⟩;rw[List.set_append_right _ _ (by rw[aGe];exact mG _),aGe,aId,aB4,show i+(m+1)-(i+1)=m from by omega,List.replicate_succ,List.set_cons_zero];rw[List.replicate_succ',vP];rfl
def aKA(size n i:Nat)(hi:i≤n):(aDn size n i).length=n:=by unfold aDn;rw[jO,aGe,aGe];omega
def aVd{h:PH}(size sectors:Nat)(ok:fU size)(h1:1≤sectors)(h2:sectors≤4096){k:cF}(hk:∀h' a F,oD a (Dk.new size sectors) h' F->dZ h F->cZ h h'->k (.tuple #[pT a 0,.int .i64 0]) h'):bT PG aIQ #[.int .i64 (size:Int),.int .i64 (sectors:Int)] h k:=by
 apply aFP.call;unfold aFP;have h64:=ok.1;have h512:=ok.2;have g1:((size:Int)<64)=False:=eq_false (by omega);have g2:((512:Int)<(size:Int))=False:=eq_false (by omega);have g3:((sectors:Int)<1)=False:=eq_false (by omega);have g4:((4096:Int)<(sectors:Int))=False:=eq_false (by omega);obtain⟨zs,hm,hzz⟩:=aEp (P:=PG) (n:=sectors) cU.und aT.info aT.size aT.bytes aT.zero rfl (by decide) (by omega) (by omega);simp only[g1,g2,g3,g4,aXJ,hm,cB,reduceIte,cJ,Nat.reduceAdd];intro r27 hr27;refine gY ?_
 try rw[cO]
 have O1:eJ (h.set r27 (.cells zs aT (0,0))) aT 1 (.slice (some ⟨r27,0,none⟩) sectors sectors) ((aDn size sectors 0).map jJ) [r27]:=eJ.lit (e:=aT) (size:=1) (rows:=(aDn size sectors 0).map jJ) (n:=sectors) (λr hr=>by obtain⟨m,_,rfl⟩:=pV.1 hr;rfl) eD (by rw[iF,aKA _ _ _ (by omega)]) (zLE h2 (by decide)) (by
  rw[hzz];unfold aDn;rw[List.replicate_zero,zLU,Nat.sub_zero,List.map_replicate];rfl)
 have u1:cZ h (h.set r27 (.cells zs aT (0,0))):=cT.new hr27;generalize h.set r27 (.cells zs aT (0,0))=h2 at *;simp only[aXL,cB,reduceIte,cJ,Nat.reduceAdd];intro r32 hr32
 try rw[cO]
 have u2:cZ h2 (h2.set r32 (.cells (Value.cells (.agg #[.int .i64 (size:Int),.int .i64 (sectors:Int),.slice (some ⟨r27,0,none⟩) sectors sectors,.slice none 0 0,.int .i64 0])) eB)):=cT.new hr32;have B2:Bx (h2.set r32 (.cells (Value.cells (.agg #[.int .i64 (size:Int),.int .i64 (sectors:Int),.slice (some ⟨r27,0,none⟩) sectors sectors,.slice none 0 0,.int .i64 0])) eB)) r32 [.int .i64 (size:Int),.int .i64 (sectors:Int),.slice (some ⟨r27,0,none⟩) sectors sectors,.slice none 0 0,.int .i64 0]:=Bx.new;generalize h2.set r32 (.cells (Value.cells (.agg #[.int .i64 (size:Int),.int .i64 (sectors:Int),.slice (some ⟨r27,0,none⟩) sectors sectors,.slice none 0 0,.int .i64 0])) eB)=h3 at *;have O3:=O1.ext u2;have e3:=u1.trans u2;have n1:r32≠r27:=λe=>O1.known r27 (by simp) (e▸hr32);have f1:dZ h [r27]:=dZ.one hr27;have f2:h r32=none:=u1.none hr32;have c2:cX h3 ⟨r32,0+2,none⟩=some (.slice (some ⟨r27,0,none⟩) sectors sectors):=B2.cell 2;have ln:cC PG (Builtin.len_ #[cU] aR #[.slice (some ⟨r27,0,none⟩) sectors sectors])=some (.int .i64 (sectors:Int)):=by
  have:=tP O1.slR;rw[aKA _ _ _ (by omega)] at this;exact this
 simp only[eB.f1,cU.load,c2,ln,cB,reduceIte,cJ,Nat.reduceAdd];refine⟨λvs h'=>∃i:Nat,i≤sectors∧vs=[.int .i64 (size:Int),pT r32 0,.int .i64 (sectors:Int),.int .i64 (i:Int)]∧eJ h' aT 1 (.slice (some ⟨r27,0,none⟩) sectors sectors) ((aDn size sectors i).map jJ) [r27]∧cT [r27] h3 h',fN sectors 3,⟨0,by omega,rfl,O3,cT.refl⟩,?_⟩;rintro ρ h' ⟨i,hi,hvs,O,w⟩;simp only[hY,iZ,kP,and_true] at hvs;obtain⟨x0,x6,x33,x34⟩:=hvs;unfold aKY;rw[x0,x6,x33,x34];have B:=B2.upd w (by simpa using n1);by_cases hlt:i<sectors
 ·have g:((i:Int)<(sectors:Int))=True:=eq_true (by omega);have gi:=nP (i:=i) (by omega);have c3:cX h' ⟨r32,0+2,none⟩=some (.slice (some ⟨r27,0,none⟩) sectors sectors):=B.cell 2;simp only[g,eB.f1,cU.load,c3,cB,reduceIte,cJ,Nat.reduceAdd];refine aKF (by omega) λh4 u4=>?_;have c4:cX h4 ⟨r32,0+2,none⟩=some (.slice (some ⟨r27,0,none⟩) sectors sectors):=(B.ext u4).cell 2;have hin:i<((aDn size sectors i).map jJ).length:=by rw[iF,aKA _ _ _ hi];exact hlt
  obtain⟨b,o,j1,j2⟩:=aQA (O.ext u4) hin (x:=.string (tx (kT size))) rfl;refine⟨c4,?_⟩;simp only[j1,cB,reduceIte,cJ,Nat.reduceAdd];refine j2 λh5 O5 u5=>?_;simp only[gi,cB,reduceIte,cJ,Nat.reduceAdd];rw[aNU,aSj hlt] at O5;exact⟨⟨i+1,by omega,rfl,O5,(w.trans u4.upd).trans u5⟩,by simp[fN,x34];omega⟩
 ·have g:((i:Int)<(sectors:Int))=False:=eq_false (by omega);obtain rfl:i=sectors:=by omega
  have en:aDn size i i=(Dk.new size i).st:=by unfold aDn;rw[aId];simp[Dk.new]
  rw[en] at O;simp only[g,cB,reduceIte,cJ,Nat.reduceAdd];refine hk h' r32 (r32::([r27]++[])) ⟨⟨_,_,[r27],[],rfl,B,O,eJ.nil,by simpa using n1,by simp,by simp⟩,Dk.new_ok ok h1 h2,by show 0<_;omega⟩ (λb hb=>?_) (e3.fresh w f1);simp only[zLQ,iR,zLg,or_false] at hb;rcases hb with rfl|rfl
  ·exact f2
  ·exact hr27
end
section
open Go
open Bld
def qY(a:Nat):Value:=.agg #[pT a 0]
def oD.geo{a:Nat}{d:Dk}{h:PH}{F:List Nat}(D:oD a d h F):cD PG h (loadAt eA (pT a 0))=some (aEY d):=by
 obtain⟨sv,bv,Fs,Fb,rfl,B,-⟩:=D.here;exact(DkB.of B).geo
def aGu{h:PH}{a:Nat}{d:Dk}{F:List Nat}(D:oD a d h F)(h2:2≤d.sectors){k:cF}(hk:∀h',cZ h h'->k (.int .i64 (d.segs:Int)) h'):bT PG pL #[qY a] h k:=by
 apply aAh.call;unfold aAh;have hm:=D.ok.many;intro r1 hr1
 try rw[cO]
 have u1:cZ h (h.set r1 (.cells (Value.cells (qY a)) dW)):=cT.new hr1;have B1:Bx (h.set r1 (.cells (Value.cells (qY a)) dW)) r1 [pT a 0]:=Bx.new;generalize h.set r1 (.cells (Value.cells (qY a)) dW)=h1 at *;have D1:=D.ext u1;have w1:IntKind.i64.wrap ((d.sectors:Int)-2)=((d.sectors-2:Nat):Int):=by rw[eI (by omega) (by omega)];omega
 have w2:cC PG (binOp .quo aR (.int .i64 ((d.sectors-2:Nat):Int)) (.int .i64 2))=some (.int .i64 (d.segs:Int)):=by
  have e:Int.tdiv ((d.sectors-2:Nat):Int) 2=(d.segs:Int):=rfl;have e2:IntKind.i64.wrap (d.segs:Int)=(d.segs:Int):=eI (by omega) (by unfold Dk.segs;omega);rw[aKS (by decide),e,e2]
 simp only[dW.f0,fL.load,gJ B1,eB.f0,D1.geo,cB,reduceIte,cJ,Nat.reduceAdd];refine aMM d λh3 u3=>?_;simp only[w1,w2,cB,reduceIte,cJ,Nat.reduceAdd];exact hk h3 (u1.trans u3)
def aMc{h:PH}{a:Nat}{d:Dk}{F:List Nat}(D:oD a d h F)(h2:2≤d.sectors)(seg:Nat)(hs:seg≤1){k:cF}(hk:∀h',cZ h h'->k (.int .i64 (d.base seg:Int)) h'):bT PG vZ #[qY a,.int .i64 (seg:Int)] h k:=by
 apply aC1.call;unfold aC1;have hm:=D.ok.many;intro r1 hr1
 try rw[cO]
 have u1:cZ h (h.set r1 (.cells (Value.cells (qY a)) dW)):=cT.new hr1;have B1:Bx (h.set r1 (.cells (Value.cells (qY a)) dW)) r1 [pT a 0]:=Bx.new;generalize h.set r1 (.cells (Value.cells (qY a)) dW)=h1 at *;have D1:=D.ext u1;have l1:cD PG h1 (loadAt dW (pT r1 0))=some (qY a):=dW.agg B1 (by show 0+1≤1;decide);have hsg:d.segs≤4096:=by unfold Dk.segs;omega
 have hsm:seg*d.segs≤1*d.segs:=wA _ hs;have w1:IntKind.i64.wrap ((seg:Int)*(d.segs:Int))=((seg*d.segs:Nat):Int):=by rw[←Int.natCast_mul,eI (by omega) (by omega)]
 have w2:IntKind.i64.wrap ((2:Int)+((seg*d.segs:Nat):Int))=(d.base seg:Int):=by
  rw[eI (by omega) (by omega)];unfold Dk.base;omega
 simp only[l1,cB,reduceIte,cJ,Nat.reduceAdd];refine aGu D1 h2 λh3 u3=>?_;simp only[nD,w1,w2,cB,reduceIte,cJ,Nat.reduceAdd];exact hk h3 (u1.trans u3)
def aNE(d:Dk)(n i:Nat):(d.secs n (i+1)).flatten=(d.secs n i).flatten++d.at (n+i):=by
 unfold Dk.secs;rw[List.range_succ,wB,zLG];simp
def aF1{d:Dk}(H:d.Ok){n k:Nat}(h:n+k≤d.sectors):∀s∈d.secs n k,s.length=d.size:=by
 intro s hs;unfold Dk.secs at hs;obtain⟨i,hi,rfl⟩:=pV.1 hs;rw[aGU] at hi;exact H.at_len (by omega)
def aLQ{h:PH}{a:Nat}{d:Dk}{F:List Nat}(D:oD a d h F)(n m:Nat)(hnm:n+m≤d.sectors)(hb:d.buf.length≤1000000){k:cF}(hk:∀h',cZ h h'->k (.string (tx (d.secs n m).flatten)) h'):bT PG vY #[qY a,.int .i64 (n:Int),.int .i64 (m:Int)] h k:=by
 apply aCx.call;unfold aCx;have hm:=D.ok.many;have hz:=D.ok.size;unfold fU at hz;intro r1 hr1
 try rw[cO]
 have u1:cZ h (h.set r1 (.cells (Value.cells (qY a)) dW)):=cT.new hr1;have B1:Bx (h.set r1 (.cells (Value.cells (qY a)) dW)) r1 [pT a 0]:=Bx.new;generalize h.set r1 (.cells (Value.cells (qY a)) dW)=h1 at *;rw[zB];intro r3 hr3
 try rw[cO]
 have u3:cZ h1 (h1.set r3 (.cells #[.pointer none,.slice none 0 0] cV)):=cT.new hr3;have b3:BAt (h1.set r3 (.cells #[.pointer none,.slice none 0 0] cV)) r3 [] [r3]:=BAt.zero eD;have hne:r1≠r3:=B1.apart hr3;have B3:=B1.ext u3;generalize h1.set r3 (.cells #[.pointer none,.slice none 0 0] cV)=h3 at *;have e3:=u1.trans u3;have f3:h r3=none:=u1.none hr3;refine⟨λvs h'=>∃(i:Nat) (G:List Nat),i≤m∧vs=[.int .i64 (n:Int),pT r1 0,pT r3 0,.int .i64 (m:Int),.int .i64 (i:Int)]∧Bx h' r1 [pT a 0]∧BAt h' r3 (d.secs n i).flatten G∧dZ h G∧r1∉G∧cZ h h',fN m 4,⟨0,[r3],by omega,rfl,B3,b3,dZ.one f3,by simpa using hne,e3⟩,?_⟩;rintro ρ h' ⟨i,G,hi,hvs,B,b,fG,nG,w⟩;simp only[hY,iZ,kP,and_true] at hvs;obtain⟨x1,x3,x7,x11,x12⟩:=hvs;unfold aGo;rw[x1,x3,x7,x11,x12];have hfl:(d.secs n i).flatten.length=i*d.size:=by rw[aAN (aF1 D.ok (by omega)),Dk.secs_len]
 have him:i*d.size≤4096*512:=Nat.mul_le_mul (by omega) hz.2;by_cases hlt:i<m
 ·have g:((i:Int)<(m:Int))=True:=eq_true (by omega);have gi:=nP (i:=i) (by omega);have gn:IntKind.i64.wrap ((n:Int)+(i:Int))=((n+i:Nat):Int):=by rw[eI (by omega) (by omega)];omega
  have erd:d.rd ((n+i:Nat):Int)=(d.at (n+i),0):=by
   unfold Dk.rd;rw[if_neg (by omega)];rfl
  have hal:=D.ok.at_len (n:=n+i) (by omega);simp only[g,dW.f0,fL.load,gJ B,gn,cB,reduceIte,cJ,Nat.reduceAdd];refine aT0 (D.ext w) _ hb λh5 u5=>?_;rw[erd];simp only[cB,reduceIte,cJ,Nat.reduceAdd];refine Bld.WriteString_ok (b.ext u5) (by omega) λh6 G6 b6 u6 g6=>?_;simp only[gi,cB,reduceIte,cJ,Nat.reduceAdd];have w5:=w.trans u5;refine⟨⟨i+1,G6,by omega,rfl,(B.ext u5).upd u6 nG,by rw[aNE];exact b6,λx hx=>?_,λhx=>?_,w5.fresh u6 fG⟩,by simp[fN,x12];omega⟩
  ·rcases g6 x hx with e|e
   ·exact fG x e
   ·exact w5.none e
  ·rcases g6 r1 hx with e|e
   ·exact nG e
   ·exact(B.ext u5).known e
 ·have g:((i:Int)<(m:Int))=False:=eq_false (by omega);obtain rfl:i=m:=by omega
  simp only[g,cB,reduceIte,cJ,Nat.reduceAdd];refine Bld.String_ok b λh5 u5=>?_;exact hk h5 (w.fresh u5 fG)
def eJ.step{h h':PH}{e:TypeId}{n:Nat}{v:Value}{rows:List (List Value)}{F F' G:List Nat}(O:eJ h e n v rows G)(s:eN h F h' F')(hd:∀b∈G,b∉F):eJ h' e n v rows G∧∀b∈G,b∉F':=
 ⟨O.upd s.upd hd,λb hb hm=>by
  rcases s.grow b hm with e1|e1
  ·exact hd b hb e1
  ·exact O.known b hb e1⟩
def Bx.step{h h':PH}{r:Nat}{cs:List Value}{F F':List Nat}(B:Bx h r cs)(s:eN h F h' F')(hd:r∉F):Bx h' r cs∧r∉F':=
 ⟨B.upd s.upd hd,λhm=>by
  rcases s.grow r hm with e1|e1
  ·exact hd e1
  ·exact B.known e1⟩
def aJr(d:Dk)(n:Nat)(s:Tx)(l:List Tx):iQ d n (s::l)=if (d.wr (n:Int) s).2≠0 then((d.wr (n:Int) s).1,(d.wr (n:Int) s).2) else iQ (d.wr (n:Int) s).1 (n+1) l:=rfl
def aOJ(d:Dk)(n:Int)(s:Tx):(d.wr n s).1.buf.length≤d.buf.length+1:=by
 unfold Dk.wr;split
 ·simp
 ·split
  ·show d.buf.length≤_;omega
  ·simp
def aKl{h:PH}{a:Nat}{d:Dk}{F G:List Nat}{v:Value}{l:List Tx}(D:oD a d h F)(n:Nat)(hn:n≤1000000)(O:eJ h aT 1 v (l.map jJ) G)(hd:∀b∈G,b∉F)(hb:d.buf.length+l.length≤1000000){k:cF}(hk:∀h' F',oD a (iQ d n l).1 h' F'->eN h F h' F'->k (.int .i64 (iQ d n l).2) h'):bT PG tL #[qY a,.int .i64 (n:Int),v] h k:=by
 apply aDa.call;unfold aDa;obtain⟨T,hT⟩:∃T,iQ d n l=T:=⟨_,rfl⟩;rw[hT] at hk;intro r1 hr1
 try rw[cO]
 have u1:cZ h (h.set r1 (.cells (Value.cells (qY a)) dW)):=cT.new hr1;have B1:Bx (h.set r1 (.cells (Value.cells (qY a)) dW)) r1 [pT a 0]:=Bx.new;generalize h.set r1 (.cells (Value.cells (qY a)) dW)=h1 at *;have D1:=D.ext u1;have n1:r1∉F:=λhm=>D.known r1 hm hr1;simp only[tP O.slR,cB,reduceIte,cJ,Nat.reduceAdd];refine⟨λvs h'=>∃(i:Nat) (d':Dk) (F':List Nat),i≤l.length∧vs=[.int .i64 (n:Int),pT r1 0,v,.int .i64 (l.length:Int),.int .i64 (i:Int)]∧Bx h' r1 [pT a 0]∧r1∉F'∧oD a d' h' F'∧eJ h' aT 1 v (l.map jJ) G∧(∀b∈G,b∉F')∧T=iQ d' (n+i) (l.drop i)∧d'.buf.length≤d.buf.length+i∧eN h F h' F',fN l.length 4,⟨0,d,F,by omega,rfl,B1,n1,D1,O.ext u1,hd,hT.symm,by omega,eN.ext u1⟩,?_⟩;rintro ρ h' ⟨i,d',F',hi,hvs,B,nB,D',O',hd',hT',hb',st⟩;simp only[hY,iZ,kP,and_true] at hvs;obtain⟨x1,x3,x10,x11,x12⟩:=hvs;unfold aHo;rw[x1,x3,x10,x11,x12];by_cases hlt:i<l.length
 ·have g:((i:Int)<(l.length:Int))=True:=eq_true (by omega);have gi:=nP (i:=i) (by omega);have gn:IntKind.i64.wrap ((n:Int)+(i:Int))=((n+i:Nat):Int):=by rw[eI (by omega) (by omega)];omega
  obtain⟨x,hx⟩:∃x,l[i]? =some x:=⟨_,kO hlt⟩;have ed:l.drop i=x::l.drop (i+1):=by
   rw[aAy hlt];have:l[i]=x:=by rw[kO hlt] at hx;simpa using hx
   rw[this]
  rw[ed,aJr] at hT';obtain⟨p,i1,i2⟩:=aFR O'.slR hx;simp only[g,i1,i2,dW.f0,fL.load,gJ B,gn,cB,reduceIte,cJ,Nat.reduceAdd];refine aSi D' _ x (by omega) λh5 F5 D5 s5=>?_;have st5:=st.trans s5;by_cases c:(d'.wr ((n+i:Nat):Int) x).2=0
  ·have q:((d'.wr ((n+i:Nat):Int) x).2 !=0)=false:=by rw[c];rfl
   rw[if_neg (λe=>e c)] at hT';simp only[dY,q,gi,cB,reduceIte,cJ,Nat.reduceAdd];obtain⟨B5,nB5⟩:=B.step s5 nB;obtain⟨O5,hd5⟩:=O'.step s5 hd';have:=aOJ d' ((n+i:Nat):Int) x;exact⟨⟨i+1,_,F5,by omega,rfl,B5,nB5,D5,O5,hd5,by rw[←Nat.add_assoc];exact hT',by omega,st5⟩,by simp[fN,x12];omega⟩
  ·have q:((d'.wr ((n+i:Nat):Int) x).2 !=0)=true:=bne_iff_ne.2 c;rw[if_pos c] at hT';simp only[dY,q,cB,reduceIte,cJ,Nat.reduceAdd];subst hT';exact hk h5 F5 D5 st5
 ·have g:((i:Int)<(l.length:Int))=False:=eq_false (by omega);have ed:l.drop i=[]:=aBA (by omega);rw[ed] at hT';have hT':T=d'.fl:=hT';simp only[g,dW.f0,fL.load,gJ B,cB,reduceIte,cJ,Nat.reduceAdd];refine aO9 D' (by omega) λh5 F5 D5 s5=>?_;subst hT';exact hk h5 F5 D5 (st.trans s5)
end
section
open Go
def aIK(room:Int)(st:Dm×Int)(x:Rc):Dm×Int:=if st.2=0 then lA st.1 room x else st
def wlk(room:Int)(x:Rc)(l:List Rc):Dm×Int:=l.foldl (aIK room) (x.s,chk x.s room)
def Rg(x:Rc):Prop:=xG x∧x.wf
def aTQ{room:Int}{x:Rc}(g:Rg x)(st:Dm×Int):mK room st x.bs=aIK room st x:=by
 unfold mK aIK;rw[aMQ g.1 g.2];simp
def aIc{room:Int}:∀(l:List Rc) {st:Dm×Int},st.2≠0->l.foldl (aIK room) st=st
 | [],_,_=>rfl
 | x::l,st,h=>by
  rw[zLt,show aIK room st x=st from if_neg h];exact aIc l h
def aP4{room:Int}:∀{l:List Rc} (_:∀x∈l,Rg x) (st:Dm×Int),(l.map Rc.bs).foldl (mK room) st=l.foldl (aIK room) st
 | [],_,_=>rfl
 | x::l,h,st=>by
  rw[hY,zLt,zLt,aTQ (h x (by simp))];exact aP4 (λy hy=>h y (by simp[hy])) _
def aOf{room:Int}{x:Rc}{l:List Rc}(h:∀y∈x::l,Rg y)(k1:x.k=1):xL room ((x::l).map Rc.bs)=if (wlk room x l).2≠0 then(Dm.zero,(wlk room x l).2) else wlk room x l:=by
 have gx:=h x (by simp);have gl:=λy hy=>h y (aMo _ hy);rw[hY];unfold xL;simp only[aP4 gl];have e:lQ room x.bs=if chk x.s room≠0 then(Dm.zero,chk x.s room) else(x.s,0):=by
  unfold lQ;rw[aMQ gx.1 gx.2];simp[k1]
 rw[e];unfold wlk;by_cases c:chk x.s room=0
 ·simp only[c,ne_eq,not_true_eq_false,if_false]
 ·rw[if_pos c,aIc l (st:=(Dm.zero,chk x.s room)) c,aIc l (st:=(x.s,chk x.s room)) c];simp[c]
structure Jn where
 w:Wl
 room:Int
 s:Dm
def Jn.zero:Jn:=⟨Wl.zero,0,Dm.zero⟩
def pU(d:Dm):Rc:=⟨1,d,0,Pl.zero,[]⟩
def kU(d:Dm):Tx:=(pU d).bytes.1
def gM(ch:Int)(q:Pl)(ns:List Nt):Rc:=⟨2,Dm.zero,ch,q,ns⟩
def kZ(room:Int)(s0:Dm)(l:List Tx):Dm×Int:=if l=[] then(s0,0) else xL room l
def iK(d:Dk)(room:Int)(p q:Pl):Dk×Jn×Int:=
 if chk ⟨p,q,[]⟩ room≠0 then(d,Jn.zero,chk ⟨p,q,[]⟩ room)
 else if (fH d).2.2≠0 then((fH d).1,Jn.zero,(fH d).2.2)
 else if (kZ room ⟨p,q,[]⟩ (fH d).2.1.2).2≠0 then((fH d).1,Jn.zero,(kZ room ⟨p,q,[]⟩ (fH d).2.1.2).2)
 else if (fS (fH d).1 (fH d).2.1.1 (kU (kZ room ⟨p,q,[]⟩ (fH d).2.1.2).1)).2.2≠0 then
  ((fS (fH d).1 (fH d).2.1.1 (kU (kZ room ⟨p,q,[]⟩ (fH d).2.1.2).1)).1,Jn.zero,(fS (fH d).1 (fH d).2.1.1 (kU (kZ room ⟨p,q,[]⟩ (fH d).2.1.2).1)).2.2)
 else((fS (fH d).1 (fH d).2.1.1 (kU (kZ room ⟨p,q,[]⟩ (fH d).2.1.2).1)).1,⟨(fS (fH d).1 (fH d).2.1.1 (kU (kZ room ⟨p,q,[]⟩ (fH d).2.1.2).1)).2.1,room,(kZ room ⟨p,q,[]⟩ (fH d).2.1.2).1⟩,0)
def qM(d:Dk)(j:Jn)(r:Rc)(next:Dm):Dk×Wl×Int:=if fits d j.w r.bytes.1.length then iG d j.w r.bytes.1 else fS d j.w (kU next)
def oT(d:Dk)(j:Jn)(ch:Int)(q:Pl)(ns:List Nt):Dk×Jn×Int:=
 if j.w.broken then(d,j,14)
 else if (lA j.s j.room (gM ch q ns)).2≠0 then(d,j,(lA j.s j.room (gM ch q ns)).2)
 else((qM d j (gM ch q ns) (lA j.s j.room (gM ch q ns)).1).1,⟨(qM d j (gM ch q ns) (lA j.s j.room (gM ch q ns)).1).2.1,j.room,if (qM d j (gM ch q ns) (lA j.s j.room (gM ch q ns)).1).2.2=0 then(lA j.s j.room (gM ch q ns)).1 else j.s⟩,(qM d j (gM ch q ns) (lA j.s j.room (gM ch q ns)).1).2.2)
def aTC{L:List It}(h:∀x∈L,x.p.wf){n:Nt}(hn:n.p.wf)(room:Int):∀x∈pQ L room n,x.p.wf:=by
 have key:∀i:It,i.p.wf->∀x∈pF L i,x.p.wf:=λi hi x hx=>by
  rcases aP8 hx with rfl|hx
  ·exact hi
  ·exact h x hx
 have keyp:∀i:It,i.p.wf->∀x∈rO L room i,x.p.wf:=λi hi=>by
  unfold rO;split
  ·exact h
  ·exact key i hi
 unfold pQ;split
 ·exact h
 ·split
  ·split
   ·exact h
   ·exact keyp _ hn
  ·split
   ·split
    ·rename_i x hx;exact key _ (h x (aAH hx).1)
    ·exact keyp _ hn
   ·intro x hx;unfold qI at hx;exact h x (zLY.1 hx).1
def aQN{room:Int}:∀(l:List Nt) {L:List It} (_:∀x∈L,x.p.wf) (_:∀n∈l,n.p.wf),∀x∈(lK room L l).1,x.p.wf
 | [],L,h,_=>h
 | n::l,L,h,hl=>by
  unfold lK;split
  ·exact aTC h (hl n (by simp)) room
  ·exact aQN l (aTC h (hl n (by simp)) room) λm hm=>hl m (by simp[hm])
def aJ2{d:Dm}{room:Int}{r:Rc}(h:(lA d room r).2=0)(hd:d.wf)(hr:r.wf):(lA d room r).1.wf:=by
 obtain⟨-,-,-,c⟩:=aFZ h;rcases c with⟨-,e⟩|⟨-,-,-,e⟩
 ·rw[e];exact hr.s
 ·rw[e];refine⟨?_,?_,aQN r.ns hd.i hr.n⟩
  ·show(if r.ch=0 then r.pl else d.p0).wf;exact aO1 hr.pl hd.a
  ·show(if r.ch=0 then d.p1 else r.pl).wf;exact aO1 hd.b hr.pl
def aTp{i:It}(h:i.right=true):aDu i:=by
 unfold It.right at h;simp only[rQ,aGj,decide_eq_true_eq] at h;exact⟨by omega,by omega,h.2⟩
def aFW{s:Dm}{room:Int}(H:OkD s room):xG (pU s):=by
 refine⟨?_,λ_=>⟨H.p0,H.p1,λi hi=>aTp (H.ar i hi)⟩,λh=>by cases h⟩;unfold Rc.plain;rw[if_pos (by rfl)];have:=H.len;have:=H.r2;simp only[rQ,decide_eq_true_eq];exact⟨⟨⟨rfl,rfl⟩,rfl⟩,by show s.its.length≤40;omega⟩
def aLO{s:Dm}(w:s.wf):(pU s).wf:=⟨w,Pl.wf_zero,by simp[pU]⟩
def aOW{s:Dm}{room:Int}(H:OkD s room):kU s=(pU s).bs:=by
 unfold kU;rcases wV (pU s) with⟨-,b⟩|⟨a,-⟩
 ·rw[b]
 ·exact absurd (aFW H) a
def aHi{r:Rc}(h:xG r):r.bs.length≤4096:=by
 unfold Rc.bs;split
 case isTrue k1=>
  obtain⟨-,-,-,h40⟩:=vW h.plain k1;have:=aLN (l:=r.s.its.map It.x) (by simp only[aIX,aOB];exact(h.a k1).2.2);simp only[Pl.bs,rX,jO,gU,iF] at *;omega
 case isFalse k1=>
  obtain⟨k2,-,-,h16⟩:=qS h.plain k1;have:=aLN (l:=r.ns.map Nt.x) (by simp only[aIX,aOd];exact(h.b k2).2);simp only[Pl.bs,rX,jO,gU,iF] at *;omega
structure aDr(d:Dk)(j:Jn):Prop where
 log:∃s0 rs,Log d j.w ((pU s0::rs).map Rc.bs)∧(∀y∈pU s0::rs,Rg y)∧wlk j.room (pU s0) rs=(j.s,0)
 ready:j.w.ready=true
 ok:OkD j.s j.room
 wf:j.s.wf
def aDr.broken{d:Dk}{j:Jn}(H:aDr d j):j.w.broken=false:=by
 obtain⟨_,_,L,-⟩:=H.log;exact L.broken
def aSD{w:Wl}(h:w.broken=false){e:Int}(he:e≠13):w.brk e=w:=by
 obtain⟨a,b,c,d,f,g⟩:=w;simp only at h;subst h;unfold Wl.brk;simp[he]
def aKW{d:Dk}{w:Wl}{l:List Tx}(L:Log d w l)(hg:w.hd.gen<18446744073709551614){s:Dm}{room:Int}(ok:OkD s room)(wf:s.wf):
  (∃d' w',fS d w (kU s)=(d',w',0)∧aDr d' ⟨w',room,s⟩∧w'.hd.gen=w.hd.gen+1∧d'.size=d.size∧d'.sectors=d.sectors)∨fS d w (kU s)=(d,w,2):=by
 have hw:=aFW ok;have hs:=aHi hw;rw[aOW ok];by_cases c:dQ d.size (pU s).bs.length≤d.segs
 ·left;obtain⟨d',w',e,L',r,g,z1,z2⟩:=aNo L hs c hg;refine⟨d',w',e,⟨⟨s,[],L',?_,?_⟩,r,ok,wf⟩,g,z1,z2⟩
  ·intro y hy;simp only[iL] at hy;rw[hy];exact⟨hw,aLO wf⟩
  ·show(s,chk s room)=(s,0);rw[aDS.2 ok]
 ·right;have h1:=uJ (n:=(pU s).bs.length) L.ok.size hs;unfold fS;rw[if_neg (by rw[L.broken];simp),if_neg (by omega),if_pos (by omega),aSD L.broken (by decide)]
def aUD{d:Dk}{j:Jn}(H:aDr d j)(hg:j.w.hd.gen<18446744073709551614){ch:Int}{q:Pl}{ns:List Nt}(wf:(gM ch q ns).wf):
  ∃d' j' e,oT d j ch q ns=(d',j',e)∧aDr d' j'∧j'.w.hd.gen≤j.w.hd.gen+1∧j'.room=j.room∧d'.size=d.size∧d'.sectors=d.sectors∧
   ((lA j.s j.room (gM ch q ns)).2≠0->e=(lA j.s j.room (gM ch q ns)).2∧j'.s=j.s)∧
   ((lA j.s j.room (gM ch q ns)).2=0->(e=0∧j'.s=(lA j.s j.room (gM ch q ns)).1)∨(e=2∧j'.s=j.s)):=by
 unfold oT;rw[if_neg (by rw[H.broken];simp)];by_cases c:(lA j.s j.room (gM ch q ns)).2=0
 ·rw[if_neg (by simp[c])];obtain⟨-,hr,ho,-⟩:=aFZ c;have hw:=aJ2 c H.wf wf;obtain⟨s0,rs,L,rg,wk⟩:=H.log;have eb:(gM ch q ns).bytes.1=(gM ch q ns).bs:=by
   rcases wV (gM ch q ns) with⟨-,b⟩|⟨a,-⟩
   ·rw[b]
   ·exact absurd hr a
  unfold qM;rw[eb];cases hf:fits d j.w (gM ch q ns).bs.length with
  | true=>
   rw[if_pos rfl];obtain⟨d',w',e,L',r,g,z1,z2⟩:=aLl L H.ready (aHi hr) hf;rw[e];refine⟨d',_,0,rfl,⟨⟨s0,rs++[gM ch q ns],?_,?_,?_⟩,r,?_,?_⟩,by show w'.hd.gen≤_;omega,rfl,z1,z2,λh=>absurd c h,λ_=>.inl ⟨rfl,show(if (0:Int)=0 then(lA j.s j.room (gM ch q ns)).1 else j.s)=_ from if_pos rfl⟩⟩
   ·rw[←zLT,wB];exact L'
   ·intro y hy;rw[←zLT] at hy;rcases xN.1 hy with hy|hy
    ·exact rg y hy
    ·simp only[iL] at hy;rw[hy];exact⟨hr,wf⟩
   ·show wlk j.room (pU s0) (rs++[gM ch q ns])=(if (0:Int)=0 then(lA j.s j.room (gM ch q ns)).1 else j.s,0);rw[if_pos rfl];unfold wlk at wk ⊢;rw[List.foldl_append,wk];show aIK j.room (j.s,0) (gM ch q ns)=_;unfold aIK;rw[if_pos rfl];simp only;rw[←c]
   ·show OkD (if (0:Int)=0 then(lA j.s j.room (gM ch q ns)).1 else j.s) j.room;rw[if_pos rfl];exact ho
   ·show(if (0:Int)=0 then(lA j.s j.room (gM ch q ns)).1 else j.s).wf;rw[if_pos rfl];exact hw
  | false=>
   rw[if_neg (by simp)];rcases aKW L hg ho hw with⟨d',w',e,I,g,z1,z2⟩|e
   ·rw[e];refine⟨d',_,0,rfl,?_,by show w'.hd.gen≤_;omega,rfl,z1,z2,λh=>absurd c h,λ_=>.inl ⟨rfl,show(if (0:Int)=0 then(lA j.s j.room (gM ch q ns)).1 else j.s)=_ from if_pos rfl⟩⟩;show aDr d' ⟨w',j.room,if (0:Int)=0 then(lA j.s j.room (gM ch q ns)).1 else j.s⟩;rw[if_pos rfl];exact I
   ·rw[e];refine⟨d,_,2,rfl,?_,by show j.w.hd.gen≤_;omega,rfl,rfl,rfl,λh=>absurd c h,λ_=>.inr ⟨rfl,show(if (2:Int)=0 then(lA j.s j.room (gM ch q ns)).1 else j.s)=_ from if_neg (by decide)⟩⟩;show aDr d ⟨j.w,j.room,if (2:Int)=0 then(lA j.s j.room (gM ch q ns)).1 else j.s⟩;rw[if_neg (by decide)];exact H
 ·rw[if_pos c];exact⟨d,j,_,rfl,H,by omega,rfl,rfl,rfl,λ_=>⟨rfl,rfl⟩,λh=>absurd h c⟩
def aQ7{d:Dk}{j:Jn}(H:aDr d j)(hg:j.w.hd.gen<18446744073709551614){p q:Pl}(hc:chk ⟨p,q,[]⟩ j.room=0):
  (∃d' w',iK d j.room p q=(d',⟨w',j.room,j.s⟩,0)∧aDr d' ⟨w',j.room,j.s⟩∧w'.hd.gen=j.w.hd.gen+1∧d'.size=d.size∧d'.sectors=d.sectors)∨(iK d j.room p q).2.2=2:=by
 obtain⟨s0,rs,L,rg,wk⟩:=H.log;have eo:=aOS L;have es:kZ j.room ⟨p,q,[]⟩ ((pU s0::rs).map Rc.bs)=(j.s,0):=by
  unfold kZ;rw[if_neg (by simp),aOf rg rfl,wk];simp
 have L':Log d ⟨j.w.hd,j.w.slot,j.w.used,j.w.ser,false,false⟩ ((pU s0::rs).map Rc.bs):=⟨L.ok,L.arm,L.buf,L.four,L.g1,L.g2,L.seg,L.slot,L.head,L.other,L.used,L.fits,L.ser,L.recs,L.short,L.rest,L.all,rfl⟩;unfold iK;rw[if_neg (by simp[hc]),eo];simp only;rw[if_neg (by simp),es];simp only;rw[if_neg (by simp)];rcases aKW L' hg H.ok H.wf with⟨d',w',e,I,g,z1,z2⟩|e
 ·left;rw[e];simp only;rw[if_neg (by simp)];exact⟨d',w',rfl,I,g,z1,z2⟩
 ·right;rw[e];simp only;rw[if_pos (by decide)]
def aIZ(e:Int):Prop:=e≠13∧e≠14
instance (e:Int):Decidable (aIZ e):=by unfold aIZ;infer_instance
def aN5:aIZ 0:=by decide
def aXG:aIZ 1:=by decide
def aOr(d:Dm)(room:Int):aIZ (chk d room):=by
 have ho:aIZ (mP room d.its):=by
  unfold mP;split
  ·decide
  ·split
   ·decide
   ·split
    ·decide
    ·split<;>decide
 unfold chk;split
 ·decide
 ·split
  ·exact ho
  ·split<;>decide
def aTa(L:List It)(room:Int)(n:Nt):aIZ (rR L room n):=by
 have hp:∀i,aIZ (aA7 L room i):=λi=>by
  unfold aA7;split<;>decide
 unfold rR;split
 ·decide
 ·split
  ·split
   ·decide
   ·exact hp _
  ·split
   ·split
    ·decide
    ·exact hp _
   ·decide
def aNq(room:Int):∀(l:List Nt) (L:List It),aIZ (lK room L l).2
 | [],_=>aN5
 | n::l,L=>by
  unfold lK;split
  ·exact aTa L room n
  ·exact aNq room l _
def aUM(d:Dm)(room:Int)(r:Rc):aIZ (lA d room r).2:=by
 unfold lA;split
 ·exact aOr d room
 ·split
  ·rename_i c;rcases wV r with⟨-,b⟩|⟨-,b⟩
   ·rw[b];exact aN5
   ·rw[b];exact aXG
  ·split
   ·split
    ·exact aOr r.s room
    ·exact aN5
   ·split
    ·exact aNq room r.ns _
    ·exact aN5
def aJk{d:Dk}(H:d.Ok)(n:Nat)(l:List Tx):(iQ d n l).2≠14:=by
 have:=(oL l H n).2.2.2;omega
def aK0{d:Dk}{w:Wl}(H:d.Ok)(hb:w.broken=false)(s:Tx):(iG d w s).2.2≠14∧((iG d w s).2.1.broken=decide ((iG d w s).2.2=13)):=by
 unfold iG;rw[if_neg (by simp[hb])];split
 ·exact⟨by show(15:Int)≠14;decide,rfl⟩
 ·split
  ·exact⟨by show(1:Int)≠14;decide,rfl⟩
  ·split
   ·exact⟨by show(2:Int)≠14;decide,rfl⟩
   ·split
    ·exact⟨aJk H _ _,rfl⟩
    ·exact⟨by show(0:Int)≠14;decide,rfl⟩
def aLs{d:Dk}{w:Wl}(H:d.Ok)(hb:w.broken=false)(s:Tx):(fS d w s).2.2≠14∧((fS d w s).2.1.broken=decide ((fS d w s).2.2=13)):=by
 have hn:(gL w.hd).2≠14:=by
  unfold gL;split
  ·show(12:Int)≠14;decide
  ·show(0:Int)≠14;decide
 unfold fS;rw[if_neg (by simp[hb])];split
 ·exact⟨by show(1:Int)≠14;decide,rfl⟩
 ·split
  ·exact⟨by show(2:Int)≠14;decide,rfl⟩
  ·split
   ·exact⟨hn,rfl⟩
   ·split
    ·exact⟨aJk H _ _,rfl⟩
    ·split
     ·exact⟨aJk (oL _ H _).1 _ _,rfl⟩
     ·exact⟨by show(0:Int)≠14;decide,rfl⟩
def aS4{d:Dk}{j:Jn}(H:d.Ok)(ch:Int)(q:Pl)(ns:List Nt):
  (j.w.broken=true->oT d j ch q ns=(d,j,14))∧((oT d j ch q ns).2.2≠0->(oT d j ch q ns).2.1.s=j.s)∧((oT d j ch q ns).2.1.w.broken=decide ((oT d j ch q ns).2.2=13∨(oT d j ch q ns).2.2=14)):=by
 cases hb:j.w.broken with
 | true=>
  have e:oT d j ch q ns=(d,j,14):=by unfold oT;rw[if_pos hb]
  rw[e];exact⟨λ_=>rfl,λ_=>rfl,hb⟩
 | false=>
  refine⟨λh=>absurd h (by simp),?_⟩;unfold oT;rw[if_neg (by simp[hb])];split
  ·have:=aUM j.s j.room (gM ch q ns);refine⟨λ_=>rfl,?_⟩;show j.w.broken=decide ((lA j.s j.room (gM ch q ns)).2=13∨(lA j.s j.room (gM ch q ns)).2=14);rw[hb];exact(decide_eq_false (λc=>c.elim this.1 this.2)).symm
  ·have key:∀s:Tx,∀x:Dk×Wl×Int,x=iG d j.w s∨x=fS d j.w s->x.2.2≠14∧x.2.1.broken=decide (x.2.2=13):=λs x hx=>by
    rcases hx with rfl|rfl
    ·exact aK0 H hb s
    ·exact aLs H hb s
   have h2:(qM d j (gM ch q ns) (lA j.s j.room (gM ch q ns)).1).2.2≠14∧(qM d j (gM ch q ns) (lA j.s j.room (gM ch q ns)).1).2.1.broken=decide ((qM d j (gM ch q ns) (lA j.s j.room (gM ch q ns)).1).2.2=13):=by
    unfold qM;split
    ·exact aK0 H hb _
    ·exact aLs H hb _
   refine⟨λh=>if_neg h,?_⟩;show(qM d j (gM ch q ns) (lA j.s j.room (gM ch q ns)).1).2.1.broken=_;rw[h2.2];have h3:=h2.1;generalize (qM d j (gM ch q ns) (lA j.s j.room (gM ch q ns)).1).2.2=e at *;simp[h3]
def aR1{d:Dk}{j:Jn}(H:d.Ok)(r:Rc)(next:Dm):(qM d j r next).1.Ok∧(qM d j r next).1.size=d.size∧(qM d j r next).1.sectors=d.sectors:=by
 have ha:∀s,(iG d j.w s).1.Ok∧(iG d j.w s).1.size=d.size∧(iG d j.w s).1.sectors=d.sectors:=λs=>by
  obtain⟨a,b,c,-⟩:=oL (fV d.size j.w.hd.gen j.w.ser s) H (d.base j.w.hd.seg+j.w.used);unfold iG;split
  ·exact⟨H,rfl,rfl⟩
  ·split
   ·exact⟨H,rfl,rfl⟩
   ·split
    ·exact⟨H,rfl,rfl⟩
    ·split
     ·exact⟨H,rfl,rfl⟩
     ·split<;>exact⟨a,b,c⟩
 have hc:∀s,(fS d j.w s).1.Ok∧(fS d j.w s).1.size=d.size∧(fS d j.w s).1.sectors=d.sectors:=λs=>by
  obtain⟨a,b,c,-⟩:=oL (fV d.size (gL j.w.hd).1.gen 0 s) H (d.base (gL j.w.hd).1.seg);obtain⟨a',b',c',-⟩:=oL [(fQ d.size (gL j.w.hd).1).1] a (1-j.w.slot);unfold fS;split
  ·exact⟨H,rfl,rfl⟩
  ·split
   ·exact⟨H,rfl,rfl⟩
   ·split
    ·exact⟨H,rfl,rfl⟩
    ·split
     ·exact⟨H,rfl,rfl⟩
     ·split
      ·exact⟨a,b,c⟩
      ·split<;>exact⟨a',b'.trans b,c'.trans c⟩
 unfold qM;split
 ·exact ha _
 ·exact hc _
def aTx{d:Dk}{j:Jn}(H:d.Ok)(ch:Int)(q:Pl)(ns:List Nt):(oT d j ch q ns).1.Ok∧(oT d j ch q ns).1.size=d.size∧(oT d j ch q ns).1.sectors=d.sectors:=by
 unfold oT;split
 ·exact⟨H,rfl,rfl⟩
 ·split
  ·exact⟨H,rfl,rfl⟩
  ·exact aR1 H _ _
def aHg{d d':Dk}(h:d'.sectors=d.sectors):d'.segs=d.segs:=by unfold Dk.segs;rw[h]
def WOk.brk{d:Dk}{w:Wl}(H:WOk d w)(e:Int):WOk d (w.brk e):=⟨H.ok,H.four,H.seg,H.slot,H.used⟩
def WOk.to{d d':Dk}{w:Wl}(H:WOk d w)(ok:d'.Ok)(h:d'.sectors=d.sectors):WOk d' w:=⟨ok,by rw[h];exact H.four,H.seg,H.slot,by rw[aHg h];exact H.used⟩
def WOk.append{d:Dk}{w:Wl}(H:WOk d w)(s:Tx):WOk (iG d w s).1 (iG d w s).2.1∧(iG d w s).1.size=d.size∧(iG d w s).1.sectors=d.sectors:=by
 obtain⟨a,b,c,-⟩:=oL (fV d.size w.hd.gen w.ser s) H.ok (d.base w.hd.seg+w.used);unfold iG;split
 ·exact⟨H,rfl,rfl⟩
 ·split
  ·exact⟨H.brk _,rfl,rfl⟩
  ·split
   ·exact⟨H.brk _,rfl,rfl⟩
   ·split
    ·exact⟨H.brk _,rfl,rfl⟩
    ·rename_i hf;split
     ·exact⟨(H.brk _).to a c,b,c⟩
     ·have hf:fits d w s.length=true:=by simpa using hf
      unfold fits at hf;rw[decide_eq_true_eq] at hf;refine⟨⟨a,by show 4≤(yR d w s).1.sectors;unfold yR;rw[c];exact H.four,H.seg,H.slot,?_⟩,b,c⟩;show w.used+dQ d.size s.length≤(yR d w s).1.segs;have:=aHg (d:=d) (d':=(yR d w s).1) c;omega
def WOk.check{d:Dk}{w:Wl}(H:WOk d w)(s:Tx):WOk (fS d w s).1 (fS d w s).2.1∧(fS d w s).1.size=d.size∧(fS d w s).1.sectors=d.sectors:=by
 obtain⟨a,b,c,-⟩:=oL (fV d.size (gL w.hd).1.gen 0 s) H.ok (d.base (gL w.hd).1.seg);obtain⟨a',b',c',-⟩:=oL [(fQ d.size (gL w.hd).1).1] a (1-w.slot);unfold fS;split
 ·exact⟨H,rfl,rfl⟩
 ·split
  ·exact⟨H.brk _,rfl,rfl⟩
  ·split
   ·exact⟨H.brk _,rfl,rfl⟩
   ·rename_i hp;split
    ·exact⟨H.brk _,rfl,rfl⟩
    ·split
     ·exact⟨(H.brk _).to a c,b,c⟩
     ·have e2:(iQ (lX d (gL w.hd).1 s).1 (1-w.slot) [(fQ d.size (gL w.hd).1).1]).1.sectors=d.sectors:=c'.trans c;split
      ·exact⟨(H.brk _).to a' e2,b'.trans b,e2⟩
      ·refine⟨⟨a',by show 4≤(iQ _ _ _).1.sectors;rw[e2];exact H.four,aJK _,by show 1-w.slot≤1;omega,?_⟩,b'.trans b,e2⟩;show dQ d.size s.length≤(iQ (lX d (gL w.hd).1 s).1 (1-w.slot) [(fQ d.size (gL w.hd).1).1]).1.segs;rw[aHg e2];omega
def aT6{d:Dk}(H:d.Ok)(room:Int)(p q:Pl):(iK d room p q).1.Ok∧(iK d room p q).1.size=d.size∧(iK d room p q).1.sectors=d.sectors∧((iK d room p q).2.2=0->WOk (iK d room p q).1 (iK d room p q).2.1.w∧(iK d room p q).2.1.room=room):=by
 obtain⟨a,b,c,e⟩:=aL6 H;unfold iK;split
 ·rename_i h;exact⟨H,rfl,rfl,λx=>absurd x h⟩
 ·split
  ·rename_i h;exact⟨a,b,c,λx=>absurd x h⟩
  ·rename_i h;have hw:=e (Classical.not_not.1 h);split
   ·rename_i h;exact⟨a,b,c,λx=>absurd x h⟩
   ·obtain⟨k1,k2,k3⟩:=hw.check (kU (kZ room ⟨p,q,[]⟩ (fH d).2.1.2).1);split
    ·rename_i h;exact⟨k1.ok,k2.trans b,k3.trans c,λx=>absurd x h⟩
    ·exact⟨k1.ok,k2.trans b,k3.trans c,λ_=>⟨k1,rfl⟩⟩
def Wl.cells(a:Nat)(x:Wl):List Value:=[pT a 0,.int .u64 (x.hd.gen:Int),.int .i64 (x.hd.seg:Int),.int .i64 (x.slot:Int),.int .i64 (x.used:Int),.int .u64 (x.ser:Int),.bool x.ready,.bool x.broken]
structure wX(a w:Nat)(d:Dk)(x:Wl)(h:PH)(F:List Nat):Prop where
 here:∃Fd,F=w::Fd∧Bx h w (x.cells a)∧oD a d h Fd∧w∉Fd
 ok:WOk d x
 ser:x.ser≤x.used
 gen:x.hd.gen<18446744073709551616
def wX.upd{a w:Nat}{d:Dk}{x:Wl}{h h':PH}{F K:List Nat}(H:wX a w d x h F)(u:cT K h h')(hK:∀b∈F,b∉K):wX a w d x h' F:=by
 obtain⟨Fd,rfl,B,D,n⟩:=H.here;exact⟨⟨Fd,rfl,B.upd u (hK w (by simp)),D.upd u (λb hb=>hK b (by simp[hb])),n⟩,H.ok,H.ser,H.gen⟩
def wX.known{a w:Nat}{d:Dk}{x:Wl}{h:PH}{F:List Nat}(H:wX a w d x h F):∀b∈F,h b≠none:=by
 obtain⟨Fd,rfl,B,D,n⟩:=H.here;intro b hb;rcases iR.1 hb with rfl|hb
 ·exact B.known
 ·exact D.known b hb
def wX.good(a w:Nat)(d:Dk)(x:Wl):aHM (wX a w d x):=⟨λH=>H.known,λH u hK=>H.upd u hK⟩
def wX.ext{a w:Nat}{d:Dk}{x:Wl}{h h':PH}{F:List Nat}(H:wX a w d x h F)(u:cZ h h'):wX a w d x h' F:=(wX.good a w d x).ext H u
structure vK(a w:Nat)(x:Wl)(h:PH):Prop where
 st:cD PG h (loadAt dW (pT w 0))=some (qY a)
 disk:cX h ⟨w,0,none⟩=some (pT a 0)
 head:cD PG h (loadAt cL (pT w (0+1)))=some x.hd.v
 gen:cX h ⟨w,0+1,none⟩=some (.int .u64 (x.hd.gen:Int))
 seg:cX h ⟨w,0+1+1,none⟩=some (.int .i64 (x.hd.seg:Int))
 slot:cX h ⟨w,0+3,none⟩=some (.int .i64 (x.slot:Int))
 used:cX h ⟨w,0+4,none⟩=some (.int .i64 (x.used:Int))
 ser:cX h ⟨w,0+5,none⟩=some (.int .u64 (x.ser:Int))
 ready:cX h ⟨w,0+6,none⟩=some (.bool x.ready)
 broken:cX h ⟨w,0+7,none⟩=some (.bool x.broken)
def vK.of{a w:Nat}{x:Wl}{h:PH}(B:Bx h w (x.cells a)):vK a w x h:=
 ⟨dW.agg B (by show 0+1≤8;decide),B.cell 0,cL.agg B (by show 0+1+2≤8;decide),B.cell 1,B.cell 2,B.cell 3,B.cell 4,B.cell 5,B.cell 6,B.cell 7⟩
def aSE{h:PH}{a w:Nat}{x:Wl}(B:vK a w x h){k:cF}(hk:k (.bool x.broken) h):bT PG aDD #[pT w 0] h k:=by
 apply aCr.call;unfold aCr;simp only[dO.f6,iU.load,B.broken,cB,reduceIte,cJ,Nat.reduceAdd];exact hk
def aQT{h:PH}{a w:Nat}{d:Dk}{x:Wl}{F:List Nat}(H:wX a w d x h F)(n:Nat)(hn:n<1000000000000){k:cF}(hk:∀h',cZ h h'->k (.bool (fits d x n)) h'):bT PG aB8 #[pT w 0,.int .i64 (n:Int)] h k:=by
 apply aAz.call;unfold aAz;obtain⟨Fd,eF,B,D,n1⟩:=id H.here;have L:=vK.of B;have hm:=H.ok.ok.many;have h4:=H.ok.four;have hu:=H.ok.used;have hsg:d.segs≤4096:=by unfold Dk.segs;omega
 simp only[dO.f0,dW.f0,fL.load,L.disk,eB.f0,D.geo,cB,reduceIte,cJ,Nat.reduceAdd];refine aEH d λh1 u1=>?_;refine aHj d.size n hn ?_;have L1:=vK.of (B.ext u1);by_cases c:dQ d.size n=0
 ·have g:((0:Int)<(dQ d.size n:Int))=False:=eq_false (by omega);have e:fits d x n=false:=by unfold fits;exact decide_eq_false (λh=>h.1 c)
  simp only[g,cB,reduceIte,cJ,Nat.reduceAdd];have:=hk h1 u1;rw[e] at this;exact⟨λh=>absurd h (by decide),this⟩
 ·have g:((0:Int)<(dQ d.size n:Int))=True:=eq_true (by omega);have w1:IntKind.i64.wrap ((d.segs:Int)-(x.used:Int))=(d.segs:Int)-(x.used:Int):=eI (by omega) (by omega);have e:decide ((dQ d.size n:Int)≤(d.segs:Int)-(x.used:Int))=fits d x n:=by
   unfold fits;rw[xQ,decide_eq_true_iff,decide_eq_true_iff];omega
  simp only[g,dO.f0,dO.f3,aR.load,L1.st,L1.used,cB,reduceIte,cJ,Nat.reduceAdd];refine aGu (D.ext u1) (by omega) λh2 u2=>?_;have L2:=vK.of ((B.ext u1).ext u2);simp only[L2.used,w1,cB,reduceIte,cJ,Nat.reduceAdd];rw[e];exact⟨λh=>h,hk h2 (u1.trans u2)⟩
def aWe(a:Nat):cC PG (build dW #[(0,pT a 0)])=some (qY a):=by kernel_rfl
def aVv(a:Nat):cC PG (build dO #[(0,qY a)])=some (.agg (Wl.cells a Wl.zero).toArray):=by kernel_rfl
def aUa(a b:ByteArray):jX PG (buildSlice cU 2 #[(0,.string a),(1,.string b)])=some (.cells #[.string a,.string b] aT,λr=>pure (.slice (some ⟨r,0,none⟩) 2 2)):=by kernel_rfl
def aPX{h:PH}{r:Nat}(s t:Tx):eJ (h.set r (.cells #[.string (tx s),.string (tx t)] aT)) aT 1 (.slice (some ⟨r,0,none⟩) 2 2) ([s,t].map jJ) [r]:=eJ.lit (n:=2) (λr hr=>by
 obtain⟨m,_,rfl⟩:=pV.1 hr;rfl) eD rfl (by decide) rfl
def aF2{h:PH}{r:Nat}(s:Tx):eJ (h.set r (.cells #[.string (tx s)] aT)) aT 1 (.slice (some ⟨r,0,none⟩) 1 1) ([s].map jJ) [r]:=aFX s
def eN.none{h h':PH}{F F':List Nat}(s:eN h F h' F'){b:Nat}(hb:h' b=none):b∈F∨h b=none:=by
 by_cases c:b∈F
 ·exact .inl c
 ·cases e:h b with
  | none=>exact .inr rfl
  | some o=>have:=s.upd b o e c;rw[hb] at this;cases this
def lM{F:List Nat}{w:Nat}(n:w∉F):∀b∈F,b∉[w]:=λb hb hm=>by
 simp only[iL] at hm;exact n (hm▸hb)
def aOz{h0 h:PH}{a w:Nat}{d:Dk}{hd:Hd}{slot us se:Nat}{F0 F:List Nat}(B:Bx h w (Wl.cells a ⟨hd,slot,us,se,false,false⟩))(D:oD a d h F)(n1:w∉F)(h4:4≤d.sectors)(hs:hd.seg≤1)(h1:slot≤1)(hg:hd.gen<18446744073709551616)(hb:d.buf.length≤1000000)(st:eN h0 F0 h F)(fw:h0 w=none){k:cF}
  (hk:∀h' F' v G,wX a w d (zN d hd slot).1 h' F'->eJ h' aT 1 v ((zN d hd slot).2.map jJ) G->(∀b∈G,b∉F')->eN h0 F0 h' (F'++G)->k (.tuple #[pT w 0,v,.int .i64 0]) h'):aE3 k (pT a 0) (pT w 0) h:=by
 unfold aE3;have L:=vK.of B;have hm:=D.ok.many;have fit:=aAP d h4 hs;simp only[eB.f0,D.geo,dO.f0,dO.f1,cL.f0,cL.f1,cI.load,aR.load,L.gen,L.seg,L.st,cB,reduceIte,cJ,Nat.reduceAdd];refine aEH d λh2 u2=>?_;have L2:=vK.of (B.ext u2);refine⟨L2.st,L2.seg,L2.st,L2.st,L2.gen,?_⟩;refine aMc (D.ext u2) (by omega) hd.seg hs λh3 u3=>?_;have e3:=u2.trans u3;have L3:=vK.of (B.ext e3);refine⟨L3.st,L3.st,L3.gen,?_⟩;refine aGu (D.ext e3) (by omega) λh5 u5=>?_;have e5:=e3.trans u5;have L5:=vK.of (B.ext e5);refine⟨L5.st,L5.gen,?_⟩;refine aLQ (D.ext e5) (d.base hd.seg) d.segs (by omega) hb λh6 u6=>?_;have e6:=e5.trans u6;have L6:=vK.of (B.ext e6);refine⟨L6.gen,?_⟩;have hsg:d.segs≤4096:=by unfold Dk.segs;omega
 have sl:=Dk.secs_len d (d.base hd.seg) d.segs;refine aVZ D.ok.size (aF1 D.ok (by omega)) (by omega) λh7 v G O7 f7 u7=>?_;have e7:=e6.trans u7;rw[sl] at O7 ⊢;have hle:=aIh (size:=d.size) (gen:=hd.gen) (d.segs+1) (d.secs (d.base hd.seg) d.segs) 0;have hma:=aHz (size:=d.size) (gen:=hd.gen) (d.segs+1) (d.secs (d.base hd.seg) d.segs) 0;rw[sl] at hle;have hw:(zN d hd slot)=(⟨hd,slot,(jU d.size hd.gen (d.segs+1) (d.secs (d.base hd.seg) d.segs) 0).2,(jU d.size hd.gen (d.segs+1) (d.secs (d.base hd.seg) d.segs) 0).1.length,false,false⟩,(jU d.size hd.gen (d.segs+1) (d.secs (d.base hd.seg) d.segs) 0).1):=rfl;rw[hw] at hk;have hok:WOk d (zN d hd slot).1:=WOk.mk' D.ok h4 hs h1;rw[hw] at hok;obtain⟨R,hR⟩:∃R,jU d.size hd.gen (d.segs+1) (d.secs (d.base hd.seg) d.segs) 0=R:=⟨_,rfl⟩;rw[hR] at hk hok O7 hle hma ⊢;have B7:=B.ext e7;have D7:=D.ext e7;have cvt:cC PG (convert aR cI (.int .i64 (R.1.length:Int)))=some (.int .u64 (R.1.length:Int)):=by
  rw[show cC PG (convert aR cI (.int .i64 (R.1.length:Int)))=some (.int .u64 (IntKind.u64.wrap (R.1.length:Int))) from by kernel_rfl,jY (by omega) (by omega)]
 simp only[tP O7.slR,cvt,dO.f3,dO.f4,cB,reduceIte,cJ,Nat.reduceAdd];refine aR.put B7 (o:=4) (by show 4<8;decide) rfl λh8 B8 u8=>?_;refine cI.put B8 (o:=5) (by show 5<8;decide) rfl λh9 B9 u9=>?_;have B9:Bx h9 w (Wl.cells a ⟨hd,slot,R.2,R.1.length,false,false⟩):=B9;have u89:=u8.trans u9;have nw:w∉G:=λhx=>B.known (e6.none (f7 w hx));have dG:∀b∈G,b∉F:=λb hb hf=>D.known b hf (e6.none (f7 b hb));refine hk h9 (w::F) v G ⟨⟨F,rfl,B9,D7.upd u89 (lM n1),n1⟩,hok,hma,hg⟩ (O7.upd u89 (lM nw)) (λb hb hm=>?_) ⟨?_,λb hb=>?_⟩
 ·rcases iR.1 hm with rfl|hm
  ·exact nw hb
  ·exact dG b hb hm
 ·exact(st.upd.trans e7.upd).then u89 (λb hb=>by
   simp only[iL] at hb;rw[hb];exact .inr fw)
 ·simp only[zLT,iR,xN] at hb;rcases hb with rfl|hb|hb
  ·exact .inr fw
  ·exact st.grow b hb
  ·exact(st.trans (eN.ext e6)).none (f7 b hb)
def aM7(size:Nat)(s:Tx):(fZ size s).1.gen<18446744073709551616:=by
 have h0:Hd.zero.gen<18446744073709551616:=by decide
 have h1:(uA s).gen<18446744073709551616:=vM (0,s.drop 1) 8;unfold fZ;split
 ·exact h0
 ·split
  ·exact h0
  ·split
   ·exact h0
   ·split
    ·exact h1
    ·exact h0
def aNO{b:Hd×Int}{k:Int}{x:Hd}(hb:b.1.gen<18446744073709551616)(hh:x.gen<18446744073709551616):(wO b k x).1.gen<18446744073709551616:=by
 unfold wO;split
 ·exact hh
 ·exact hb
def aMD(size:Nat)(x y:Tx):(nC size x y).1.gen<18446744073709551616:=by
 unfold nC;exact aNO (aNO (by decide) (aM7 size x)) (aM7 size y)
def aBQ:∀(l:List Tx) (d:Dk) (n:Nat),(iQ d n l).1.buf.length≤d.buf.length+l.length
 | [],d,n=>by
  show d.fl.1.buf.length≤_;unfold Dk.fl;split
  ·exact mG _
  ·exact lD _
 | s::l,d,n=>by
  rw[aJr];have h1:=aOJ d (n:Int) s;split
  ·simp only[iP];show(d.wr (n:Int) s).1.buf.length≤_;omega
  ·have:=aBQ l (d.wr (n:Int) s).1 (n+1);simp only[iP];omega
def aQZ(d:Dk)(n:Nat):(d.secs n 1).flatten=d.at n:=by
 show([d.at (n+0)]:List Tx).flatten=_;simp
def aUS{h:PH}{a:Nat}{d:Dk}{F:List Nat}(D:oD a d h F)(hb:d.buf.length≤999000){k:cF}
  (bad:∀h' F',oD a (fH d).1 h' F'->eN h F h' F'->(fH d).2.2≠0->k (.tuple #[.pointer none,.slice none 0 0,.int .i64 (fH d).2.2]) h')
  (hk:∀h' F' w v G,wX a w (fH d).1 (fH d).2.1.1 h' F'->eJ h' aT 1 v ((fH d).2.1.2.map jJ) G->(∀b∈G,b∉F')->eN h F h' (F'++G)->(fH d).2.2=0->k (.tuple #[pT w 0,v,.int .i64 0]) h'):bT PG aIT #[pT a 0] h k:=by
 apply aFe.call;unfold aFe;have hm:=D.ok.many;have hz:=D.ok.size;unfold fH at bad hk;simp only[aWe,aVv,cB,reduceIte,cJ,Nat.reduceAdd];intro r3 hr3
 try rw[cO]
 have u3:cZ h (h.set r3 (.cells (Value.cells (.agg (Wl.cells a Wl.zero).toArray)) dO)):=cT.new hr3;have B3:Bx (h.set r3 (.cells (Value.cells (.agg (Wl.cells a Wl.zero).toArray)) dO)) r3 (Wl.cells a Wl.zero):=Bx.new;generalize h.set r3 (.cells (Value.cells (.agg (Wl.cells a Wl.zero).toArray)) dO)=h3 at *;have D3:=D.ext u3;have n3:r3∉F:=λhm=>D.known r3 hm hr3;simp only[eB.f0,D3.geo,cB,reduceIte,cJ,Nat.reduceAdd];refine aMM d λh4 u4=>?_;have e4:=u3.trans u4;by_cases c4:d.sectors<4
 ·have g:((d.sectors:Int)<4)=True:=eq_true (by omega);rw[if_pos c4] at bad;simp only[g,cB,reduceIte,cJ,Nat.reduceAdd];exact bad h4 F (D.ext e4) (eN.ext e4) (by show(1:Int)≠0;decide)
 ·have g:((d.sectors:Int)<4)=False:=eq_false (by omega);rw[if_neg c4] at bad hk;simp only[g,cB,reduceIte,cJ,Nat.reduceAdd];refine aO9 (D.ext e4) (by omega) λh5 F5 D5 s5=>?_;have st5:=(eN.ext (F:=F) e4).trans s5;obtain⟨B5,n5⟩:=(B3.ext u4).step s5 n3;by_cases c5:d.fl.2=0
  ·have q:(d.fl.2 !=0)=false:=by rw[c5];rfl
   rw[if_neg (λe=>e c5)] at bad hk;have L5:=vK.of B5;have eg:d.fl.1.size=d.size:=d.fl_geo.1;have es:d.fl.1.sectors=d.sectors:=d.fl_geo.2;have eb:d.fl.1.buf.length≤999000:=by
    unfold Dk.fl;split
    ·exact hb
    ·exact lD _
   simp only[dY,q,eB.f0,D5.geo,dO.f0,L5.st,cB,reduceIte,cJ,Nat.reduceAdd];refine aEH d.fl.1 λh6 u6=>?_;have L6:=vK.of (B5.ext u6);refine⟨L6.st,L6.st,?_⟩;refine aLQ (D5.ext u6) 0 1 (by omega) (by omega) λh7 u7=>?_;have e7:=u6.trans u7;have L7:=vK.of (B5.ext e7);refine⟨L7.st,?_⟩;refine aLQ (D5.ext e7) 1 1 (by omega) (by omega) λh8 u8=>?_;have e8:=e7.trans u8;rw[aQZ,aQZ,eg];have al0:=D5.ok.at_len (n:=0) (by omega);have al1:=D5.ok.at_len (n:=1) (by omega);rw[eg] at al0 al1;unfold fU at hz;simp only[aUa,cB,reduceIte,cJ,Nat.reduceAdd];intro r29 hr29;refine gY ?_
   try rw[cO]
   have O9:=aPX (h:=h8) (r:=r29) (d.fl.1.at 0) (d.fl.1.at 1);have u9:cZ h8 (h8.set r29 (.cells #[.string (tx (d.fl.1.at 0)),.string (tx (d.fl.1.at 1))] aT)):=cT.new hr29;generalize h8.set r29 (.cells #[.string (tx (d.fl.1.at 0)),.string (tx (d.fl.1.at 1))] aT)=h9 at *;refine aS6 d.size _ _ O9.slR (by omega) (by omega) λh10 u10=>?_;have e10:=(e8.trans u9).trans u10;have B10:=B5.ext e10;have D10:=D5.ext e10;have st10:=st5.trans (eN.ext (F:=F5) e10);obtain⟨N,hN⟩:∃N,nC d.size (d.fl.1.at 0) (d.fl.1.at 1)=N:=⟨_,rfl⟩;have hno:=aHw d.size (d.fl.1.at 0) (d.fl.1.at 1);have hng:=aMD d.size (d.fl.1.at 0) (d.fl.1.at 1);rw[hN] at bad hk hno hng ⊢;obtain⟨N1,N2⟩:=N;simp only[dO.f1,dO.f2,cB,reduceIte,cJ,Nat.reduceAdd];refine cL.put B10 (vs:=N1.cells) (o:=1) rfl (by show 1+2≤8;decide) N1.isC λh11 B11 u11=>?_;refine aR.put B11 (o:=3) (by show 3<8;decide) rfl λh12 B12 u12=>?_;have c12:cX h12 ⟨r3,0+3,none⟩=some (.int .i64 N2):=B12.cell 3;have u112:=u11.trans u12;have D12:=D10.upd u112 (lM n5);have st12:eN h F h12 F5:=⟨st10.upd.then u112 (λb hb=>by
    simp only[iL] at hb;rw[hb];exact .inr hr3),st10.grow⟩
   by_cases c:N2<0
   ·have g:(N2<0)=True:=eq_true c;rw[if_pos c] at bad hk;simp only[aR.load,c12,g,aQL,cB,reduceIte,cJ,Nat.reduceAdd];refine cL.put B12 (vs:=Hd.cells ⟨1,0⟩) (o:=1) rfl (by show 1+2≤8;decide) (Hd.isC _) λh13 B13 u13=>?_;refine aR.put B13 (o:=3) (by show 3<8;decide) rfl λh14 B14 u14=>?_;have B14:Bx h14 r3 (Wl.cells a ⟨⟨1,0⟩,1,0,0,false,false⟩):=B14;have u134:=u13.trans u14;have D14:=D12.upd u134 (lM n5);have L14:=vK.of B14;have st14:eN h F h14 F5:=⟨st12.upd.then u134 (λb hb=>by
     simp only[iL] at hb;rw[hb];exact .inr hr3),st12.grow⟩
    simp only[eB.f0,D14.geo,dO.f1,L14.head,cB,reduceIte,cJ,Nat.reduceAdd];refine aEH d.fl.1 λh15 u15=>?_;have L15:=vK.of (B14.ext u15);refine⟨L15.head,?_⟩;refine aO5 d.fl.1.size ⟨1,0⟩ (by decide) (by decide) λh16 u16=>?_;have e16:=u15.trans u16;have L16:=vK.of (B14.ext e16);rw[eg];simp only[dO.f0,dO.f2,L16.st,aR.load,L16.slot,aFw,cB,reduceIte,cJ,Nat.reduceAdd];intro r76 hr76;refine gY ?_
    try rw[cO]
    have O17:=aF2 (h:=h16) (r:=r76) (fQ d.size ⟨1,0⟩).1;have u17:cZ h16 (h16.set r76 (.cells #[.string (tx (fQ d.size ⟨1,0⟩).1)] aT)):=cT.new hr76;generalize h16.set r76 (.cells #[.string (tx (fQ d.size ⟨1,0⟩).1)] aT)=h17 at *;have e17:=e16.trans u17;have n76:∀b∈[r76],b∉F5:=λb hb hf=>by
     simp only[iL] at hb;rw[hb] at hf;exact D14.known r76 hf (e16.none hr76)
    refine aKl (D14.ext e17) 1 (by decide) O17 n76 (by simp only[iP,kI];omega) λh18 F18 D18 s18=>?_;obtain⟨B18,n18⟩:=(B14.ext e17).step s18 n5;have st18:=(st14.trans (eN.ext e17)).trans s18;obtain⟨P,hP⟩:∃P,iQ d.fl.1 1 [(fQ d.size ⟨1,0⟩).1]=P:=⟨_,rfl⟩;have hpo:=oL [(fQ d.size ⟨1,0⟩).1] D5.ok 1;have hpb:=aBQ [(fQ d.size ⟨1,0⟩).1] d.fl.1 1;rw[hP] at bad hk D18 hpo hpb ⊢;by_cases c6:P.2=0
    ·have q6:(P.2 !=0)=false:=by rw[c6];rfl
     rw[if_neg (λe=>e c6)] at hk;simp only[dY,q6,cB,reduceIte,cJ,Nat.reduceAdd];simp only[iP,kI] at hpb;refine aOz B18 D18 n18 (by rw[hpo.2.2.1];omega) (by decide) (by decide) (by decide) (by omega) st18 hr3 λh' F' v G W O dj st=>?_;exact hk h' F' r3 v G W O dj st rfl
    ·have q6:(P.2 !=0)=true:=bne_iff_ne.2 c6;rw[if_pos c6] at bad;simp only[dY,q6,cB,reduceIte,cJ,Nat.reduceAdd];exact bad h18 F18 D18 st18 c6
   ·have g:(N2<0)=False:=eq_false c;rw[if_neg c] at hk;simp only[aR.load,c12,g,cB,reduceIte,cJ,Nat.reduceAdd];have en:N2=((N2.toNat:Nat):Int):=by omega
    have B12:Bx h12 r3 (Wl.cells a ⟨N1,N2.toNat,0,0,false,false⟩):=by
     rw[en] at B12;exact B12
    have hno:=hno;refine aOz B12 D12 n5 (by rw[es];omega) hno.1 (by have:=hno.2;simp only at this;omega) hng (by omega) st12 hr3 λh' F' v G W O dj st=>?_;exact hk h' F' r3 v G W O dj st rfl
  ·have q:(d.fl.2 !=0)=true:=bne_iff_ne.2 c5;rw[if_pos c5] at bad;simp only[dY,q,cB,reduceIte,cJ,Nat.reduceAdd];exact bad h5 F5 D5 st5 c5
def aSN{h:PH}{a w:Nat}{d:Dk}{x:Wl}{F:List Nat}{fv:Value}(H:wX a w d x h F){Q:Dk->Wl->Int->Prop}{k:cF}
  (body:x.broken=false->∀k':Value->PH->Prop,(∀h' F' d' x' e,wX a w d' x' h' F'->eN h F h' F'->Q d' x' e->k' (.int .i64 e) h')->yE PG fv #[] h k')
  (hk0:x.broken=true->k (.int .i64 14) h)
  (hk:x.broken=false->∀h' F' d' x' e,wX a w d' (x'.brk e) h' F'->eN h F h' F'->Q d' x' e->k (.int .i64 e) h'):bT PG aCv #[pT w 0,fv] h k:=by
 apply aFl.call;unfold aFl;obtain⟨Fd,eF,B,D,n1⟩:=id H.here;have L:=vK.of B;cases c:x.broken with
 | true=>
  have lb:=L.broken;rw[c] at lb;simp only[dO.f6,iU.load,lb,cB,reduceIte,cJ,Nat.reduceAdd];exact hk0 c
 | false=>
  have lb:=L.broken;rw[c] at lb;simp only[dO.f6,iU.load,lb,cB,reduceIte,cJ,Nat.reduceAdd];refine body c _ λh' F' d' x' e H' st q=>?_;obtain⟨Fd',eF',B',D',n'⟩:=H'.here;have qe:(e==13)=decide (e=13):=by rw[xQ,beq_iff_eq,decide_eq_true_iff]
  simp only[fO,qe,dO.f6,cB,reduceIte,cJ,Nat.reduceAdd];refine iU.put B' (o:=7) (by show 7<8;decide) rfl λh2 B2 u2=>?_;have B2:Bx h2 w ((x'.brk e).cells a):=B2;refine hk c h2 F' d' x' e ⟨⟨Fd',eF',B2,D'.upd u2 (lM n'),n'⟩,H'.ok.brk e,H'.ser,H'.gen⟩ ?_ q;refine⟨st.upd.then u2 (λb hb=>?_),st.grow⟩;simp only[iL] at hb;exact st.grow b (by rw[eF',hb];simp)
def eN.in{h h':PH}{F F':List Nat}{w:Nat}(n:w∉F)(s:eN h F h' F'):eN h (w::F) h' (w::F'):=
 ⟨s.upd.mono λb hb=>.inl (by simp[hb]),λb hb=>by
  rcases iR.1 hb with rfl|hb
  ·exact .inl (by simp)
  ·rcases s.grow b hb with e|e
   ·exact .inl (by simp[e])
   ·exact .inr e⟩
def aPg{h:PH}{a w r1 r3:Nat}{d:Dk}{x:Wl}{F:List Nat}(H:wX a w d x h F)(hx:x.broken=false)(s:Tx)(hs:s.length≤1000000)(hb:d.buf.length≤990000)(B1:Bx h r1 [pT w 0])(B3:Bx h r3 [.string (tx s)])(m1:r1∉F){k:cF}
  (hk:∀h' F' d' x' e,wX a w d' x' h' F'->eN h F h' F'->iG d x s=(d',x'.brk e,e)->k (.int .i64 e) h'):bT PG aB6 #[pT r1 0,pT r3 0] h k:=by
 apply tO.call;unfold tO;obtain⟨Fd,rfl,B,D,n1⟩:=id H.here;have L:=vK.of B;have hm:=D.ok.many;have h4:=H.ok.four;have hu:=H.ok.used;have hser:=H.ser;have hsg:d.segs≤4096:=by unfold Dk.segs;omega
 have hm1:r1≠w∧r1∉Fd:=by simpa using m1
 cases cr:x.ready with
 | false=>
  have lr:=L.ready;rw[cr] at lr;simp only[eH.load,gJ B1,dO.f5,iU.load,lr,cB,reduceIte,cJ,Nat.reduceAdd];refine hk h _ d x 15 H eN.refl ?_;unfold iG;rw[if_neg (by rw[hx];decide),if_pos cr]
 | true=>
  have lr:=L.ready;rw[cr] at lr;simp only[eH.load,gJ B1,dO.f5,iU.load,lr,dO.f0,dW.f0,fL.load,L.disk,eB.f0,D.geo,dO.f1,cL.f0,cI.load,L.gen,dO.f4,L.ser,aT.load,gJ B3,cB,reduceIte,cJ,Nat.reduceAdd];refine aEH d λh2 u2=>?_;have L2:=vK.of (B.ext u2);simp only[gJ (B1.ext u2),gJ (B3.ext u2),L2.gen,L2.ser,cB,reduceIte,cJ,Nat.reduceAdd];refine⟨trivial,trivial,trivial,trivial,trivial,?_⟩;refine aOg d.size x.hd.gen x.ser s D.ok.size H.gen (by omega) hs λh3 v G O3 f3 u3=>?_;have e3:=u2.trans u3;have C1:=B1.ext e3;have C3:=B3.ext e3;have H3:=H.ext e3;by_cases c1:dQ d.size s.length=0
  ·have q1:((1:Int) !=0)=true:=rfl;rw[if_pos c1];simp only[dY,q1,cB,reduceIte,cJ,Nat.reduceAdd];refine hk h3 _ d x 1 H3 (eN.ext e3) ?_;unfold iG;rw[if_neg (by rw[hx];decide),if_neg (by rw[cr];decide),if_pos c1]
  ·have q1:((0:Int) !=0)=false:=rfl;rw[if_neg c1];simp only[dY,q1,gJ C1,gJ C3,iO,cB,reduceIte,cJ,Nat.reduceAdd];refine aQT H3 s.length (by omega) λh4' u4=>?_;have e4:=e3.trans u4;have H4:=H.ext e4;cases cf:fits d x s.length with
   | false=>
    simp only[cB,reduceIte,cJ,Nat.reduceAdd];refine hk h4' _ d x 2 H4 (eN.ext e4) ?_;unfold iG;rw[if_neg (by rw[hx];decide),if_neg (by rw[cr];decide),if_neg c1,if_pos cf]
   | true=>
    have L4:=vK.of (B.ext e4);have hf:=cf;unfold fits at hf;rw[decide_eq_true_eq] at hf;have hbs:d.base x.hd.seg≤10000:=by
     have:=aAP d h4 H.ok.seg;omega
    have w1:IntKind.i64.wrap ((d.base x.hd.seg:Int)+(x.used:Int))=((d.base x.hd.seg+x.used:Nat):Int):=by rw[eI (by omega) (by omega)];omega
    simp only[gJ (B1.ext e4),dO.f0,dO.f1,L4.st,cL.f1,aR.load,L4.seg,dO.f3,L4.used,cB,reduceIte,cJ,Nat.reduceAdd];refine aMc (D.ext e4) (by omega) x.hd.seg H.ok.seg λh5 u5=>?_;have e5:=e4.trans u5;have L5:=vK.of (B.ext e5);simp only[gJ (B1.ext e5),L5.st,L5.used,w1,cB,reduceIte,cJ,Nat.reduceAdd];refine⟨trivial,trivial,trivial,trivial,?_⟩;have fl:(fV d.size x.hd.gen x.ser s).length=dQ d.size s.length:=jS ..;have dG:∀b∈G,b∉Fd:=λb hb hf=>D.known b hf (u2.none (f3 b hb));refine aKl (D.ext e5) (d.base x.hd.seg+x.used) (by omega) (O3.ext (u4.trans u5)) dG (by omega) λh6 F6 D6 s6=>?_;obtain⟨B6,n6⟩:=(B.ext e5).step s6 n1;have st6:eN h (w::Fd) h6 (w::F6):=(eN.ext e5).trans (eN.in n1 s6);have C6:=((B1.ext e5).step s6 hm1.2).1;have hpo:=oL (fV d.size x.hd.gen x.ser s) D.ok (d.base x.hd.seg+x.used);have hwo:=H.ok.append s;have hd':iQ d (d.base x.hd.seg+x.used) (fV d.size x.hd.gen x.ser s)=yR d x s:=rfl;rw[hd'] at D6 hpo ⊢;have hap:=H.ok.ap cf;by_cases c6:(yR d x s).2=0
    ·have q6:((yR d x s).2 !=0)=false:=by rw[c6];rfl
     have e:iG d x s=((yR d x s).1,⟨x.hd,x.slot,x.used+dQ d.size s.length,x.ser+1,x.ready,false⟩,0):=by
      unfold iG;rw[if_neg (by rw[hx];decide),if_neg (by rw[cr];decide),if_neg c1,if_neg (by rw[cf];decide),if_neg (λe=>e c6)]
     rw[e] at hwo;have L6:=vK.of B6;have w2:IntKind.i64.wrap ((x.used:Int)+((fV d.size x.hd.gen x.ser s).length:Int))=((x.used+dQ d.size s.length:Nat):Int):=by rw[fl,eI (by omega) (by omega)];omega
     have w3:IntKind.u64.wrap ((x.ser:Int)+1)=((x.ser+1:Nat):Int):=by rw[jY (by omega) (by omega)];omega
     simp only[dY,q6,gJ C6,dO.f3,aR.load,L6.used,tP O3.slR,w2,cB,reduceIte,cJ,Nat.reduceAdd];refine aR.put B6 (o:=4) (by show 4<8;decide) rfl λh7 B7 u7=>?_;have C7:=C6.upd u7 (by simpa using hm1.1);have c5:cX h7 ⟨w,0+5,none⟩=some (.int .u64 (x.ser:Int)):=B7.cell 5;simp only[gJ C7,dO.f4,cI.load,c5,w3,cB,reduceIte,cJ,Nat.reduceAdd];refine cI.put B7 (o:=5) (by show 5<8;decide) rfl λh8 B8 u8=>?_;have B8:Bx h8 w (Wl.cells a ⟨x.hd,x.slot,x.used+dQ d.size s.length,x.ser+1,x.ready,x.broken⟩):=B8;rw[hx] at B8;have u78:=u7.trans u8;refine hk h8 (w::F6) (yR d x s).1 ⟨x.hd,x.slot,x.used+dQ d.size s.length,x.ser+1,x.ready,false⟩ 0 ⟨⟨F6,rfl,B8,D6.upd u78 (lM n6),n6⟩,hwo.1,by show x.ser+1≤x.used+dQ d.size s.length;omega,H.gen⟩ ⟨st6.upd.trans (u78.mono λb hb=>.inl (by simp only[iL] at hb;simp[hb])),st6.grow⟩ ?_;rw[e];rfl
    ·have q6:((yR d x s).2 !=0)=true:=bne_iff_ne.2 c6;simp only[dY,q6,cB,reduceIte,cJ,Nat.reduceAdd];refine hk h6 (w::F6) (yR d x s).1 x (yR d x s).2 ⟨⟨F6,rfl,B6,D6,n6⟩,H.ok.to hpo.1 hpo.2.2.1,H.ser,H.gen⟩ st6 ?_;unfold iG;rw[if_neg (by rw[hx];decide),if_neg (by rw[cr];decide),if_neg c1,if_neg (by rw[cf];decide),if_pos c6]
def aQa{h:PH}{a w:Nat}{d:Dk}{x:Wl}{F:List Nat}(H:wX a w d x h F)(s:Tx)(hs:s.length≤1000000)(hb:d.buf.length≤990000){k:cF}
  (hk:∀h' F',wX a w (iG d x s).1 (iG d x s).2.1 h' F'->eN h F h' F'->k (.int .i64 (iG d x s).2.2) h'):bT PG aDF #[pT w 0,.string (tx s)] h k:=by
 apply aCw.call;unfold aCw;intro r1 hr1
 try rw[cO]
 have u1:cZ h (h.set r1 (.cells (Value.cells (pT w 0)) eH)):=cT.new hr1;have B1:Bx (h.set r1 (.cells (Value.cells (pT w 0)) eH)) r1 [pT w 0]:=Bx.new;generalize h.set r1 (.cells (Value.cells (pT w 0)) eH)=h1 at *;intro r3 hr3
 try rw[cO]
 have u3:cZ h1 (h1.set r3 (.cells (Value.cells (.string (tx s))) aT)):=cT.new hr3;have B3:Bx (h1.set r3 (.cells (Value.cells (.string (tx s))) aT)) r3 [.string (tx s)]:=Bx.new;generalize h1.set r3 (.cells (Value.cells (.string (tx s))) aT)=h3 at *;have e3:=u1.trans u3;have m1:r1∉F:=λhm=>H.known r1 hm hr1;simp only[eH.load,gJ (B1.ext u3),aDM,cB,reduceIte,cJ,Nat.reduceAdd];refine aSN (Q:=λd' x' e=>iG d x s=(d',x'.brk e,e)) (H.ext e3) (λhx k' hk'=>?_) (λhx=>?_) (λhx h' F' d' x' e H' st q=>?_)
 ·exact aPg (H.ext e3) hx s hs hb (B1.ext u3) B3 m1 hk'
 ·have e:iG d x s=(d,x,14):=by unfold iG;rw[if_pos hx]
  rw[e] at hk;exact hk h3 F (H.ext e3) (eN.ext e3)
 ·rw[q] at hk;exact hk h' F' H' ((eN.ext e3).trans st)
def aOc{h:Hd}(hg:h.gen<18446744073709551616):(gL h).1.gen<18446744073709551616:=by
 unfold gL;split
 ·decide
 ·show h.gen+1<_;omega
def aQl{h:PH}{a w r1 r3:Nat}{d:Dk}{x:Wl}{F:List Nat}(H:wX a w d x h F)(hx:x.broken=false)(s:Tx)(hs:s.length≤1000000)(hb:d.buf.length≤990000)(B1:Bx h r1 [pT w 0])(B3:Bx h r3 [.string (tx s)])(m1:r1∉F)(m3:r3∉F){k:cF}
  (hk:∀h' F' d' x' e,wX a w d' x' h' F'->eN h F h' F'->fS d x s=(d',x'.brk e,e)->k (.int .i64 e) h'):bT PG yO #[pT r1 0,pT r3 0] h k:=by
 apply pJ.call;unfold pJ;obtain⟨Fd,rfl,B,D,n1⟩:=id H.here;have L:=vK.of B;have hm:=D.ok.many;have h4:=H.ok.four;have hu:=H.ok.used;have hser:=H.ser;have hz:=D.ok.size;have hsg:d.segs≤4096:=by unfold Dk.segs;omega
 have hm1:r1≠w∧r1∉Fd:=by simpa using m1
 have hm3:r3≠w∧r3∉Fd:=by simpa using m3
 simp only[eH.load,gJ B1,dO.f0,dW.f0,fL.load,L.disk,eB.f0,D.geo,aT.load,gJ B3,iO,cB,reduceIte,cJ,Nat.reduceAdd];refine aEH d λh2 u2=>?_;have L2:=vK.of (B.ext u2);refine⟨gJ (B3.ext u2),?_⟩;refine aHj d.size s.length (by omega) ?_;by_cases c1:dQ d.size s.length=0
 ·have q1:(((dQ d.size s.length:Nat):Int)==0)=true:=by rw[c1];rfl
  simp only[fO,q1,cB,reduceIte,cJ,Nat.reduceAdd];refine hk h2 _ d x 1 (H.ext u2) (eN.ext u2) ?_;unfold fS;rw[if_neg (by rw[hx];decide),if_pos c1]
 ·have q1:(((dQ d.size s.length:Nat):Int)==0)=false:=by rw[beq_eq_false_iff_ne];omega
  simp only[fO,q1,gJ (B1.ext u2),dO.f0,L2.st,cB,reduceIte,cJ,Nat.reduceAdd];refine aGu (D.ext u2) (by omega) λh3 u3=>?_;have e3:=u2.trans u3;by_cases c2:d.segs<dQ d.size s.length
  ·have g2:((d.segs:Int)<(dQ d.size s.length:Int))=True:=eq_true (by omega);simp only[g2,cB,reduceIte,cJ,Nat.reduceAdd];refine hk h3 _ d x 2 (H.ext e3) (eN.ext e3) ?_;unfold fS;rw[if_neg (by rw[hx];decide),if_neg c1,if_pos c2]
  ·have g2:((d.segs:Int)<(dQ d.size s.length:Int))=False:=eq_false (by omega);have L3:=vK.of (B.ext e3);simp only[g2,gJ (B1.ext e3),dO.f1,L3.head,cB,reduceIte,cJ,Nat.reduceAdd];refine aVM x.hd H.gen λh4' u4=>?_;have e4:=e3.trans u4;obtain⟨N,hN⟩:∃N,gL x.hd=N:=⟨_,rfl⟩;have hng:=aOc H.gen;have hns:=aJK x.hd;have hnh:=aNZ (h:=x.hd) hz;have eW:fS d x s=if N.2≠0 then(d,x.brk N.2,N.2)
     else if (lX d N.1 s).2≠0 then((lX d N.1 s).1,x.brk (lX d N.1 s).2,(lX d N.1 s).2)
     else if (iQ (lX d N.1 s).1 (1-x.slot) [(fQ d.size N.1).1]).2≠0 then
      ((iQ (lX d N.1 s).1 (1-x.slot) [(fQ d.size N.1).1]).1,x.brk (iQ (lX d N.1 s).1 (1-x.slot) [(fQ d.size N.1).1]).2,(iQ (lX d N.1 s).1 (1-x.slot) [(fQ d.size N.1).1]).2)
     else((iQ (lX d N.1 s).1 (1-x.slot) [(fQ d.size N.1).1]).1,⟨N.1,1-x.slot,dQ d.size s.length,1,true,false⟩,0):=by
    unfold fS;rw[if_neg (by rw[hx];decide),if_neg c1,if_neg c2,hN]
   rw[hN] at hng hns hnh ⊢;obtain⟨N1,N2⟩:=N;simp only at eW hng hns hnh;simp only[cB,reduceIte,cJ,Nat.reduceAdd];intro r31 hr31
   try rw[cO]
   refine cL.fill (vs:=N1.cells) hr31 rfl N1.isC λh5 B5 u5=>?_;have e5:=e4.trans u5;by_cases c3:N2=0
   ·have q3:(N2 !=0)=false:=by rw[c3];rfl
    have L5:=vK.of (B.ext e5);have n31:r31∉w::Fd:=λhm=>(H.ext e4).known r31 hm hr31;have n31':r31≠w∧r31∉Fd:=by simpa using n31
    have b0:cX h5 ⟨r31,0,none⟩=some (.int .u64 (N1.gen:Int)):=B5.cell 0;rw[if_neg (λe=>e c3)] at eW;simp only[dY,q3,gJ (B1.ext e5),dO.f0,dW.f0,fL.load,L5.disk,eB.f0,(D.ext e5).geo,cL.f0,cI.load,b0,gJ (B3.ext e5),cB,reduceIte,cJ,Nat.reduceAdd];refine aEH d λh6 u6=>?_;have e6:=e5.trans u6;have b0':cX h6 ⟨r31,0,none⟩=some (.int .u64 (N1.gen:Int)):=(B5.ext u6).cell 0;refine⟨gJ (B3.ext e6),b0',?_⟩;refine aOg d.size N1.gen 0 s hz hng (by decide) hs λh7 v G O7 f7 u7=>?_;have e7:=e6.trans u7;have L7:=vK.of (B.ext e7);have B7:=(B5.ext u6).ext u7;have b1:cX h7 ⟨r31,0+1,none⟩=some (.int .i64 (N1.seg:Int)):=B7.cell 1;simp only[gJ (B1.ext e7),dO.f0,L7.st,cL.f1,aR.load,b1,cB,reduceIte,cJ,Nat.reduceAdd];refine aMc (D.ext e7) (by omega) N1.seg hns λh8 u8=>?_;have e8:=e7.trans u8;have L8:=vK.of (B.ext e8);refine⟨L8.st,gJ (B1.ext e8),?_⟩;have fl:(fV d.size N1.gen 0 s).length=dQ d.size s.length:=jS ..;have hfit:=aAP d h4 hns;have dG:∀b∈G,b∉Fd:=λb hb hf=>D.known b hf (e6.none (f7 b hb));refine aKl (D.ext e8) (d.base N1.seg) (by omega) (O7.ext u8) dG (by omega) λh9 F9 D9 s9=>?_;obtain⟨B9,n9⟩:=(B.ext e8).step s9 n1;have st9:eN h (w::Fd) h9 (w::F9):=(eN.ext e8).trans (eN.in n1 s9);obtain⟨C1,m1'⟩:=(B1.ext e8).step s9 hm1.2;obtain⟨C3,m3'⟩:=(B3.ext e8).step s9 hm3.2;obtain⟨Bn,mn⟩:=(B7.ext u8).step s9 n31'.2;have hpo:=oL (fV d.size N1.gen 0 s) D.ok (d.base N1.seg);have hpb:=aBQ (fV d.size N1.gen 0 s) d (d.base N1.seg);have hd':iQ d (d.base N1.seg) (fV d.size N1.gen 0 s)=lX d N1 s:=rfl;rw[hd'] at D9 hpo hpb ⊢;by_cases c4:(lX d N1 s).2=0
    ·have q4:((lX d N1 s).2 !=0)=false:=by rw[c4];rfl
     rw[if_neg (λe=>e c4)] at eW;have L9:=vK.of B9;simp only[dY,q4,gJ C1,dO.f0,dW.f0,fL.load,L9.disk,eB.f0,D9.geo,vQ Bn,cB,reduceIte,cJ,Nat.reduceAdd];refine aEH _ λh10 u10=>?_;refine⟨vQ (Bn.ext u10),?_⟩;refine aO5 (lX d N1 s).1.size N1 hng (by omega) λh11 u11=>?_;have e11:=u10.trans u11;have L11:=vK.of (B9.ext e11);rw[hpo.2.1];have hsl:=H.ok.slot;have w1:IntKind.i64.wrap ((1:Int)-(x.slot:Int))=((1-x.slot:Nat):Int):=by rw[eI (by omega) (by omega)];omega
     simp only[gJ (C1.ext e11),dO.f0,L11.st,dO.f2,aR.load,L11.slot,w1,aFw,cB,reduceIte,cJ,Nat.reduceAdd];intro r92 hr92;refine gY ?_
     try rw[cO]
     have O12:=aF2 (h:=h11) (r:=r92) (fQ d.size N1).1;have u12:cZ h11 (h11.set r92 (.cells #[.string (tx (fQ d.size N1).1)] aT)):=cT.new hr92;generalize h11.set r92 (.cells #[.string (tx (fQ d.size N1).1)] aT)=h12 at *;have e12:=e11.trans u12;have n92:∀b∈[r92],b∉F9:=λb hb hf=>by
      simp only[iL] at hb;rw[hb] at hf;exact D9.known r92 hf (e11.none hr92)
     refine aKl (D9.ext e12) (1-x.slot) (by omega) O12 n92 (by simp only[iP,kI];omega) λh13 F13 D13 s13=>?_;obtain⟨B13,n13⟩:=(B9.ext e12).step s13 n9;have st13:eN h (w::Fd) h13 (w::F13):=(st9.trans (eN.ext e12)).trans (eN.in n9 s13);obtain⟨E1,-⟩:=(C1.ext e12).step s13 m1';obtain⟨En,-⟩:=(Bn.ext e12).step s13 mn;have hpo2:=oL [(fQ d.size N1).1] hpo.1 (1-x.slot);obtain⟨P,hP⟩:∃P,iQ (lX d N1 s).1 (1-x.slot) [(fQ d.size N1).1]=P:=⟨_,rfl⟩;rw[hP] at D13 hpo2 eW ⊢;have geo:P.1.sectors=d.sectors:=hpo2.2.2.1.trans hpo.2.2.1;by_cases c5:P.2=0
     ·have q5:(P.2 !=0)=false:=by rw[c5];rfl
      rw[if_neg (λe=>e c5)] at eW;have L13:=vK.of B13;simp only[dY,q5,gJ E1,dO.f1,dO.f2,dO.f3,dO.f4,dO.f5,vQ En,aR.load,L13.slot,w1,cB,reduceIte,cJ,Nat.reduceAdd];refine cL.put B13 (vs:=N1.cells) (o:=1) rfl (by show 1+2≤8;decide) N1.isC λh14 B14 u14=>?_;have nn:r1∉[w]:=by simpa using hm1.1
      have E14:=gJ (E1.upd u14 nn);refine⟨E14,E14,E14,E14,?_⟩;refine aR.put B14 (o:=3) (by show 3<8;decide) rfl λh15 B15 u15=>?_;have E15:=gJ ((E1.upd u14 nn).upd u15 nn);refine⟨E15,E15,E15,?_⟩;refine aR.put B15 (o:=4) (by show 4<8;decide) rfl λh16 B16 u16=>?_;have E16:=gJ (((E1.upd u14 nn).upd u15 nn).upd u16 nn);refine⟨E16,E16,?_⟩;refine cI.put B16 (o:=5) (by show 5<8;decide) rfl λh17 B17 u17=>?_;have E17:=gJ ((((E1.upd u14 nn).upd u15 nn).upd u16 nn).upd u17 nn);refine⟨E17,?_⟩;refine iU.put B17 (o:=6) (by show 6<8;decide) rfl λh18 B18 u18=>?_;have B18:Bx h18 w (Wl.cells a ⟨N1,1-x.slot,dQ d.size s.length,1,true,x.broken⟩):=B18;rw[hx] at B18;have uu:=(((u14.trans u15).trans u16).trans u17).trans u18;have hwo:=H.ok.check s;rw[eW] at hwo;refine hk h18 (w::F13) P.1 ⟨N1,1-x.slot,dQ d.size s.length,1,true,false⟩ 0 ⟨⟨F13,rfl,B18,D13.upd uu (lM n13),n13⟩,hwo.1,by show 1≤dQ d.size s.length;omega,hng⟩ ⟨st13.upd.trans (uu.mono λb hb=>.inl (by simp only[iL] at hb;simp[hb])),st13.grow⟩ ?_;rw[eW];rfl
     ·have q5:(P.2 !=0)=true:=bne_iff_ne.2 c5;rw[if_pos c5] at eW;simp only[dY,q5,cB,reduceIte,cJ,Nat.reduceAdd];exact hk h13 (w::F13) P.1 x P.2 ⟨⟨F13,rfl,B13,D13,n13⟩,H.ok.to hpo2.1 geo,H.ser,H.gen⟩ st13 eW
    ·have q4:((lX d N1 s).2 !=0)=true:=bne_iff_ne.2 c4;rw[if_pos c4] at eW;simp only[dY,q4,cB,reduceIte,cJ,Nat.reduceAdd];exact hk h9 (w::F9) (lX d N1 s).1 x (lX d N1 s).2 ⟨⟨F9,rfl,B9,D9,n9⟩,H.ok.to hpo.1 hpo.2.2.1,H.ser,H.gen⟩ st9 eW
   ·have q3:(N2 !=0)=true:=bne_iff_ne.2 c3;rw[if_pos c3] at eW;simp only[dY,q3,cB,reduceIte,cJ,Nat.reduceAdd];exact hk h5 _ d x N2 (H.ext e5) (eN.ext e5) eW
def aNI{h:PH}{a w:Nat}{d:Dk}{x:Wl}{F:List Nat}(H:wX a w d x h F)(s:Tx)(hs:s.length≤1000000)(hb:d.buf.length≤980000){k:cF}
  (hk:∀h' F',wX a w (fS d x s).1 (fS d x s).2.1 h' F'->eN h F h' F'->k (.int .i64 (fS d x s).2.2) h'):bT PG vA #[pT w 0,.string (tx s)] h k:=by
 apply zS.call;unfold zS;intro r1 hr1
 try rw[cO]
 have u1:cZ h (h.set r1 (.cells (Value.cells (pT w 0)) eH)):=cT.new hr1;have B1:Bx (h.set r1 (.cells (Value.cells (pT w 0)) eH)) r1 [pT w 0]:=Bx.new;generalize h.set r1 (.cells (Value.cells (pT w 0)) eH)=h1 at *;intro r3 hr3
 try rw[cO]
 have u3:cZ h1 (h1.set r3 (.cells (Value.cells (.string (tx s))) aT)):=cT.new hr3;have B3:Bx (h1.set r3 (.cells (Value.cells (.string (tx s))) aT)) r3 [.string (tx s)]:=Bx.new;generalize h1.set r3 (.cells (Value.cells (.string (tx s))) aT)=h3 at *;have e3:=u1.trans u3;have m1:r1∉F:=λhm=>H.known r1 hm hr1;have m3:r3∉F:=λhm=>(H.ext u1).known r3 hm hr3;simp only[eH.load,gJ (B1.ext u3),aDM,cB,reduceIte,cJ,Nat.reduceAdd];refine aSN (Q:=λd' x' e=>fS d x s=(d',x'.brk e,e)) (H.ext e3) (λhx k' hk'=>?_) (λhx=>?_) (λhx h' F' d' x' e H' st q=>?_)
 ·exact aQl (H.ext e3) hx s hs (by omega) (B1.ext u3) B3 m1 m3 hk'
 ·have e:fS d x s=(d,x,14):=by unfold fS;rw[if_pos hx]
  rw[e] at hk;exact hk h3 F (H.ext e3) (eN.ext e3)
 ·rw[q] at hk;exact hk h' F' H' ((eN.ext e3).trans st)
def aPD{room:Int}:∀(l:List Tx) (st:Dm×Int),(st.2=0->OkD st.1 room∧st.1.wf)->(l.foldl (mK room) st).2=0->OkD (l.foldl (mK room) st).1 room∧(l.foldl (mK room) st).1.wf
 | [],st,h,h0=>h h0
 | s::l,st,h,h0=>by
  rw[zLt] at h0 ⊢;refine aPD l _ (λe=>?_) h0;unfold mK at e ⊢;split
  ·rename_i c;rw[if_pos c] at e;split
   ·rename_i c2;rw[if_pos c2] at e;exact⟨(aFZ e).2.2.1,aJ2 e (h c).2 (aJM s)⟩
   ·rename_i c2;rw[if_neg c2] at e;exact absurd e c2
  ·rename_i c;rw[if_neg c] at e;exact absurd e c
def aUr{room:Int}{l:List Tx}(h:(xL room l).2=0):OkD (xL room l).1 room∧(xL room l).1.wf:=by
 cases l with
 | nil=>exact absurd h (by show(3:Int)≠0;decide)
 | cons s l=>
  have e0:xL room (s::l)=if (l.foldl (mK room) (lQ room s)).2≠0 then(Dm.zero,(l.foldl (mK room) (lQ room s)).2) else l.foldl (mK room) (lQ room s):=rfl
  rw[e0] at h ⊢;split at h
  ·rename_i c;exact absurd h c
  ·rename_i c;rw[if_neg c];refine aPD l _ (λe=>?_) h;unfold lQ at e ⊢;split at e
   ·rename_i a;exact absurd e a
   ·rename_i a;split at e
    ·cases e
    ·rename_i b;split at e
     ·rename_i d;exact absurd e d
     ·rename_i d;rw[if_neg a,if_neg b,if_neg d];exact⟨aDS.1 (Classical.not_not.1 d),(aJM s).s⟩
def aM3{room:Int}{s0:Dm}{l:List Tx}(h0:chk s0 room=0)(w0:s0.wf)(h:(kZ room s0 l).2=0):OkD (kZ room s0 l).1 room∧(kZ room s0 l).1.wf:=by
 unfold kZ at h ⊢;split
 ·exact⟨aDS.1 h0,w0⟩
 ·rename_i c;rw[if_neg c] at h;exact aUr h
def oY(v:Value)(n:Nat):List Nat:=if n=0 then [] else match v with | .slice (some a) _ _=>[a.block]|_=>[]
def oY.mem{v:Value}{n b:Nat}(h:b∈oY v n):n≠0∧∃a m c,v= .slice (some a) m c∧b=a.block:=by
 unfold oY at h;split at h
 ·cases h
 ·rename_i c;split at h
  ·rename_i a m c';simp only[iL] at h;exact⟨c,a,m,c',rfl,h⟩
  ·cases h
def oY.new{h:PH}{v:Value}{n b:Nat}(H:iM h v)(hb:b∈oY v n):h b=none:=by
 obtain⟨-,a,m,c,e,rfl⟩:=oY.mem hb;exact H a m c e
def aGE{h:PH}{v:Value}{l:List It}(S:jV h v l):∀b∈oY v l.length,h b≠none:=by
 intro b hb;obtain⟨h0,a,m,c,e,rfl⟩:=oY.mem hb;exact hM.known S (by intro e;apply h0;have:=congrArg List.length e;simpa using this) e
def aHG{h h':PH}{v:Value}{l:List It}{K:List Nat}(S:jV h v l)(u:cT K h h')(hK:∀b∈oY v l.length,b∉K):jV h' v l:=by
 refine hM.upd0 S u λhne a n c e=>hK a.block ?_;unfold oY;rw[if_neg (by intro e0;apply hne;rw[zLN e0];rfl),e];simp
def aFY{h h':PH}{v:Value}{l:List It}{F F':List Nat}(S:jV h v l)(s:eN h F h' F')(hd:∀b∈oY v l.length,b∉F):jV h' v l∧∀b∈oY v l.length,b∉F':=
 ⟨aHG S s.upd hd,λb hb hm=>by
  rcases s.grow b hm with e|e
  ·exact hd b hb e
  ·exact aGE S b hb e⟩
def Jn.cells(w:Nat)(x:Jn)(iv:Value):List Value:=[pT w 0,.int .i64 x.room,.int .u64 x.s.p0.h,.int .i64 x.s.p0.i,.int .u64 x.s.p1.h,.int .i64 x.s.p1.i,iv]
structure wS(a w j:Nat)(d:Dk)(x:Jn)(h:PH)(F:List Nat):Prop where
 here:∃Fw iv,F=j::(oY iv x.s.its.length++Fw)∧Bx h j (x.cells w iv)∧wX a w d x.w h Fw∧jV h iv x.s.its∧j∉Fw∧j∉oY iv x.s.its.length∧∀b∈oY iv x.s.its.length,b∉Fw
 ok:OkD x.s x.room
 wf:x.s.wf
def wS.known{a w j:Nat}{d:Dk}{x:Jn}{h:PH}{F:List Nat}(H:wS a w j d x h F):∀b∈F,h b≠none:=by
 obtain⟨Fw,iv,rfl,B,W,S,-⟩:=H.here;intro b hb;simp only[iR,xN] at hb;rcases hb with rfl|hb|hb
 ·exact B.known
 ·exact aGE S b hb
 ·exact W.known b hb
def wS.upd{a w j:Nat}{d:Dk}{x:Jn}{h h':PH}{F K:List Nat}(H:wS a w j d x h F)(u:cT K h h')(hK:∀b∈F,b∉K):wS a w j d x h' F:=by
 obtain⟨Fw,iv,rfl,B,W,S,n⟩:=H.here;exact⟨⟨Fw,iv,rfl,B.upd u (hK j (by simp)),W.upd u (λb hb=>hK b (by simp[hb])),aHG S u (λb hb=>hK b (by simp[hb])),n⟩,H.ok,H.wf⟩
def wS.good(a w j:Nat)(d:Dk)(x:Jn):aHM (wS a w j d x):=⟨λH=>H.known,λH u hK=>H.upd u hK⟩
def wS.ext{a w j:Nat}{d:Dk}{x:Jn}{h h':PH}{F:List Nat}(H:wS a w j d x h F)(u:cZ h h'):wS a w j d x h' F:=(wS.good a w j d x).ext H u
def aQW(s:Dm)(b:Option Addr)(n c:Nat):cC PG (build bW #[(0,.int .i64 1),(1,s.v (.slice b n c))])=some ((pU s).v (.slice b n c) (.slice none 0 0)):=by kernel_rfl
def aVi(s:Dm)(b:Option Addr)(n c:Nat):cC PG (build bR #[(0,lJ s.p0 s.p1),(1,.slice b n c)])=some (s.v (.slice b n c)):=by kernel_rfl
def aUn(ch:Int)(q:Pl)(ns:List Nt)(b:Option Addr)(n c:Nat):cC PG (build bW #[(0,.int .i64 2),(2,.int .i64 ch),(3,.agg q.cells.toArray),(4,.slice b n c)])=some ((gM ch q ns).v (.slice none 0 0) (.slice b n c)):=by kernel_rfl
def xB{h:PH}{v:Value}{n:Nat}{l:List (List Value)}(S:hM h n v l):∃b m c,v= .slice b m c:=by
 obtain⟨b,c,e,-⟩:=S.here;exact⟨b,_,c,e⟩
def aNS{h:PH}{s:Dm}{iv:Value}(S:jV h iv s.its)(wf:s.wf){k:cF}(hk:∀h',cZ h h'->k (.string (tx (kU s))) h'):bT PG aBk #[s.v iv] h k:=by
 apply aDd.call;unfold aDd;intro r1 hr1
 try rw[cO]
 have u1:cZ h (h.set r1 (.cells (Value.cells (s.v iv)) bR)):=cT.new hr1;have B1:Bx (h.set r1 (.cells (Value.cells (s.v iv)) bR)) r1 (s.cells iv):=Bx.new;generalize h.set r1 (.cells (Value.cells (s.v iv)) bR)=h1 at *;have l1:cD PG h1 (loadAt bR (pT r1 0))=some (s.v iv):=bR.agg B1 (by show 0+5≤5;decide);obtain⟨b,m,c,rfl⟩:=xB S;simp only[l1,aQW,cB,reduceIte,cJ,Nat.reduceAdd];refine aLM (r:=pU s) (S.ext u1) (eJ.nil (e:=cK)).slR (aLO wf) λh2 u2=>?_;simp only[cB,reduceIte,cJ,Nat.reduceAdd];exact hk h2 (u1.trans u2)
structure JlB(w j:Nat)(x:Jn)(iv:Value)(h:PH):Prop where
 wal:cX h ⟨j,0,none⟩=some (pT w 0)
 room:cX h ⟨j,0+1,none⟩=some (.int .i64 x.room)
 st:cD PG h (loadAt bR (pT j (0+2)))=some (x.s.v iv)
 pl:cD PG h (loadAt cR (pT j (0+2)))=some (lJ x.s.p0 x.s.p1)
 its:cX h ⟨j,0+2+4,none⟩=some iv
def JlB.of{w j:Nat}{x:Jn}{iv:Value}{h:PH}(B:Bx h j (x.cells w iv)):JlB w j x iv h:=
 ⟨B.cell 0,B.cell 1,bR.agg B (by show 0+2+5≤7;decide),cR.agg B (by show 0+2+4≤7;decide),B.cell 6⟩
def aSQ{h:PH}{w j:Nat}{a:Nat}{x:Jn}{iv:Value}(L:JlB w j x iv h)(W:vK a w x.w h){k:cF}(hk:k (.bool x.w.broken) h):bT PG lE #[pT j 0] h k:=by
 apply tQ.call;unfold tQ;simp only[fP.f0,eH.load,L.wal,cB,reduceIte,cJ,Nat.reduceAdd];exact aSE W hk
def wS.halted{a w j:Nat}{d:Dk}{x:Jn}{h:PH}{F:List Nat}(H:wS a w j d x h F){k:cF}(hk:k (.bool x.w.broken) h):bT PG lE #[pT j 0] h k:=by
 obtain⟨Fw,iv,rfl,B,W,S,-⟩:=H.here;obtain⟨Fd,rfl,Bw,-⟩:=W.here;exact aSQ (JlB.of B) (vK.of Bw) hk
def aTq{h:PH}{a w j:Nat}{d:Dk}{x:Jn}{F:List Nat}(H:wS a w j d x h F){k:cF}(hk:∀h' v,jV h' v x.s.its->iM h v->cZ h h'->k (x.s.v v) h'):bT PG mV #[pT j 0] h k:=by
 apply oR.call;unfold oR;obtain⟨Fw,iv,rfl,B,W,S,-⟩:=H.here;have hlen:=H.ok.len;have hr2:=H.ok.r2;intro r1 hr1
 try rw[cO]
 have Z1:=bR.zbox (h:=h) (r:=r1);have u1:cZ h (h.set r1 (.cells (dF PG bR) bR)):=cT.new hr1;generalize h.set r1 (.cells (dF PG bR) bR)=h1 at *;have L:=JlB.of (B.ext u1);have f1:dZ h [r1]:=dZ.one hr1;simp only[fP.f2,bR.f0,bR.f1,L.pl,bZ.load,L.its,cB,reduceIte,cJ,Nat.reduceAdd];refine aM2 (S.ext u1) (by omega) λv2 h2 S2 N2 u2=>?_;have L2:=JlB.of ((B.ext u1).ext u2);obtain⟨b,m,c,rfl⟩:=xB S2;refine⟨L2.pl,?_⟩;have hb:cC PG (build bR #[(0,lJ x.s.p0 x.s.p1),(1,.slice b m c)])=some (x.s.v (.slice b m c)):=by
  exact aVi x.s b m c
 simp only[hb,cB,reduceIte,cJ,Nat.reduceAdd];have Zx:=Z1.ext u2;refine bR.put Zx (vs:=x.s.cells (.slice b m c)) (o:=0) rfl (by show 0+5≤5;decide) (by simp[Dm.cells,fI]) λh3 B3 u3=>?_;have l3:cD PG h3 (loadAt bR (pT r1 0))=some (x.s.v (.slice b m c)):=bR.agg (cs:=x.s.cells (.slice b m c)) B3 (by show 0+5≤5;decide);simp only[l3,cB,reduceIte,cJ,Nat.reduceAdd];have N:∀a' n' c',Value.slice b m c= .slice (some a') n' c'->a'.block∉[r1]:=λa' n' c' e hm=>by
  simp only[iL] at hm;exact Z1.known (hm▸N2 a' n' c' e)
 exact hk h3 _ (S2.upd u3 N) (N2.of u1) ((u1.trans u2).fresh u3 f1)
def aTH{h0 h:PH}{a w j r:Nat}{d':Dk}{x:Jn}{w':Wl}{iv v':Value}{nx:Dm}{F0 Fw:List Nat}{e:Int}(B:Bx h j (x.cells w iv))(S:jV h iv x.s.its)(W:wX a w d' w' h Fw)(B2:Bx h r (nx.cells v'))(S2:jV h v' nx.its)
  (n1:j∉Fw) (n2:j∉oY iv x.s.its.length) (n3:∀b∈oY iv x.s.its.length,b∉Fw) (m2:j∉oY v' nx.its.length) (m3:∀b∈oY v' nx.its.length,b∉Fw) (m4:∀b∈oY v' nx.its.length,b∈F0∨h0 b=none)
  (st:eN h0 F0 h (j::(oY iv x.s.its.length++Fw))) (ok:OkD x.s x.room) (wf:x.s.wf) (ok2:e=0->OkD nx x.room) (wf2:e=0->nx.wf) {k:cF}
  (hk:∀h' F',wS a w j d' ⟨w',x.room,if e=0 then nx else x.s⟩ h' F'->eN h0 F0 h' F'->k (.int .i64 e) h'):oX k (pT j 0) (pT r 0) (.int .i64 e) h:=by
 unfold oX;by_cases c:e=0
 ·have q:(e==0)=true:=by rw[c];rfl
  have l2:cD PG h (loadAt bR (pT r 0))=some (nx.v v'):=bR.agg B2 (by show 0+5≤5;decide);obtain⟨b,m,c',rfl⟩:=xB S2;simp only[fO,q,l2,fP.f2,cB,reduceIte,cJ,Nat.reduceAdd];refine bR.put B (vs:=nx.cells (.slice b m c')) (o:=2) rfl (by show 2+5≤7;decide) (by simp[Dm.cells,fI]) λh3 B3 u3=>?_;unfold rV;have B3:Bx h3 j (Jn.cells w ⟨w',x.room,nx⟩ (.slice b m c')):=B3;rw[if_pos c] at hk;refine hk h3 (j::(oY (.slice b m c') nx.its.length++Fw)) ⟨⟨Fw,_,rfl,B3,W.upd u3 (lM n1),aHG S2 u3 (lM m2),n1,m2,m3⟩,ok2 c,wf2 c⟩ ⟨?_,λb hb=>?_⟩
  ·exact st.upd.then u3 (λb hb=>by
    simp only[iL] at hb;exact st.grow b (by rw[hb];simp))
  ·simp only[iR,xN] at hb;rcases hb with rfl|hb|hb
   ·exact st.grow _ (by simp)
   ·exact m4 b hb
   ·exact st.grow b (by simp[hb])
 ·have q:(e==0)=false:=by rw[beq_eq_false_iff_ne];exact c
  rw[if_neg c] at hk;simp only[fO,q,cB,reduceIte,cJ,Nat.reduceAdd];unfold rV;exact hk h _ ⟨⟨Fw,iv,rfl,B,W,S,n1,n2,n3⟩,ok,wf⟩ st
def aFt{r:Rc}(wf:xG r):r.bytes.1.length≤4096:=by
 rcases wV r with⟨-,b⟩|⟨a,-⟩
 ·rw[b];exact aHi wf
 ·exact absurd wf a
def aTc{h:PH}{a w j:Nat}{d:Dk}{x:Jn}{F:List Nat}{vn:Value}{ns:List Nt}(H:wS a w j d x h F)(ch:Int)(q:Pl)(hq:q.wf)(N:yJ h vn ns)(hn:∀y∈ns,y.p.wf)(hb:d.buf.length≤900000){k:cF}
  (hk:∀h' F',wS a w j (oT d x ch q ns).1 (oT d x ch q ns).2.1 h' F'->eN h F h' F'->k (.int .i64 (oT d x ch q ns).2.2) h'):bT PG pN #[pT j 0,.int .i64 ch,.agg q.cells.toArray,vn] h k:=by
 apply pD.call;unfold pD;obtain⟨Fw,iv,eF,B,W,S,n1,n2,n3⟩:=id H.here;have hlen:=H.ok.len;have hr2:=H.ok.r2;have wfr:(gM ch q ns).wf:=⟨⟨Pl.wf_zero,Pl.wf_zero,by simp[gM,Dm.zero]⟩,hq,hn⟩;intro r1 hr1
 try rw[cO]
 have u1:cZ h (h.set r1 (.cells (Value.cells (.agg q.cells.toArray)) cG)):=cT.new hr1;have B1:Bx (h.set r1 (.cells (Value.cells (.agg q.cells.toArray)) cG)) r1 q.cells:=Bx.new;generalize h.set r1 (.cells (Value.cells (.agg q.cells.toArray)) cG)=h1 at *;have H1:=H.ext u1;refine wS.halted H1 ?_;unfold oT at hk;cases hx:x.w.broken with
 | true=>
  rw[if_pos hx] at hk;simp only[cB,reduceIte,cJ,Nat.reduceAdd];exact hk h1 F H1 (eN.ext u1)
 | false=>
  rw[if_neg (by rw[hx];decide)] at hk;have l1:cD PG h1 (loadAt cG (pT r1 0))=some (.agg q.cells.toArray):=cG.agg B1 (by show 0+2≤2;decide);obtain⟨bn,mn,cn,rfl⟩:=xB N;simp only[l1,aUn ch q ns,cB,reduceIte,cJ,Nat.reduceAdd];intro r7 hr7
  try rw[cO]
  refine bW.fill (vs:=(gM ch q ns).cells (.slice none 0 0) (.slice bn mn cn)) hr7 rfl (by simp[Rc.cells,fI]) λh2 B7 u2=>?_;have e2:=u1.trans u2;have L:=JlB.of (B.ext e2);have l7:cD PG h2 (loadAt bW (pT r7 0))=some ((gM ch q ns).v (.slice none 0 0) (.slice bn mn cn)):=bW.agg B7 (by show 0+10≤10;decide);simp only[fP.f1,fP.f2,L.st,aR.load,L.room,l7,cB,reduceIte,cJ,Nat.reduceAdd];have nz:jV h2 (.slice none 0 0) (gM ch q ns).s.its:=(eJ.nil (e:=cE)).slR;refine aQE (r:=gM ch q ns) (S.ext e2) nz (N.ext e2) wfr (by omega) λh3 v' S3 N3 u3=>?_;have e3:=e2.trans u3;obtain⟨P,hP⟩:∃P,lA x.s x.room (gM ch q ns)=P:=⟨_,rfl⟩;have hgood:=aFZ (d:=x.s) (room:=x.room) (r:=gM ch q ns);have hpwf:=aJ2 (d:=x.s) (room:=x.room) (r:=gM ch q ns);rw[hP] at hk S3 hgood hpwf ⊢;simp only[cB,reduceIte,cJ,Nat.reduceAdd];intro r22 hr22
  try rw[cO]
  obtain⟨b',m',c',rfl⟩:=xB S3;refine bR.fill (vs:=P.1.cells (.slice b' m' c')) hr22 rfl (by simp[Dm.cells,fI]) λh4 B22 u4=>?_;have e4:=e3.trans u4;by_cases c:P.2=0
  ·have qc:(P.2 !=0)=false:=by rw[c];rfl
   rw[if_neg (λe=>e c)] at hk;obtain⟨-,hrc,hok2,-⟩:=hgood c;have hwf2:=hpwf c H.wf wfr;have l7':cD PG h4 (loadAt bW (pT r7 0))=some ((gM ch q ns).v (.slice none 0 0) (.slice bn mn cn)):=bW.agg ((B7.ext u3).ext u4) (by show 0+10≤10;decide);simp only[dY,qc,l7',cB,reduceIte,cJ,Nat.reduceAdd];refine aLM (r:=gM ch q ns) (eJ.nil (e:=cE)).slR (N.ext e4) wfr λh5 u5=>?_;have e5:=e4.trans u5;have L5:=JlB.of (B.ext e5);simp only[fP.f0,eH.load,L5.wal,iO,cB,reduceIte,cJ,Nat.reduceAdd];have hsb:=aFt hrc;refine aQT (W.ext e5) _ (by omega) λh6 u6=>?_;have e6:=e5.trans u6;have L6:=JlB.of (B.ext e6);have W6:=W.ext e6;have S6:jV h6 (.slice b' m' c') P.1.its:=((S3.ext u4).ext u5).ext u6;have nb:∀b∈oY (.slice b' m' c') P.1.its.length,h2 b=none:=λb hb=>oY.new N3 hb;have d1:j∉oY (.slice b' m' c') P.1.its.length:=λhm=>(B.ext e2).known (nb j hm);have d2:∀b∈oY (.slice b' m' c') P.1.its.length,b∉Fw:=λb hb hf=>(W.ext e2).known b hf (nb b hb);have d3:∀b∈oY (.slice b' m' c') P.1.its.length,h b=none:=λb hb=>e2.none (nb b hb);have fin:∀h7 Fw' d' w' e,wX a w d' w' h7 Fw'->eN h6 Fw h7 Fw'->qM d x (gM ch q ns) P.1=(d',w',e)->oX k (pT j 0) (pT r22 0) (.int .i64 e) h7:=by
    intro h7 Fw' d' w' e W7 s7 eq;rw[eq] at hk;have r22F:r22∉Fw:=λhm=>(W.ext e3).known r22 hm hr22;obtain⟨B7',k1⟩:=(B.ext e6).step s7 n1;obtain⟨B22',-⟩:=((B22.ext u5).ext u6).step s7 r22F;obtain⟨S7,k2⟩:=aFY S6 s7 d2;obtain⟨S7',k3⟩:=aFY (S.ext e6) s7 n3;refine aTH (x:=x) B7' S7' W7 B22' S7 k1 n2 k3 d1 k2 (λb hb=>.inr (d3 b hb)) ?_ H.ok H.wf (λ_=>hok2) (λ_=>hwf2) hk;refine⟨?_,λb hb=>?_⟩
    ·exact e6.upd.then s7.upd (λb hb=>.inl (by rw[eF];simp[hb]))
    ·rw[eF];simp only[iR,xN] at hb ⊢;rcases hb with rfl|hb|hb
     ·exact .inl (.inl rfl)
     ·exact .inl (.inr (.inl hb))
     ·rcases s7.grow b hb with e|e
      ·exact .inl (.inr (.inr e))
      ·exact .inr (e6.none e)
   unfold qM at fin;cases cf:fits d x.w (gM ch q ns).bytes.1.length with
   | true=>
    rw[if_pos cf] at fin;simp only[fP.f0,eH.load,L6.wal,cB,reduceIte,cJ,Nat.reduceAdd];refine aQa W6 _ (by omega) (by omega) λh7 F7 W7 s7=>?_;exact fin h7 F7 _ _ _ W7 s7 rfl
   | false=>
    rw[if_neg (by rw[cf];decide)] at fin;have l22:cD PG h6 (loadAt bR (pT r22 0))=some (P.1.v (.slice b' m' c')):=bR.agg ((B22.ext u5).ext u6) (by show 0+5≤5;decide);simp only[fP.f0,eH.load,L6.wal,l22,cB,reduceIte,cJ,Nat.reduceAdd];refine aNS S6 hwf2 λh7 u7=>?_;have L7:=JlB.of ((B.ext e6).ext u7);refine⟨L7.wal,?_⟩;have hsw:=aFt (aFW hok2);refine aNI (W6.ext u7) _ (by unfold kU;omega) (by omega) λh8 F8 W8 s8=>?_;exact fin h8 F8 _ _ _ W8 ((eN.ext u7).trans s8) rfl
  ·have qc:(P.2 !=0)=true:=bne_iff_ne.2 c;rw[if_pos c] at hk;simp only[dY,qc,cB,reduceIte,cJ,Nat.reduceAdd];exact hk h4 F (H.ext e4) (eN.ext e4)
def aVx(w:Nat)(room:Int)(x:Wl)(s:Dm)(b:Option Addr)(n c:Nat):cC PG (build fP #[(0,pT w 0),(1,.int .i64 room),(2,s.v (.slice b n c))])=some (.agg (Jn.cells w ⟨x,room,s⟩ (.slice b n c)).toArray):=by kernel_rfl
def aP9(p q:Pl):cC PG (build bR #[(0,lJ p q)])=some (Dm.v ⟨p,q,[]⟩ (.slice none 0 0)):=by kernel_rfl
def aN8{h0 h:PH}{a w r:Nat}{d:Dk}{x:Wl}{F0 Fw:List Nat}{room:Int}{s:Dm}{iv:Value}(W:wX a w d x h Fw)(B:Bx h r (s.cells iv))(S:jV h iv s.its)(n1:∀b∈oY iv s.its.length,b∉Fw)(rF:r∉Fw)(m4:∀b∈oY iv s.its.length,b∈F0∨h0 b=none)
  (st:eN h0 F0 h Fw) (ok:OkD s room) (wf:s.wf) (hb:d.buf.length≤900000) {k:cF}
  (bad:∀h' F',oD a (fS d x (kU s)).1 h' F'->eN h0 F0 h' F'->(fS d x (kU s)).2.2≠0->k (.tuple #[.pointer none,.int .i64 (fS d x (kU s)).2.2]) h')
  (hk:∀h' F' j,wS a w j (fS d x (kU s)).1 ⟨(fS d x (kU s)).2.1,room,s⟩ h' F'->eN h0 F0 h' F'->(fS d x (kU s)).2.2=0->k (.tuple #[pT j 0,.int .i64 0]) h'):aBp k (.int .i64 room) (pT r 0) (pT w 0) h:=by
 unfold aBp;have l1:cD PG h (loadAt bR (pT r 0))=some (s.v iv):=bR.agg B (by show 0+5≤5;decide);simp only[l1,cB,reduceIte,cJ,Nat.reduceAdd];refine aNS S wf λh1 u1=>?_;have hsw:=aFt (aFW ok);refine aNI (W.ext u1) _ (by unfold kU;omega) (by omega) λh2 F2 W2 s2=>?_;have st2:=st.trans ((eN.ext (F:=Fw) u1).trans s2);obtain⟨P,hP⟩:∃P,fS d x (kU s)=P:=⟨_,rfl⟩;rw[hP] at bad hk W2 ⊢;by_cases c:P.2.2=0
 ·have q:(P.2.2 !=0)=false:=by rw[c];rfl
  obtain⟨B2,-⟩:=(B.ext u1).step s2 rF;obtain⟨S2,k2⟩:=aFY (S.ext u1) s2 n1;have l2:cD PG h2 (loadAt bR (pT r 0))=some (s.v iv):=bR.agg B2 (by show 0+5≤5;decide);obtain⟨b,m,c',rfl⟩:=xB S2;simp only[dY,q,l2,aVx w room P.2.1 s,cB,reduceIte,cJ,Nat.reduceAdd];intro r37 hr37
  try rw[cO]
  have u3:cZ h2 (h2.set r37 (.cells (Value.cells (.agg (Jn.cells w ⟨P.2.1,room,s⟩ (.slice b m c')).toArray)) fP)):=cT.new hr37;have B3:Bx (h2.set r37 (.cells (Value.cells (.agg (Jn.cells w ⟨P.2.1,room,s⟩ (.slice b m c')).toArray)) fP)) r37 (Jn.cells w ⟨P.2.1,room,s⟩ (.slice b m c')):=Bx.new;generalize h2.set r37 (.cells (Value.cells (.agg (Jn.cells w ⟨P.2.1,room,s⟩ (.slice b m c')).toArray)) fP)=h3 at *;refine hk h3 (r37::(oY (.slice b m c') s.its.length++F2)) r37 ⟨⟨F2,_,rfl,B3,W2.ext u3,S2.ext u3,λhm=>W2.known r37 hm hr37,λhm=>aGE S2 r37 hm hr37,k2⟩,ok,wf⟩ ⟨st2.upd.trans u3.upd,λb hb=>?_⟩ c;simp only[iR,xN] at hb;rcases hb with rfl|hb|hb
  ·exact st2.none hr37
  ·exact m4 b hb
  ·exact st2.grow b hb
 ·have q:(P.2.2 !=0)=true:=bne_iff_ne.2 c;simp only[dY,q,cB,reduceIte,cJ,Nat.reduceAdd];obtain⟨Fd,eF,-,D2,-⟩:=W2.here;exact bad h2 Fd D2 ⟨st2.upd,λb hb=>st2.grow b (by rw[eF];simp[hb])⟩ c
def aIW{d:Dk}(H:d.Ok):(fH d).2.1.2.length≤d.segs:=by
 have key:∀(d':Dk) (hd:Hd) (slot:Nat),d'.sectors=d.sectors->(zN d' hd slot).2.length≤d.segs:=λd' hd slot e=>by
  have h1:=aIh (size:=d'.size) (gen:=hd.gen) (d'.segs+1) (d'.secs (d'.base hd.seg) d'.segs) 0;have h2:=aHz (size:=d'.size) (gen:=hd.gen) (d'.segs+1) (d'.secs (d'.base hd.seg) d'.segs) 0;rw[Dk.secs_len] at h1;have:=aHg (d:=d) (d':=d') e;show(jU d'.size hd.gen (d'.segs+1) (d'.secs (d'.base hd.seg) d'.segs) 0).1.length≤_;omega
 unfold fH;split
 ·exact lD _
 ·split
  ·exact lD _
  ·split
   ·split
    ·exact lD _
    ·exact key _ _ _ (((oL _ H.fl 1).2.2.1).trans d.fl_geo.2)
   ·exact key _ _ _ d.fl_geo.2
def aSX(d:Dk):d.fl.1.buf.length≤d.buf.length:=by
 unfold Dk.fl;split
 ·exact mG _
 ·exact lD _
def aIL(d:Dk):(fH d).1.buf.length≤d.buf.length+1:=by
 have hf:=aSX d;have hp:=aBQ [(fQ d.size ⟨1,0⟩).1] d.fl.1 1;simp only[iP,kI] at hp;unfold fH;split
 ·show d.buf.length≤_;omega
 ·split
  ·show d.fl.1.buf.length≤_;omega
  ·split
   ·split
    ·show(iQ d.fl.1 1 [(fQ d.size ⟨1,0⟩).1]).1.buf.length≤_;omega
    ·show(iQ d.fl.1 1 [(fQ d.size ⟨1,0⟩).1]).1.buf.length≤_;omega
   ·show d.fl.1.buf.length≤_;omega
def aTI{h:PH}{a:Nat}{d:Dk}{F:List Nat}(D:oD a d h F)(room:Int)(p q:Pl)(wp:p.wf)(wq:q.wf)(hs:d.sectors≤1000)(hb:d.buf.length≤800000){k:cF}
  (bad:∀h' F',oD a (iK d room p q).1 h' F'->eN h F h' F'->(iK d room p q).2.2≠0->k (.tuple #[.pointer none,.int .i64 (iK d room p q).2.2]) h')
  (hk:∀h' F' w j,wS a w j (iK d room p q).1 (iK d room p q).2.1 h' F'->eN h F h' F'->(iK d room p q).2.2=0->k (.tuple #[pT j 0,.int .i64 0]) h'):bT PG aCB #[pT a 0,.int .i64 room,lJ p q] h k:=by
 apply aEx.call;unfold aEx;intro r1 hr1
 try rw[cO]
 have u1:cZ h (h.set r1 (.cells (Value.cells (lJ p q)) cR)):=cT.new hr1;have B1:Bx (h.set r1 (.cells (Value.cells (lJ p q)) cR)) r1 (p.cells++q.cells):=Bx.new;generalize h.set r1 (.cells (Value.cells (lJ p q)) cR)=h1 at *;have l1:cD PG h1 (loadAt cR (pT r1 0))=some (lJ p q):=cR.agg B1 (by show 0+4≤4;decide);simp only[l1,aP9,cB,reduceIte,cJ,Nat.reduceAdd];intro r5 hr5
 try rw[cO]
 refine bR.fill (vs:=Dm.cells ⟨p,q,[]⟩ (.slice none 0 0)) hr5 rfl (by simp[Dm.cells,fI]) λh2 B2 u2=>?_;have e2:=u1.trans u2;have l2:cD PG h2 (loadAt bR (pT r5 0))=some (Dm.v ⟨p,q,[]⟩ (.slice none 0 0)):=bR.agg B2 (by show 0+5≤5;decide);have r5F:r5∉F:=λhm=>(D.ext u1).known r5 hm hr5;simp only[l2,cB,reduceIte,cJ,Nat.reduceAdd];have nz:∀{h:PH},jV h (.slice none 0 0) (⟨p,q,[]⟩:Dm).its:=(eJ.nil (e:=cE)).slR;refine aJL (d:=⟨p,q,[]⟩) nz (by simp) λh3 u3=>?_;have e3:=e2.trans u3;unfold iK at bad hk;have wf0:(⟨p,q,[]⟩:Dm).wf:=⟨wp,wq,by simp⟩;by_cases c:chk ⟨p,q,[]⟩ room=0
 ·have qc:(chk ⟨p,q,[]⟩ room !=0)=false:=by rw[c];rfl
  rw[if_neg (λe=>e c)] at bad hk;simp only[dY,qc,cB,reduceIte,cJ,Nat.reduceAdd];refine aUS (D.ext e3) (by omega) (λh4 F4 D4 s4 ne=>?_) (λh4 F4 w v G W4 O4 dj s4 e0=>?_)
  ·have q4:((fH d).2.2 !=0)=true:=bne_iff_ne.2 ne;rw[if_pos ne] at bad;simp only[dY,q4,cB,reduceIte,cJ,Nat.reduceAdd];exact bad h4 F4 D4 ((eN.ext e3).trans s4) ne
  ·have q4:((0:Int) !=0)=false:=rfl;rw[if_neg (λe=>e e0)] at bad hk;have hfw:=aIW D.ok;have hbw:=aIL d;have hsg:d.segs≤1000:=by unfold Dk.segs;omega
   have st4:=(eN.ext (F:=F) e3).trans s4;obtain⟨B4,r54⟩:=(B2.ext u3).step s4 r5F;have r5w:r5∉F4:=λhm=>r54 (by simp[hm]);have st4':eN h F h4 F4:=⟨st4.upd,λb hb=>st4.grow b (by simp[hb])⟩;have hmay:=aM3 (room:=room) (s0:=⟨p,q,[]⟩) (l:=(fH d).2.1.2) c wf0;obtain⟨l,hl⟩:∃l,(fH d).2.1.2=l:=⟨_,rfl⟩;rw[hl] at bad hk O4 hfw hmay;have lv:=tP O4.slR;by_cases c0:l=[]
   ·have es:kZ room ⟨p,q,[]⟩ l=(⟨p,q,[]⟩,0):=by unfold kZ;rw[if_pos c0]
    rw[es] at bad hk hmay;rw[if_neg (λe=>e rfl)] at bad hk;have g:((0:Int)<(l.length:Int))=False:=eq_false (by rw[c0];simp);simp only[dY,q4,lv,g,cB,reduceIte,cJ,Nat.reduceAdd];refine aN8 (h0:=h) (F0:=F) W4 B4 nz (λb hb=>by cases hb) r5w (λb hb=>by cases hb) st4' (hmay rfl).1 wf0 (by omega) (λh' F' D' st ne=>?_) (λh' F' j J st e=>?_)
    ·rw[if_pos ne] at bad;exact bad h' F' D' st ne
    ·rw[if_neg (λx=>x e)] at hk;exact hk h' F' w j J st rfl
   ·have es:kZ room ⟨p,q,[]⟩ l=xL room l:=by unfold kZ;rw[if_neg c0]
    rw[es] at bad hk hmay;have hpos:0<l.length:=aI8.2 c0;have g:((0:Int)<(l.length:Int))=True:=eq_true (by omega);simp only[dY,q4,lv,g,cB,reduceIte,cJ,Nat.reduceAdd];refine aSR O4.slR (by omega) λh5 v5 S5 N5 u5=>?_;obtain⟨R,hR⟩:∃R,xL room l=R:=⟨_,rfl⟩;rw[hR] at bad hk hmay S5 ⊢;simp only[cB,reduceIte,cJ,Nat.reduceAdd];have B5:=B4.ext u5;obtain⟨b',m',c',rfl⟩:=xB S5;refine bR.put B5 (vs:=R.1.cells (.slice b' m' c')) (o:=0) rfl (by show 0+5≤5;decide) (by simp[Dm.cells,fI]) λh6 B6 u6=>?_;have W6:=(W4.ext u5).upd u6 (lM r5w);have m5:∀b∈oY (.slice b' m' c') R.1.its.length,h4 b=none:=λb hb=>oY.new N5 hb;have r5s:r5∉oY (.slice b' m' c') R.1.its.length:=λhm=>B4.known (m5 r5 hm);have S6:=aHG S5 u6 (lM r5s);have f5:h r5=none:=u1.none hr5;have st6:eN h F h6 F4:=⟨(st4'.upd.trans u5.upd).then u6 (λb hb=>by
     simp only[iL] at hb;rw[hb];exact .inr f5),st4'.grow⟩
    by_cases c2:R.2=0
    ·have q2:(R.2 !=0)=false:=by rw[c2];rfl
     rw[if_neg (λe=>e c2)] at bad hk;simp only[dY,q2,cB,reduceIte,cJ,Nat.reduceAdd];refine aN8 (h0:=h) (F0:=F) (s:=R.1) (iv:=.slice b' m' c') W6 B6 S6 (λb hb hf=>W4.known b hf (m5 b hb)) r5w (λb hb=>st4'.none (m5 b hb)) st6 (hmay c2).1 (hmay c2).2 (by omega) (λh' F' D' st ne=>?_) (λh' F' j J st e=>?_)
     ·rw[if_pos ne] at bad;exact bad h' F' D' st ne
     ·rw[if_neg (λx=>x e)] at hk;exact hk h' F' w j J st rfl
    ·have q2:(R.2 !=0)=true:=bne_iff_ne.2 c2;rw[if_pos c2] at bad;simp only[dY,q2,cB,reduceIte,cJ,Nat.reduceAdd];obtain⟨Fd,eF,-,D6,-⟩:=W6.here;exact bad h6 Fd D6 ⟨st6.upd,λb hb=>st6.grow b (by rw[eF];simp[hb])⟩ c2
 ·have qc:(chk ⟨p,q,[]⟩ room !=0)=true:=bne_iff_ne.2 c;rw[if_pos c] at bad;simp only[dY,qc,cB,reduceIte,cJ,Nat.reduceAdd];exact bad h3 F (D.ext e3) (eN.ext e3) c
def aTu(x:W)(m:Nat)(h0:0<m)(hm:m<4294967296):cC PG (binOp .rem fE (wv x) (.int .u32 (m:Int)))=some (.int .u32 ((x.toNat%m:Nat):Int)):=by
 have hx:=x.isLt;unfold wv;rw[aS8 (by omega)];have e:Int.tmod (x.toNat:Int) (m:Int)=((x.toNat%m:Nat):Int):=rfl;rw[e]
def aUN(x:W)(m:Nat)(h0:0<m)(hm:m<4294967296):cC PG (binOp .quo fE (wv x) (.int .u32 (m:Int)))=some (.int .u32 ((x.toNat/m:Nat):Int)):=by
 have hx:=x.isLt;unfold wv;rw[aKS (by omega)];have e:Int.tdiv (x.toNat:Int) (m:Int)=((x.toNat/m:Nat):Int):=rfl;have:=Nat.div_le_self x.toNat m;rw[e,aFj];generalize x.toNat/m=q at *;congr 2;omega
def aIE(x:W)(n:Nat):(x>>>n).toNat=x.toNat/2^n:=by rw[BitVec.toNat_ushiftRight,Nat.shiftRight_eq_div_pow]
def aXp(x:W):Value.int .u32 ((x.toNat/2:Nat):Int)=wv (x>>>1):=by unfold wv;rw[aIE]
def aTF{h:PH}(x:W){k:cF}(hk:k (wv (aJ8 x)) h):bT PG aBm #[wv x] h k:=by
 apply aAj.call;unfold aAj;have r2:cC PG (binOp .rem fE (wv x) (.int .u32 2))=some (.int .u32 ((x.toNat%2:Nat):Int)):=aTu x 2 (by decide) (by decide);have q2:cC PG (binOp .quo fE (wv x) (.int .u32 2))=some (wv (x>>>1)):=by rw[←aXp];exact aUN x 2 (by decide) (by decide)
 have xr:cC PG (binOp .xor fE (wv (x>>>1)) (.int .u32 3988292384))=some (wv ((x>>>1) ^^^ 3988292384)):=aN6 (y:=3988292384);unfold aJ8 at hk;by_cases c:x.toNat%2=1
 ·have q:(((x.toNat%2:Nat):Int)==1)=true:=by rw[c];rfl
  rw[if_pos c] at hk;simp only[r2,fO,q,q2,xr,cB,reduceIte,cJ,Nat.reduceAdd];exact hk
 ·have q:(((x.toNat%2:Nat):Int)==1)=false:=by rw[beq_eq_false_iff_ne];omega
  rw[if_neg c] at hk;simp only[r2,fO,q,q2,cB,reduceIte,cJ,Nat.reduceAdd];exact hk
def aXq(b:UInt8):cC PG (convert dK fE (.int .u8 (b.toNat:Int)))=some (wv (BitVec.ofNat 32 b.toNat)):=by
 have e:cC PG (convert dK fE (.int .u8 (b.toNat:Int)))=some (.int .u32 (IntKind.u32.wrap (b.toNat:Int))):=by kernel_rfl
 rw[e];unfold wv;rw[aFj,BitVec.toNat_ofNat];rfl
def aPl{h:PH}{s:Tx}{i:Nat}(hi:i<s.length)(hs:s.length≤1000000)(y:W){n1:gB}{R:cF}
  (hk:n1 [wv (aJH 8 y),.string (tx s),.int .i64 ((i+1:Nat):Int)] h):
  gV [0,1,5,6] (λn8 ρ h=>aBY R n1 n8 (ρ 0) (ρ 1) (ρ 5) (ρ 6) h) [wv y,.string (tx s),.int .i64 (i:Int),.int .i64 0] h:=by
 refine⟨λvs h'=>∃k:Nat,k≤8∧vs=[wv (aJH k y),.string (tx s),.int .i64 (i:Int),.int .i64 (k:Int)]∧h'=h,fN 8 3,⟨0,by omega,rfl,rfl⟩,?_⟩;rintro ρ h' ⟨k,hkk,hvs,rfl⟩;simp only[hY,iZ,kP,and_true] at hvs;obtain⟨x0,x1,x5,x6⟩:=hvs;unfold aBY;rw[x0,x1,x5,x6];by_cases hlt:k<8
 ·have g:((k:Int)<8)=True:=eq_true (by omega);have gi:=nP (i:=k) (by omega);simp only[g,cB,reduceIte,cJ,Nat.reduceAdd];refine aTF _ ?_;simp only[gi,cB,reduceIte,cJ,Nat.reduceAdd];exact⟨⟨k+1,by omega,rfl,by first|rfl|trivial⟩,by simp[fN,x6];omega⟩
 ·have g:((k:Int)<8)=False:=eq_false (by omega);have gi:=nP (i:=i) (by omega);obtain rfl:k=8:=by omega
  simp only[g,gi,cB,reduceIte,cJ,Nat.reduceAdd];exact hk
def aTk{h:PH}(x:W)(s:Tx)(hs:s.length≤1000000){k:cF}(hk:k (wv (aG8 x s)) h):bT PG aBc #[wv x,.string (tx s)] h k:=by
 apply sL.call;unfold sL;refine⟨λvs h'=>∃i:Nat,i≤s.length∧vs=[wv (aG8 x (s.take i)),.string (tx s),.int .i64 (i:Int)]∧h'=h,fN s.length 2,⟨0,by omega,rfl,rfl⟩,?_⟩;rintro ρ h' ⟨i,hi,hvs,rfl⟩;simp only[hY,iZ,kP,and_true] at hvs;obtain⟨x0,x1,x5⟩:=hvs;unfold aE8;rw[x0,x1,x5];by_cases hlt:i<s.length
 ·have g:((i:Int)<(s.length:Int))=True:=eq_true (by omega);obtain⟨b,hb⟩:∃b,s[i]? =some b:=⟨_,kO hlt⟩;have ib:cC PG (Instr.index aT (.string (tx s)) (.int .i64 (i:Int)))=some (.int .u8 b.toNat):=nL aT.und hb;have et:aG8 x (s.take (i+1))=aMH (aG8 x (s.take i)) b:=by
   unfold aG8;rw[zLR,hb,List.foldl_append];rfl
  simp only[iO,g,ib,aXq,aN6,cB,reduceIte,cJ,Nat.reduceAdd];refine aPl hlt hs _ ?_;rw[show aJH 8 (aG8 x (s.take i) ^^^ BitVec.ofNat 32 b.toNat)=aG8 x (s.take (i+1)) from et.symm];exact⟨⟨i+1,by omega,rfl,by first|rfl|trivial⟩,by simp[fN,x5];omega⟩
 ·have g:((i:Int)<(s.length:Int))=False:=eq_false (by omega);simp only[iO,g,cB,reduceIte,cJ,Nat.reduceAdd];rw[qX (by omega)];exact hk
def aPB(x:W):cC PG (binOp .sub fE (.int .u32 4294967295) (wv x))=some (wv (~~~x)):=by
 have hx:=x.isLt;have e:cC PG (binOp .sub fE (.int .u32 4294967295) (wv x))=some (.int .u32 (IntKind.u32.wrap (4294967295-(x.toNat:Int)))):=by unfold wv;exact aJ3
 rw[e];unfold wv;rw[aFj,BitVec.toNat_not];congr 2;omega
def aTU{h:PH}(s:Tx)(hs:s.length≤1000000){k:cF}(hk:k (wv (aMb s)) h):bT PG aB2 #[.string (tx s)] h k:=by
 apply aBW.call;unfold aBW;apply yC.call;unfold yC;have e0:cC PG (binOp .sub fE (.int .u32 4294967295) (.int .u32 0))=some (wv 4294967295):=aPB 0;simp only[e0,cB,reduceIte,cJ,Nat.reduceAdd];refine aTk _ s hs ?_;simp only[aPB,cB,reduceIte,cJ,Nat.reduceAdd];rw[aUU];exact hk
def aXY(a b c d:Int):jX PG (buildSlice cW 4 #[(0,.int .u8 a),(1,.int .u8 b),(2,.int .u8 c),(3,.int .u8 d)])=some (.cells #[.int .u8 a,.int .u8 b,.int .u8 c,.int .u8 d] dK,λr=>pure (.slice (some ⟨r,0,none⟩) 4 4)):=by kernel_rfl
def aRO{h:PH}(x:W){k:cF}(hk:∀h',cZ h h'->k (.string (tx (aFi x))) h'):bT PG aAn #[wv x] h k:=by
 apply zJ.call;unfold zJ;have hx:=x.isLt;have cv:∀n:Nat,n<256->cC PG (convert fE dK (.int .u32 (n:Int)))=some (.int .u8 (n:Int)):=λn hn=>by
  have e:cC PG (convert fE dK (.int .u32 (n:Int)))=some (.int .u8 (IntKind.u8.wrap (n:Int))):=by kernel_rfl
  rw[e,aIq];congr 2;omega
 have hq:∀m:Nat,0<m->m<4294967296->cC PG (binOp .quo fE (wv x) (.int .u32 (m:Int)))=some (wv (BitVec.ofNat 32 (x.toNat/m))):=λm h0 hm=>by
  rw[aUN x m h0 hm];unfold wv;have:=Nat.div_le_self x.toNat m;rw[BitVec.toNat_ofNat,aJF (by omega)]
 have r1:cC PG (binOp .rem fE (wv x) (.int .u32 256))=some (.int .u32 ((x.toNat%256:Nat):Int)):=aTu x 256 (by decide) (by decide);have q2:cC PG (binOp .quo fE (wv x) (.int .u32 256))=some (wv (BitVec.ofNat 32 (x.toNat/256))):=hq 256 (by decide) (by decide);have q3:cC PG (binOp .quo fE (wv x) (.int .u32 65536))=some (wv (BitVec.ofNat 32 (x.toNat/65536))):=hq 65536 (by decide) (by decide);have q4:cC PG (binOp .quo fE (wv x) (.int .u32 16777216))=some (.int .u32 ((x.toNat/16777216:Nat):Int)):=aUN x 16777216 (by decide) (by decide);have rr:∀n:Nat,n<4294967296->cC PG (binOp .rem fE (wv (BitVec.ofNat 32 n)) (.int .u32 256))=some (.int .u32 ((n%256:Nat):Int)):=λn hn=>by
  have:=aTu (BitVec.ofNat 32 n) 256 (by decide) (by decide);rw[BitVec.toNat_ofNat,aJF (a:=n) (by omega)] at this;exact this
 have m1:x.toNat%256<256:=zLB _ (by decide);have m2:x.toNat/256%256<256:=zLB _ (by decide);have m3:x.toNat/65536%256<256:=zLB _ (by decide);have m4:x.toNat/16777216<256:=by omega
 simp only[r1,cv _ m1,q2,rr (x.toNat/256) (by omega),cv _ m2,q3,rr (x.toNat/65536) (by omega),cv _ m3,q4,cv _ m4,aXY,cB,reduceIte,cJ,Nat.reduceAdd];intro r11 hr11;refine gY ?_
 try rw[cO]
 have ec:(aFi x).map jP=[[.int .u8 ((x.toNat%256:Nat):Int)],[.int .u8 ((x.toNat/256%256:Nat):Int)],[.int .u8 ((x.toNat/65536%256:Nat):Int)],[.int .u8 ((x.toNat/16777216:Nat):Int)]]:=by
  have e8:(x>>>8).toNat=x.toNat/256:=aIE x 8;have e16:(x>>>16).toNat=x.toNat/65536:=aIE x 16;have e24:(x>>>24).toNat=x.toNat/16777216:=aIE x 24;unfold aFi jP;simp only[hY,iZ,UInt8.toNat_ofNat',e8,e16,e24];rw[show(2:Nat)^8=256 from rfl,aJF (a:=x.toNat/16777216) m4]
 have u1:cZ h (h.set r11 (.cells #[.int .u8 ((x.toNat%256:Nat):Int),.int .u8 ((x.toNat/256%256:Nat):Int),.int .u8 ((x.toNat/65536%256:Nat):Int),.int .u8 ((x.toNat/16777216:Nat):Int)] dK)):=cT.new hr11;have O:eJ (h.set r11 (.cells #[.int .u8 ((x.toNat%256:Nat):Int),.int .u8 ((x.toNat/256%256:Nat):Int),.int .u8 ((x.toNat/65536%256:Nat):Int),.int .u8 ((x.toNat/16777216:Nat):Int)] dK)) dK 1 (.slice (some ⟨r11,0,none⟩) 4 4) ((aFi x).map jP) [r11]:=eJ.lit (n:=4) (λr hr=>by obtain⟨m,_,rfl⟩:=pV.1 hr;rfl) eD rfl (by decide) (by rw[ec];rfl);have hcv:=aEl cW.und dK.und aT.und O.slR;simp only[hcv,cB,reduceIte,cJ,Nat.reduceAdd];exact hk _ u1
def aLJ{h:PH}(s:Tx)(hs:s.length≤1000000){k:cF}(hk:∀h',cZ h h'->k (.string (tx (mZ s))) h'):bT PG pM #[.string (tx s)] h k:=by
 apply aAg.call;unfold aAg;refine aTU s hs ?_;refine aRO _ λh3 u3=>?_;have ea:cC PG (binOp .add aT (.string (tx s)) (.string (tx (aFi (aMb s)))))=some (.string (tx (mZ s))):=jT (by show s.length+4≤_;omega);simp only[ea,cB,reduceIte,cJ,Nat.reduceAdd];exact hk h3 u3
def aNc{h:PH}(s:Tx)(hs:s.length≤1000000){k:cF}(hk:∀h',cZ h h'->k (.bool (nQ s)) h'):bT PG uQ #[.string (tx s)] h k:=by
 apply zK.call;unfold zK;by_cases h4:4≤s.length
 ·have g:((4:Int)≤(s.length:Int))=True:=eq_true (by omega);have w4:IntKind.i64.wrap ((s.length:Int)-4)=((s.length-4:Nat):Int):=by rw[eI (by omega) (by omega)];omega
  have c1:cC PG (Instr.sliceAt aT (.string (tx s)) none (some (.int .i64 ((s.length-4:Nat):Int))) none)=some (.string (tx (s.take (s.length-4)))):=by
   have:=kL (P:=PG) (t:=aT) (l:=s) (i:=0) (j:=s.length-4) (lo:=none) (hi:=some (.int .i64 ((s.length-4:Nat):Int))) aT.und (.inl ⟨rfl,rfl⟩) (.inr ⟨_,rfl⟩) (by omega) (by omega);rw[this,zLb]
  simp only[iO,g,w4,c1,cB,reduceIte,cJ,Nat.reduceAdd];refine aLJ _ (by rw[mN];omega) λh2 u2=>?_;have ed:decide (s=mZ (s.take (s.length-4)))=nQ s:=by
   unfold nQ mZ;rw[xQ,decide_eq_true_iff,decide_eq_true_iff];constructor
   ·intro e;refine⟨h4,?_⟩;have e2:=congrArg (List.drop (s.length-4)) e;rw[List.drop_left' (by rw[mN];omega)] at e2;exact e2.symm
   ·intro ⟨_,e⟩;rw[e,zL6]
  simp only[aFB,ed,cB,reduceIte,cJ,Nat.reduceAdd];exact hk h2 u2
 ·have g:((4:Int)≤(s.length:Int))=False:=eq_false (by omega);have ed:nQ s=false:=by
   unfold nQ;simp[h4]
  rw[ed] at hk;simp only[iO,g,cB,reduceIte,cJ,Nat.reduceAdd];exact hk h cT.refl
end
end Go.Proofs.YtiohehjhlghikaaGreatDoor
