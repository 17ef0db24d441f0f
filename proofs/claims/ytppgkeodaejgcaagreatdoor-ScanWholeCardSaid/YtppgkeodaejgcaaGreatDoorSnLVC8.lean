/- The texts of this claim, put together. -/
import Derived.Test.YtppgkeodaejgcaaGreatDoorSnLVC7
import Derived.Test.YtppgkeodaejgcaaGreatDoorCards
import Derived.Test.YtppgkeodaejgcaaGreatDoorTie
import Derived.WalkKit
import Derived.ProofKit
set_option linter.all false
set_option maxRecDepth 100000
open Go.Instr (loadAt fieldAt indexAt extract buildSlice build)
namespace Go.Proofs.YtppgkeodaejgcaaGreatDoor
section
open Go
def aXj(f0 f1 f2 f3 f4 f5:Value)(e0 e1 e2 e3 e4 e5:Int):jV PG (buildSlice jN 6 #[(0,.agg #[f0,.int .i64 e0]),(1,.agg #[f1,.int .i64 e1]),(2,.agg #[f2,.int .i64 e2]),(3,.agg #[f3,.int .i64 e3]),(4,.agg #[f4,.int .i64 e4]),(5,.agg #[f5,.int .i64 e5])])=some (.cells #[f0,.int .i64 e0,f1,.int .i64 e1,f2,.int .i64 e2,f3,.int .i64 e3,f4,.int .i64 e4,f5,.int .i64 e5] cK,λr=>pure (.slice (some ⟨r,0,none⟩) 6 6)):=by kernel_rfl
def aKh(L:List Pr)(p:Pr):(oO L p).length≤L.length+1:=by
 have:∀L:List Pr,(L.filter λq=>decide (q.k<p.k)).length+(L.filter λq=>decide (p.k<q.k)).length≤L.length:=by
  intro L;induction L with
  | nil=>simp
  | cons a L ih=>
   by_cases h1:a.k<p.k
   ·have h2:¬p.k<a.k:=λh=>zL1 _ (List.lt_trans h1 h);rw[List.filter_cons_of_pos (by simpa using h1),List.filter_cons_of_neg (by simpa using h2),qE,qE];omega
   ·by_cases h2:p.k<a.k
    ·rw[List.filter_cons_of_neg (by simpa using h1),List.filter_cons_of_pos (by simpa using h2),qE,qE];omega
    ·rw[List.filter_cons_of_neg (by simpa using h1),List.filter_cons_of_neg (by simpa using h2),qE];omega
 have h:=this L;unfold oO;rw[jM,qE];omega
def aQl(p:Pk):(aEv p).length≤64:=by
 unfold aEv aJ5;split
 ·exact zLE (Nat.le_of_eq rfl) (show 32≤64 by decide)
 ·simp
noncomputable def uO(s:Ch)(p:Pk)(pf:Tx)(x:Int):List (Int×Bool):=[(1,p.right&&(p.f==1-s.id)),(10,decide (IntKind.u64.wrap ((s.st.height:Int)+1)<p.t)),(4,!(iJ s.st.now (iZ 114 p.s.toNat)).isSome),(11,(mC s.cl x).isSome),(9,aEG (wR s.cl x) pf (iZ 99 p.s.toNat) (rJ p)),(2,decide (s.st.now.length+2≤4096))]
def Ch.received(s:Ch)(p:Pk):Ch:=((s.put (iZ 114 p.s.toNat) [1]).put (iZ 97 p.s.toNat) (aEv p)).add ⟨2,p⟩
def aWv{h:PH}{c:Nat}{s:Ch}{F:List Nat}(hK:oP h)(H:jB c s h F)(h0F:0∉F){p:Pk}(w:p.wf){pf:Tx}{x:Int}(hl:s.nts.length<1000000){kk:cD}
  (hbad:rG s (uO s p pf x)≠0->∀h',jB c s h' F->dD h h'->kk (.int .i64 (rG s (uO s p pf x))) h')
  (hk:rG s (uO s p pf x)=0->∀h' F',jB c (s.received p) h' F'->jI h F h' F'->kk (.int .i64 0) h'):
  aT PG aEI #[pT c 0,p.v,.string (tx pf),.int .u64 x] h kk:=by
 apply xD.call;unfold xD;obtain⟨n,hn⟩:=zLn w.1;have hn2:n<18446744073709551616:=by have:=w.2.1;omega
 intro r1 hr1
 try rw[cW]
 have u1:dD h (h.set r1 (.cells (Value.cells (pT c 0)) dF)):=cQ.new hr1;have B1:Bx (h.set r1 (.cells (Value.cells (pT c 0)) dF)) r1 [pT c 0]:=Bx.new;generalize h.set r1 (.cells (Value.cells (pT c 0)) dF)=h1 at *;intro r3 hr3
 try rw[cW]
 have u3:dD h1 (h1.set r3 (.cells (Value.cells p.v) aR)):=cQ.new hr3;have B3:Bx (h1.set r3 (.cells (Value.cells p.v) aR)) r3 p.cells:=Bx.new;generalize h1.set r3 (.cells (Value.cells p.v) aR)=h3 at *;intro r5 hr5
 try rw[cW]
 have u5:dD h3 (h3.set r5 (.cells (Value.cells (.string (tx pf))) bT)):=cQ.new hr5;have B5:Bx (h3.set r5 (.cells (Value.cells (.string (tx pf))) bT)) r5 [.string (tx pf)]:=Bx.new;generalize h3.set r5 (.cells (Value.cells (.string (tx pf))) bT)=h5 at *;have e5:=(u1.trans u3).trans u5;have C1:=(B1.ext u3).ext u5;have C3:=B3.ext u5;have H5:=(jB.good c s).ext H e5;have k1:h r1=none:=hr1;have k3:h r3=none:=u1.none hr3;have lc:∀{h'':PH},dD h5 h''->cG PG h'' (loadAt dF (pT r1 0))=some (pT c 0):=λv=>by rw[dF.load,(C1.ext v).cell];rfl
 have lpk:∀{h'':PH},dD h5 h''->cG PG h'' (loadAt aR (pT r3 0))=some p.v:=λv=>(C3.ext v).pk rfl;have ls:∀{h'':PH},dD h5 h''->cG PG h'' (loadAt cA (pT r3 1))=some (.int .u64 (n:Int)):=λv=>by rw[cA.load,(C3.ext v).cell,←hn];rfl
 have lt:∀{h'':PH},dD h5 h''->cG PG h'' (loadAt cA (pT r3 2))=some (.int .u64 p.t):=λv=>by rw[cA.load,(C3.ext v).cell];rfl
 have lpf:∀{h'':PH},dD h5 h''->cG PG h'' (loadAt bT (pT r5 0))=some (.string (tx pf)):=λv=>by rw[bT.load,(B5.ext v).cell];rfl
 simp only[lc cQ.refl,oR,cE,reduceIte,cZ,Nat.reduceAdd];refine aMq (f:=λroot=>aEG root pf (iZ 99 p.s.toNat) (rJ p)) H5 rfl (λh' u root k' hk'=>?_) λh4 f1 f2 c1 c2 R1 R2 u4=>?_
 ·show aT PG aCs #[.string (tx root),pT r5 0,pT r3 0] h' k';apply tN.call;unfold tN;simp only[lpf u,lpk u,aR.f1,fQ,ls u,cE,reduceIte,cZ,Nat.reduceAdd];refine aNa hn2 λh6 u6=>?_;refine⟨lpk (u.trans u6),lpf (u.trans u6),?_⟩;refine aIz w (hK.ext ((e5.trans u).trans u6)) λh7 u7=>?_;refine⟨lpf ((u.trans u6).trans u7),?_⟩;refine aT0 (hK.ext (((e5.trans u).trans u6).trans u7)) λh8 u8=>?_;have:=hk' h8 ((u6.trans u7).trans u8);rw[hn] at this;exact this
 have e4:=e5.trans u4;simp only[cE,reduceIte,cZ,Nat.reduceAdd];intro r13 hr13
 try rw[cW]
 have u6:dD h4 (h4.set r13 (.cells (dV PG cK) cK)):=cQ.new hr13;have Z13:=cK.zbox (h:=h4) (r:=r13);generalize h4.set r13 (.cells (dV PG cK) cK)=h6 at *;intro r15 hr15
 try rw[cW]
 have u7:dD h6 (h6.set r15 (.cells (dV PG cK) cK)):=cQ.new hr15;have Z15:=cK.zbox (h:=h6) (r:=r15);have n1315:r13≠r15:=Z13.apart hr15;have Y13:=Z13.ext u7;generalize h6.set r15 (.cells (dV PG cK) cK)=h7 at *;have k13:h4 r13=none:=hr13;have k15:h4 r15=none:=u6.none hr15;refine cK.put (vs:=[f1,.int .i64 11]) Y13 (o:=0) rfl (by show 0+2≤2;decide) (by simp only[gU,lH,or_false];rintro z (rfl|rfl);exact c1;rfl) λh8 B8 u8=>?_;refine cK.put (vs:=[f2,.int .i64 9]) (Z15.upd u8 (by simpa using n1315.symm)) (o:=0) rfl (by show 0+2≤2;decide) (by simp only[gU,lH,or_false];rintro z (rfl|rfl);exact c2;rfl) λh9 B9 u9=>?_;have e49:dD h4 h9:=((u6.trans u7).fresh u8 (eK.one k13)).fresh u9 (eK.one k15);have D13:=B8.upd u9 (by simpa using n1315);have v59:dD h5 h9:=u4.trans e49;have H9:=(jB.good c s).ext H5 v59;obtain⟨sp,m,cp,nv,bv,lk,P,perm,ok⟩:=H9;have H9:jB c s h9 F:=⟨sp,m,cp,nv,bv,lk,P,perm,ok⟩;have hid:=ok.id;have w1:IntKind.i64.wrap (1-s.id)=1-s.id:=fH (by omega) (by omega);have l13:∀{h'':PH},dD h9 h''->cG PG h'' (loadAt cK (pT r13 0))=some (.agg #[f1,.int .i64 11]):=λv=>cK.agg (D13.ext v) (by show 0+2≤2;decide);have l15:∀{h'':PH},dD h9 h''->cG PG h'' (loadAt cK (pT r15 0))=some (.agg #[f2,.int .i64 9]):=λv=>cK.agg (B9.ext v) (by show 0+2≤2;decide);simp only[lc v59,lpk v59,eJ.f1,fQ,Ch.load5 P.cell,w1,oR,aLA,l13 cQ.refl,l15 cQ.refl,cE,reduceIte,cZ,Nat.reduceAdd];refine aRX λh10 f0 c0 R0 u10=>?_;have v510:=v59.trans u10;refine⟨l15 u10,l13 u10,lc v510,?_⟩;simp only[aXj,cE,reduceIte,cZ,Nat.reduceAdd];intro r38 hr38;refine fP ?_
 try rw[cW]
 obtain⟨rs,hrs⟩:∃rs:List RuV,rs=[(f0,1,p.right&&(p.f==1-s.id)),(.func (.func uH) #[] #[pT r3 0,pT r1 0],10,decide (IntKind.u64.wrap ((s.st.height:Int)+1)<p.t)),(.func (.func tT) #[] #[pT r1 0,pT r3 0],4,!(iJ s.st.now (iZ 114 p.s.toNat)).isSome),(f1,11,(mC s.cl x).isSome),(f2,9,aEG (wR s.cl x) pf (iZ 99 p.s.toNat) (rJ p)),(.func (.func tS) #[] #[pT r1 0],2,decide (s.st.now.length+2≤4096))]:=⟨_,rfl⟩;have ecells:(#[f0,.int .i64 1,.func (.func uH) #[] #[pT r3 0,pT r1 0],.int .i64 10,.func (.func tT) #[] #[pT r1 0,pT r3 0],.int .i64 4,f1,.int .i64 11,f2,.int .i64 9,.func (.func tS) #[] #[pT r1 0],.int .i64 2]:Array Value)=(rs.map mU).flatten.toArray:=by rw[hrs];rfl
 have ers:aN9 s rs=rG s (uO s p pf x):=by rw[aPY,hrs];rfl
 rw[ecells];have u11:dD h10 (h10.set r38 (.cells (rs.map mU).flatten.toArray cK)):=cQ.new hr38;have S11:fZ (h10.set r38 (.cells (rs.map mU).flatten.toArray cK)) 2 (.slice (some ⟨r38,0,none⟩) 6 6) (rs.map mU):=(eM.lit (mU.rows rs) dL (by rw[hrs];simp) (by decide) (by simp)).slR;generalize h10.set r38 (.cells (rs.map mU).flatten.toArray cK)=h11 at *;have v511:=v510.trans u11;have e411:=(e49.trans u10).trans u11;have H11:=(jB.good c s).ext H5 v511;have hrules:aIG h11 rs:=λy hy=>by
  rw[hrs] at hy;simp only[gU,lH,or_false] at hy;rcases hy with rfl|rfl|rfl|rfl|rfl|rfl
  ·exact⟨c0,R0.ext u11⟩
  ·refine⟨rfl,λh' u k' hk'=>?_⟩;show aT PG uH #[pT r3 0,pT r1 0] h' k';apply tP.call;unfold tP;obtain⟨sp,m,cp,nv,bv,lk,P,perm,ok⟩:=(jB.good c s).ext H11 u;obtain⟨Fs,St,-,-⟩:=P.fSt;simp only[lt (v511.trans u),lc (v511.trans u),eJ.f0,eX.f0,aR.f2,fQ,Ch.load0 P.cell,cE,reduceIte,cZ,Nat.reduceAdd];refine aKT St ?_;refine⟨lt (v511.trans u),?_⟩;simp only[cE,reduceIte,cZ,Nat.reduceAdd];exact hk' h' cQ.refl
  ·refine⟨rfl,λh' u k' hk'=>?_⟩;show aT PG tT #[pT r1 0,pT r3 0] h' k';apply tR.call;unfold tR;obtain⟨sp,m,cp,nv,bv,lk,P,perm,ok⟩:=(jB.good c s).ext H11 u;simp only[lc (v511.trans u),eJ.f0,eX.f0,aR.f1,fQ,Ch.load0 P.cell,ls (v511.trans u),cE,reduceIte,cZ,Nat.reduceAdd];refine aKn hn2 λh12 u12=>?_;have P12:=jD.good.ext P u12;refine⟨Ch.load0 P12.cell,lc ((v511.trans u).trans u12),?_⟩;obtain⟨Fs,St,-,-⟩:=P12.fSt;refine aSc St _ ?_;simp only[cE,reduceIte,cZ,Nat.reduceAdd];have:=hk' h12 u12;rw[hn] at this;exact this
  ·exact⟨c1,R1.ext e411⟩
  ·exact⟨c2,R2.ext e411⟩
  ·refine⟨rfl,λh' u k' hk'=>?_⟩;show aT PG tS #[pT r1 0] h' k';apply aBn.call;unfold aBn;simp only[lc (v511.trans u),eJ.f0,cE,reduceIte,cZ,Nat.reduceAdd];exact aRL (n:=2) ((jB.good c s).ext H11 u) (by decide) (hk' h' cQ.refl)
 refine aPs H11 S11 hrules (by rw[hrs];simp) λh12 u12=>?_;rw[ers];have H12:=(jB.good c s).ext H11 u12;have v512:=v511.trans u12;have e12:=e5.trans v512;unfold aDU;by_cases he:rG s (uO s p pf x)=0
 case neg=>
  have q:(rG s (uO s p pf x)==0)=false:=by simpa using he
  simp only[iG,q,cE,reduceIte,cZ,Nat.reduceAdd];exact hbad he h12 H12 e12
 obtain⟨-,hall⟩:=aMy he (by
  intro y hy;simp only[uO,gU,lH,or_false] at hy;rcases hy with rfl|rfl|rfl|rfl|rfl|rfl<;>simp)
 have broom:s.st.now.length+2≤4096:=by
  have:=hall (2,decide (s.st.now.length+2≤4096)) (by simp[uO]);simpa using this
 have q1:({data:=#[1]}:ByteArray)=tx [1]:=rfl;simp only[he,iG,lc v512,eJ.f0,aR.f1,fQ,ls v512,q1,cE,reduceIte,cZ,Nat.reduceAdd];refine aKn hn2 λh13 u13=>?_;refine⟨lc (v512.trans u13),?_⟩;have H13:=(jB.good c s).ext H12 u13;have v513:=v512.trans u13;refine aPN H13 (by rw[aAA];decide) (by rw[aAA];decide) (by decide) (aOh (n:=2) (by decide) broom) λh14 F14 H14 s14=>?_;have nF:∀{r:Nat},h r=none->r∉F:=λhr hm=>(jB.good c s).known H _ hm hr;have D1:=(C1.ext v513).upd s14.upd (nF k1);have D3:=(C3.ext v513).upd s14.upd (nF k3);have m1:r1∉F14:=λhm=>by
  rcases s14.grow _ hm with hx|hx
  ·exact nF k1 hx
  ·exact(C1.ext v513).known hx
 have m3:r3∉F14:=λhm=>by
  rcases s14.grow _ hm with hx|hx
  ·exact nF k3 hx
  ·exact(C3.ext v513).known hx
 have lc14:∀{h'':PH},dD h14 h''->cG PG h'' (loadAt dF (pT r1 0))=some (pT c 0):=λv=>by rw[dF.load,(D1.ext v).cell];rfl
 have lp14:∀{h'':PH},dD h14 h''->cG PG h'' (loadAt aR (pT r3 0))=some p.v:=λv=>(D3.ext v).pk rfl;have ls14:cG PG h14 (loadAt cA (pT r3 1))=some (.int .u64 (n:Int)):=by rw[cA.load,D3.cell,←hn];rfl
 simp only[lc14 cQ.refl,eJ.f0,aR.f1,fQ,ls14,lp14 cQ.refl,cE,reduceIte,cZ,Nat.reduceAdd];refine aNe hn2 λh15 u15=>?_;refine⟨lp14 u15,lc14 u15,?_⟩;have K14:oP h14:=by
  obtain⟨tt,fr,h0⟩:=hK.ext (e5.trans v513);exact⟨tt,fr,s14.upd.get h0 h0F⟩
 refine aP4 w (K14.ext u15) λh16 u16=>?_;have u1416:=u15.trans u16;refine⟨lc14 u1416,?_⟩;have H16:=(jB.good c _).ext H14 u1416;have hlen:=aKh s.st.now ⟨iZ 114 n,[1]⟩;refine aPN H16 (by rw[aAA];decide) (by rw[aAA];decide) (aQl _) (λ⟨_,hx⟩=>by
  have:4096≤(oO s.st.now ⟨iZ 114 n,[1]⟩).length:=hx;omega) λh17 F17 H17 s17=>?_
 have E1:=(D1.ext u1416).upd s17.upd m1;have E3:=(D3.ext u1416).upd s17.upd m3;have lc17:cG PG h17 (loadAt dF (pT r1 0))=some (pT c 0):=by rw[dF.load,E1.cell];rfl
 have lp17:cG PG h17 (loadAt aR (pT r3 0))=some p.v:=E3.pk rfl;simp only[lc17,lp17,cE,reduceIte,cZ,Nat.reduceAdd];refine aN5 H17 2 w hl λh18 F18 H18 s18=>?_;have es:((s.put (iZ 114 n) [1]).put (iZ 97 n) (aEv p)).add ⟨2,p⟩=s.received p:=by unfold Ch.received;rw[hn];rfl
 rw[es] at H18;exact hk he h18 F18 H18 (((((jI.ext (e5.trans v513)).trans s14).trans (jI.ext u1416)).trans s17).trans s18)
def Ch.told(s:Ch)(x:Int)(root:Tx):Ch:={s with cl:=(aAq s.cl ⟨x,tx root⟩).2}
def aS1{h:PH}{c:Nat}{s:Ch}{F:List Nat}(H:jB c s h F)(x:Int)(root:Tx){kk:cD}
  (hk:∀h' F',jB c (s.told x root) h' F'->jI h F h' F'->kk (.int .i64 (aAq s.cl ⟨x,tx root⟩).1) h'):aT PG aCr #[pT c 0,.int .u64 x,.string (tx root)] h kk:=by
 apply aBX.call;unfold aBX;obtain⟨sp,m,cp,nv,bv,lk,P,perm,ok⟩:=H;simp only[eJ.f2,fQ,Ch.load6 P.cell,cE,reduceIte,cZ,Nat.reduceAdd];obtain⟨Fc,⟨hs,C⟩,hFc,back⟩:=P.fCli;refine aY8 C ⟨x,tx root⟩ λh1 hs1 F1 C1 u1 g1=>?_;obtain⟨F2,P2,s2⟩:=back (aDd cp (aAq s.cl ⟨x,tx root⟩).2) h1 F1 ⟨hs1,C1⟩ ⟨u1,g1⟩;exact hk h1 F2 ⟨sp,m,cp,nv,bv,lk,P2,perm,⟨ok.id,ok.len,ok.first,ok.seq,ok.seq1,ok.nts,ok.wf,ok.bwf⟩⟩ s2
def aF0(s:St)(key:Tx)(x:Nat):Tx×Int:=match zH s x with
 | none=>([],3)
 | some b=>if (iJ b key).isSome then lW (lD b key) else if 1≤key.length∧key.length≤16 then lW (lD b key) else([],1)
def St.Ok.mok{s:St}(H:s.Ok){x:Nat}{b:List Pr}(hb:zH s x=some b):MOk b:=by
 have hm:b∈s.blocks:=tA (aOm hb).2;obtain⟨h1,h2,h3⟩:=H.blk b hm;exact⟨h1,h3,λp hp=>by have:=h2 p hp;unfold aPd at this;omega,λp hp=>by have:=h2 p hp;unfold aPd at this;omega⟩
def aVN{h:PH}{c:Nat}{s:Ch}{F:List Nat}(hK:oP h)(H:jB c s h F)(key:Tx){x:Nat}(hx:x<18446744073709551616){kk:cD}
  (hk:∀h',dD h h'->kk (.tuple #[.string (tx (aF0 s.st key x).1),.int .i64 (aF0 s.st key x).2]) h'):aT PG aDV #[pT c 0,.string (tx key),.int .u64 (x:Int)] h kk:=by
 apply aCa.call;unfold aCa;obtain⟨sp,m,cp,nv,bv,lk,P,perm,ok⟩:=H;have hst:=P.okst;simp only[eJ.f0,eX.f0,Ch.load0 P.cell,cE,reduceIte,cZ,Nat.reduceAdd];obtain⟨Fs,S,-,-⟩:=P.fSt;have q0:({data:=#[]}:ByteArray)=tx []:=rfl;unfold aF0 at hk;refine aZ7 S x hx (λe v h1 F1 O1 f1 u1=>?_) (λb v h1 F1 e O1 f1 u1=>?_)
 ·rw[e] at hk;have q:((3:Int) !=0)=true:=by decide
  simp only[kW,q,q0,cE,reduceIte,cZ,Nat.reduceAdd];exact hk h1 u1
 ·rw[e] at hk;simp only at hk;have M:=hst.mok e;have B1:=O1.slR;simp only[kW,cE,reduceIte,cZ,Nat.reduceAdd]
  -- the end
  have fin:∀{h4:PH} {ab:Bool} {v4:Value} {r:Nat},dD h1 h4->Bx h4 r [.bool ab,v4]->oB h1 h4 v4 (lD b key).lv->ab=(lD b key).ab->(∀h',dD h h'->kk (.tuple #[.string (tx (lW (lD b key)).1),.int .i64 (lW (lD b key)).2]) h')->qQ kk (.int .i64 0) (pT r 0) h4:=by
   intro h4 ab v4 r u4 B4 L4 eab hk;unfold qQ;have l4:cG PG h4 (loadAt cC (pT r 0))=some (Pf.val ab v4):=cC.agg B4 (by show 0+2≤2;decide);simp only[kW,l4,cE,reduceIte,cZ,Nat.reduceAdd];obtain⟨l,F',el,O,-,L⟩:=L4.here;have epf:(⟨ab,l.map (·.1)⟩:Pf)=lD b key:=by rw[el,eab]
   have hpf:=aQP M key;refine aUO O.slR L.lfs (by
    have:l.length=(lD b key).lv.length:=by rw[←el];simp
    have:=hpf.1;omega) (λy hy=>by
    have hm:y.1∈(lD b key).lv:=by rw[←el];exact zL8 hy
    obtain⟨j,hj,ej⟩:=hpf.2 _ hm;have:=(aUK M hj).m;rw[ej];omega) λh5 u5=>?_
   rw[epf];simp only[cE,reduceIte,cZ,Nat.reduceAdd];exact hk h5 ((u1.trans u4).trans u5)
  refine aTU M (hK.ext u1) B1 (λhno h2 u2=>?_) (λhyes h2 v2 L2 u2=>?_)
  ·have hns:(iJ b key).isSome=false:=by rw[hno];rfl
   rw[hns] at hk;simp only[zLu,if_false] at hk;simp only[cE,reduceIte,cZ,Nat.reduceAdd];intro r14 hr14
   try rw[cW]
   refine cC.fill (vs:=[.bool false,.slice none 0 0]) hr14 rfl (by simp[fW]) λh3 B3 u3=>?_;have q:((3:Int) !=0)=true:=by decide
   have e3:=u2.trans u3;simp only[kW,q,cE,reduceIte,cZ,Nat.reduceAdd];have bad:∀{h4:PH} {e:Int},dD h3 h4->e≠0->(∀h',dD h h'->kk (.tuple #[.string (tx []),.int .i64 e]) h')->dC PG (dT cC (pT r14 0) (Pf.val false (.slice none 0 0))) h4 λv23 h24=>qQ kk (.int .i64 e) (pT r14 0) h24:=by
    intro h4 e u4 hne hk;refine cC.put (vs:=[.bool false,.slice none 0 0]) (B3.ext u4) (o:=0) rfl (by show 0+2≤2;decide) (by simp[fW]) λh5 B5 u5=>?_;unfold qQ;have q:(e !=0)=true:=by simpa using hne
    simp only[kW,q,q0,cE,reduceIte,cZ,Nat.reduceAdd];exact hk h5 (((u1.trans e3).trans u4).fresh u5 (eK.one ((u1.trans u2).none hr14)))
   refine aU0 M ((hK.ext u1).ext e3) (B1.ext e3) (λhb h4 u4=>?_) (λhs h4 u4=>?_) (λh1' h2' _ h4 v4 L4 u4=>?_)
   ·rw[if_neg hb] at hk;simp only[cE,reduceIte,cZ,Nat.reduceAdd];exact bad u4 (by decide) hk
   ·rw[hns] at hs;cases hs
   ·rw[if_pos ⟨h1',h2'⟩] at hk;simp only[cE,reduceIte,cZ,Nat.reduceAdd];refine cC.put (vs:=[.bool true,v4]) (B3.ext u4) (o:=0) rfl (by show 0+2≤2;decide) (by
     have:=L4.isc;simp[fW];exact this) λh5 B5 u5=>?_
    have hab:(lD b key).ab=true:=by
     unfold lD;rw[if_neg (by rw[hns];decide)];split
     ·rfl
     ·split
      ·rfl
      ·split<;>rfl
    have L5:oB h3 h5 v4 (lD b key).lv:=L4.upd u5 (λb hb=>by simp only[gB] at hb;rw[hb];exact B3.known);exact fin ((e3.trans u4).fresh u5 (eK.one (u2.none hr14))) B5 (L5.of e3) hab.symm hk
  ·rw[hyes] at hk;simp only[if_true] at hk;simp only[cE,reduceIte,cZ,Nat.reduceAdd];intro r14 hr14
   try rw[cW]
   refine cC.fill (vs:=[.bool false,v2]) hr14 rfl (by
    have:=L2.isc;simp[fW];exact this) λh3 B3 u3=>?_
   have epf:lD b key=⟨false,[kQ b (hQ b key)]⟩:=by unfold lD;rw[if_pos hyes]
   exact fin (u2.trans u3) B3 (by rw[epf];exact L2.upd u3 (λb hb=>by cases hb)) (by rw[epf]) hk
def Ch.committed(s:Ch):Ch:=if (lV s.st).2.2=0 then {s with st:=(lV s.st).1,blk:=s.blk++[s.nts],nts:=[]} else s
def aSw(a:Option Addr)(n c:Nat):jV PG (buildSlice eS 1 #[(0,.slice a n c)])=some (.cells #[.slice a n c] cU,λr=>pure (.slice (some ⟨r,0,none⟩) 1 1)):=by kernel_rfl
def aJb{s:St}(h:(lV s).2.2≠0):(lV s).1=s:=by
 unfold lV at h ⊢;split
 ·rfl
 ·rename_i h1;rw[if_neg h1] at h;split
  ·rfl
  ·rename_i h2;rw[if_neg h2] at h;exact absurd rfl h
def aMu{s:St}(h:(lV s).2.2=0):(lV s).1= {s with blocks:=s.blocks++[s.now],height:=s.height+1}∧(lV s).2.1=s.height+1:=by
 unfold lV at h ⊢;split
 ·rename_i h1;rw[if_pos h1] at h;cases h
 ·rename_i h1;rw[if_neg h1] at h;split
  ·rename_i h2;rw[if_pos h2] at h;cases h
  ·exact⟨rfl,rfl⟩
def aTo{h:PH}{c:Nat}{s:Ch}{F:List Nat}(hK:oP h)(H:jB c s h F){kk:cD}
  (hk:∀h' F',jB c s.committed h' F'->jI h F h' F'->kk (.tuple #[.int .u64 ((lV s.st).2.1:Int),.int .i64 (lV s.st).2.2]) h'):aT PG aCw #[pT c 0] h kk:=by
 apply uI.call;unfold uI aCF;obtain⟨sp,m,cp,nv,bv,lk,P,perm,ok⟩:=H;have hst:=P.okst;simp only[eJ.f0,eX.f0,Ch.load0 P.cell,cE,reduceIte,cZ,Nat.reduceAdd];obtain⟨Fs,S,hFs,back⟩:=P.fSt;refine aUJ hK S λh1 F1 S1 u1 g1=>?_;obtain⟨F2,P2,s2⟩:=back (stA sp (lV s.st).1) h1 F1 S1 ⟨u1,g1⟩;unfold Ch.committed at hk;by_cases he:(lV s.st).2.2=0
 case neg=>
  have q:((lV s.st).2.2==0)=false:=by simpa using he
  rw[if_neg he] at hk;simp only[iG,q,cE,reduceIte,cZ,Nat.reduceAdd];refine hk h1 F2 ⟨sp,m,cp,nv,bv,lk,?_,perm,ok⟩ s2;rw[aJb he] at P2;exact P2
 have q:((lV s.st).2.2==0)=true:=by simpa using he
 rw[if_pos he] at hk;obtain⟨ec,-⟩:=aMu he;have P2:jD c (s.cells sp bv nv m cp) sp (lV s.st).1 m lk cp s.cl nv s.nts bv s.blk h1 F2:=P2;obtain⟨Ft,⟨Fn,Fb',rfl,On,⟨bl,Fb,G,Ob,Sb,ebl,rfl,hG⟩,hd⟩,hFt,back2⟩:=P2.fTwo;have On:eM h1 dA 5 nv (s.nts.map Nt.cells) Fn:=On;obtain⟨na,nc,env,-⟩:=On.slR.here;rw[iV] at env;have e2:=P2.cell;simp only[iG,q,eJ.f0,eX.f2,eX.f3,fQ,Ch.load2 P2.cell,Ch.load3 P2.cell,cE,reduceIte,cZ,Nat.reduceAdd];rw[env];simp only[aSw,cE,reduceIte,cZ,Nat.reduceAdd];rw[←env];intro r18 hr18;refine fP ?_
 try rw[cW]
 have u3:dD h1 (h1.set r18 (.cells #[nv] cU)):=cQ.new hr18;have s3:fZ (h1.set r18 (.cells #[nv] cU)) 1 (.slice (some ⟨r18,0,none⟩) 1 1) ([(nv,s.nts)].map aKo):=(eM.lit (aKo.rows [(nv,s.nts)]) dL (by simp) (by decide) (by simp[aKo])).slR;generalize h1.set r18 (.cells #[nv] cU)=h3 at *;have hbl:bl.length≤4096:=by
  have h1:=hst.h2;have h2:=ok.len;have h3:bl.length=s.blk.length:=by rw[←ebl];simp
  omega
 refine jK eS.und eS.und cU.info cU.size cU.bytes cU.zero rfl (by decide) (Ob.ext u3) s3 (λr hr u hu=>by
  obtain⟨y,hy,rfl⟩:=mJ.1 hr;simp only[gB] at hy;subst hy;simp only[aKo,gB] at hu;subst hu;exact On.slR.isc) (by simp;omega) ?_
 intro v4 h4 F4 O4 u4 g4 _;rw[←pO] at O4;have nFb:∀b∈Fn,b∉Fb:=λb hb hb'=>hd b hb (by simp[hb']);have On4:eM h4 dA 5 nv (s.nts.map Nt.cells) Fn:=(On.ext u3).upd u4 nFb;have A4:aBP v4 (s.blk++[s.nts]) h4 (F4++(Fn++G)):=by
  refine⟨bl++[(nv,s.nts)],F4,Fn++G,O4,λx hx=>?_,by rw[pO,ebl];rfl,rfl,λg hg=>?_⟩
  ·rcases kB.1 hx with hx|hx
   ·refine⟨((Sb x hx).1.ext u3).upd u4 λa n c ev=>(hG _ ((Sb x hx).2 a n c ev)).1,λa n c ev=>?_⟩;have:=(Sb x hx).2 a n c ev;simp[this]
   ·simp only[gB] at hx;subst hx;refine⟨On4.slR,λa n c ev=>?_⟩;have:=aGn On a n c ev;simp[this]
  ·rcases kB.1 hg with hg|hg
   ·refine⟨λhx=>?_,On4.known g hg⟩;rcases g4 g hx with hx|hx
    ·exact nFb g hg hx
    ·exact(On.ext u3).known g hg hx
   ·obtain⟨y1,y2⟩:=hG g hg;obtain⟨o,ho⟩:=aH1.1 y2;have h3g:=u3.get ho;refine⟨λhx=>?_,by rw[u4.get h3g y1];simp⟩;rcases g4 g hx with hx|hx
    ·exact y1 hx
    ·rw[hx] at h3g;cases h3g
 have st4:jI h1 (Fn++(Fb++G)) h4 (F4++(Fn++G)):=by
  refine⟨λb o hb hn=>u4 b o (u3.get hb) (λhm=>hn (by simp[hm])),λb hb=>?_⟩;rcases kB.1 hb with hb|hb
  ·rcases g4 b hb with hx|hx
   ·exact .inl (by simp[hx])
   ·exact .inr (u3.none hx)
  ·rcases kB.1 hb with hb|hb
   ·exact .inl (by simp[hb])
   ·exact .inl (by simp[hb])
 have T4:(eP (xY dA 5 (.slice none 0 0) (([]:List Nt).map Nt.cells)) (aBP v4 (s.blk++[s.nts]))) h4 ([]++(F4++(Fn++G))):=eP.mk (eM.nil) A4 (λb hb=>by cases hb);rw[sK] at T4;obtain⟨F5,P5,s5⟩:=back2 _ h4 _ T4 st4;have P5:jD c (s.cells sp bv nv m cp) sp (lV s.st).1 m lk cp s.cl (.slice none 0 0) [] v4 (s.blk++[s.nts]) h4 F5:=P5
 try simp only[eJ.f0,eX.f2,fQ,cE,reduceIte,cZ,Nat.reduceAdd]
 obtain⟨Fb6,⟨rfl,B6⟩,hF6,back3⟩:=P5.fBox;refine eS.put B6 (o:=2) (by show 2<8;decide) O4.slR.isc λh6 B6' u6=>?_
 try simp only[eJ.f0,eX.f3,fQ,cE,reduceIte,cZ,Nat.reduceAdd]
 refine cU.put B6' (o:=3) (by show 3<8;decide) rfl λh7 B7 u7=>?_;have u67:cQ [c] h4 h7:=u6.trans u7;obtain⟨F7,P7,s7⟩:=back3 (qL c (s.cells sp v4 (.slice none 0 0) m cp)) h7 [c] ⟨rfl,B7⟩ ⟨u67,λb hb=>.inl hb⟩;refine hk h7 F7 ⟨sp,m,cp,.slice none 0 0,v4,lk,P7,?_,⟨ok.id,?_,?_,ok.seq,ok.seq1,by simp,by simp,?_⟩⟩ ((s2.trans s5).trans s7)
 ·show lk.Perm (lV s.st).1.now;rw[ec];exact perm
 ·show(s.blk++[s.nts]).length=(lV s.st).1.blocks.length;rw[ec,jM,jM,ok.len];rfl
 ·show s.first+((s.blk++[s.nts]).length-1)=(lV s.st).1.height;have h1:=ok.len;have h2:=ok.first;have h3:=hst.h1;rw[ec,jM];show s.first+(s.blk.length+1-1)=s.st.height+1;omega
 ·intro b hb;rcases kB.1 hb with hb|hb
  ·exact ok.bwf b hb
  ·simp only[gB] at hb;subst hb;exact⟨ok.nts,ok.wf⟩
def Ch.new(id:Int)(n seq:Nat):Ch:=⟨id,⟨[],[[]],n⟩,n,[[]],[],[],seq⟩
def bA0(sp r m n:Nat):dH PG (build eX #[(0,pT sp 0),(1,.int .u64 (n:Int)),(2,.slice (some ⟨r,0,none⟩) 1 1),(4,.map (some m))])=some (.agg #[pT sp 0,.int .u64 (n:Int),.slice (some ⟨r,0,none⟩) 1 1,.slice none 0 0,.map (some m)]):=by kernel_rfl
def bA9(sp r m cp n seq:Nat)(id:Int):dH PG (build eJ #[(0,.agg #[pT sp 0,.int .u64 (n:Int),.slice (some ⟨r,0,none⟩) 1 1,.slice none 0 0,.map (some m)]),(1,.int .i64 id),(2,pT cp 0),(3,.int .u64 (seq:Int))])=some (.agg ((Ch.new id n seq).cells sp (.slice (some ⟨r,0,none⟩) 1 1) (.slice none 0 0) m cp).toArray):=by kernel_rfl
def ms1:∃zs:Array Value,jV PG (Instr.makeSlice eS (.int .i64 1) (.int .i64 1))=some (.cells zs cU (0,0),λr=>pure (.slice (some ⟨r,0,none⟩) 1 1))∧zs.toList=[.slice none 0 0]:=by
 obtain⟨zs,h1,h2⟩:=aCq (P:=PG) (n:=1) eS.und cU.info cU.size cU.bytes cU.zero rfl (by decide) (by decide) (by decide);exact⟨zs,h1,by rw[h2];rfl⟩
def aQE{h:PH}(hK:oP h)(id:Int){n seq:Nat}(hn:n<18446744073709551616)(hs:seq<18446744073709551616){kk:cD}
  (hbad:(id<0∨1<id∨seq=0)->kk (.tuple #[.pointer none,.int .i64 1]) h)
  (hk:¬(id<0∨1<id∨seq=0)->∀h' c F,jB c (Ch.new id n seq) h' F->eK h F->dD h h'->kk (.tuple #[pT c 0,.int .i64 0]) h'):
  aT PG aJu #[.int .i64 id,.int .u64 (n:Int),.int .u64 (seq:Int)] h kk:=by
 apply aGq.call;unfold aGq;by_cases c1:id<0
 ·have g1:=eq_true c1;simp only[g1,cE,reduceIte,cZ,Nat.reduceAdd];exact hbad (.inl c1)
 have g1:=eq_false c1;by_cases c2:1<id
 ·have g2:=eq_true c2;simp only[g1,g2,cE,reduceIte,cZ,Nat.reduceAdd];exact hbad (.inr (.inl c2))
 have g2:=eq_false c2;by_cases c3:seq=0
 ·have g3:((seq:Int)==0)=true:=by rw[c3];rfl
  simp only[g1,g2,iG,g3,cE,reduceIte,cZ,Nat.reduceAdd];exact hbad (.inr (.inr c3))
 have g3:((seq:Int)==0)=false:=by rw[beq_eq_false_iff_ne];omega
 have hk:=hk (by omega);simp only[g1,g2,iG,g3,cE,reduceIte,cZ,Nat.reduceAdd];refine aWg n hn hK λsp h1 F1 S1 f1 u1=>?_;refine aXk λcp h2 F2 C2 u2 f2=>?_;obtain⟨zs,m1,m2⟩:=ms1;simp only[m1,aFX,cE,reduceIte,cZ,Nat.reduceAdd];intro r22 hr22;refine fP ?_
 try rw[cW]
 have u3:dD h2 (h2.set r22 (.cells zs cU (0,0))):=cQ.new hr22;have O3:eM (h2.set r22 (.cells zs cU (0,0))) cU 1 (.slice (some ⟨r22,0,none⟩) 1 1) ([(Value.slice none 0 0,([]:List Nt))].map aKo) [r22]:=eM.lit (aKo.rows _) dL (by simp) (by decide) (by rw[m2];rfl);generalize h2.set r22 (.cells zs cU (0,0))=h3 at *
 try simp only[aFX,cE,reduceIte,cZ,Nat.reduceAdd]
 intro r26 hr26;refine fP ?_
 try rw[cW]
 have u4:dD h3 (h3.set r26 (.map #[] 0)):=cQ.new hr26;have M4:aPH (h3.set r26 (.map #[] 0)) r26 []:=jR.new;generalize h3.set r26 (.map #[] 0)=h4 at *;simp only[bA0,bA9,cE,reduceIte,cZ,Nat.reduceAdd];intro r32 hr32
 try rw[cW]
 have u5:dD h4 (h4.set r32 (.cells (Value.cells (.agg ((Ch.new id n seq).cells sp (.slice (some ⟨r22,0,none⟩) 1 1) (.slice none 0 0) r26 cp).toArray)) eJ)):=cQ.new hr32;have B5:Bx (h4.set r32 (.cells (Value.cells (.agg ((Ch.new id n seq).cells sp (.slice (some ⟨r22,0,none⟩) 1 1) (.slice none 0 0) r26 cp).toArray)) eJ)) r32 ((Ch.new id n seq).cells sp (.slice (some ⟨r22,0,none⟩) 1 1) (.slice none 0 0) r26 cp):=Bx.new;generalize h4.set r32 (.cells (Value.cells (.agg ((Ch.new id n seq).cells sp (.slice (some ⟨r22,0,none⟩) 1 1) (.slice none 0 0) r26 cp).toArray)) eJ)=h5 at *;have e25:=(u3.trans u4).trans u5;have A:aBP (.slice (some ⟨r22,0,none⟩) 1 1) [[]] h5 [r22]:=by
  refine⟨[(Value.slice none 0 0,[])],[r22],[],(O3.ext u4).ext u5,λx hx=>?_,rfl,rfl,λg hg=>by cases hg⟩;simp only[gB] at hx;subst hx;exact⟨(eM.nil (e:=dA) (size:=5)).slR,λa n c e=>by cases e⟩
 have k22:∀b∈F2,b≠r22:=λb hb e=>C2.known b hb (e▸hr22);have k22':∀b∈F1,b≠r22:=λb hb e=>by
  have:=wD.known (S1.ext u2) b hb;rw[e] at this;exact this hr22
 have k12:∀b∈F1,b∉F2:=λb hb hb'=>S1.known b hb (f2 b hb');have k26a:∀b∈F1,b≠r26:=λb hb e=>by
  have:=wD.known ((S1.ext u2).ext u3) b hb;rw[e] at this;exact this hr26
 have k26b:∀b∈F2,b≠r26:=λb hb e=>(C2.ext u3).known b hb (e▸hr26);have k26c:r22≠r26:=λe=>by
  have:=O3.known r22 (by simp);rw[e] at this;exact this hr26
 have k32a:∀b∈F1,b≠r32:=λb hb e=>by
  have:=wD.known (((S1.ext u2).ext u3).ext u4) b hb;rw[e] at this;exact this hr32
 have k32b:∀b∈F2,b≠r32:=λb hb e=>((C2.ext u3).ext u4).known b hb (e▸hr32);have k32c:r22≠r32:=λe=>by
  have:=(O3.ext u4).known r22 (by simp);rw[e] at this;exact this hr32
 have k32d:r26≠r32:=λe=>by
  have:=jR.known M4;rw[e] at this;exact this hr32
 have T5:(eP (xY dA 5 (.slice none 0 0) (([]:List Nt).map Nt.cells)) (aBP (.slice (some ⟨r22,0,none⟩) 1 1) [[]])) h5 ([]++[r22]):=eP.mk eM.nil A (λb hb=>by cases hb);have T4:(eP (aDd cp []) (eP (xY dA 5 (.slice none 0 0) (([]:List Nt).map Nt.cells)) (aBP (.slice (some ⟨r22,0,none⟩) 1 1) [[]]))) h5 (F2++([]++[r22])):=eP.mk ⟨[],C2.ext e25⟩ T5 (λb hb=>by simpa using k22 b hb);have T3:(eP (aDr r26 []) (eP (aDd cp []) (eP (xY dA 5 (.slice none 0 0) (([]:List Nt).map Nt.cells)) (aBP (.slice (some ⟨r22,0,none⟩) 1 1) [[]])))) h5 ([r26]++(F2++([]++[r22]))):=eP.mk ⟨rfl,jR.ext M4 u5⟩ T4 (λb hb=>by
  simp only[gB] at hb;subst hb;simp only[sK,kB,gB,not_or];exact⟨λhx=>k26b b hx rfl,λe=>k26c e.symm⟩)
 have T2:(eP (stA sp ⟨[],[[]],n⟩) (eP (aDr r26 []) (eP (aDd cp []) (eP (xY dA 5 (.slice none 0 0) (([]:List Nt).map Nt.cells)) (aBP (.slice (some ⟨r22,0,none⟩) 1 1) [[]]))))) h5 (F1++([r26]++(F2++([]++[r22])))):=eP.mk ((S1.ext u2).ext e25) T3 (λb hb=>by
  simp only[sK,kB,gB,not_or];exact⟨k26a b hb,k12 b hb,k22' b hb⟩)
 have T1:jD r32 ((Ch.new id n seq).cells sp (.slice (some ⟨r22,0,none⟩) 1 1) (.slice none 0 0) r26 cp) sp ⟨[],[[]],n⟩ r26 [] cp [] (.slice none 0 0) [] (.slice (some ⟨r22,0,none⟩) 1 1) [[]] h5 ([r32]++(F1++([r26]++(F2++([]++[r22]))))):=eP.mk ⟨rfl,B5⟩ T2 (λb hb=>by
  simp only[gB] at hb;subst hb;simp only[sK,kB,gB,not_or];exact⟨λhx=>k32a b hx rfl,λe=>k32d e.symm,λhx=>k32b b hx rfl,λe=>k32c e.symm⟩)
 refine hk h5 r32 _ ⟨sp,r26,cp,.slice none 0 0,_,[],T1,List.Perm.refl _,⟨by show id=0∨id=1;omega,rfl,rfl,hs,by show 1≤seq;omega,by show 0≤_;omega,(λx hx=>by cases hx),(λb hb=>?_)⟩⟩ ?_ ((u1.trans u2).trans e25)
 ·have:b=[]:=by simpa[Ch.new] using hb
  subst this;exact⟨by simp,by simp⟩
 ·intro b hb;simp only[sK,kB,gB] at hb;rcases hb with rfl|hb|rfl|hb|rfl
  ·exact((u1.trans u2).trans (u3.trans u4)).none hr32
  ·exact f1 b hb
  ·exact((u1.trans u2).trans u3).none hr26
  ·exact u1.none (f2 b hb)
  ·exact(u1.trans u2).none hr22
end
section
open Go Bld
structure Cut(L:List Pr)(k:Tx)(A M B:List Pr):Prop where
 eq:L=A++(M++B)
 lo:∀p∈A,p.k<k
 hi:∀p∈B,k<p.k
 mid:M=[]∨∃p,M=[p]∧p.k=k
def sZ.cut(k:Tx):∀{L:List Pr},sZ L->∃A M B,Cut L k A M B
 | [],_=>⟨[],[],[],rfl,by simp,by simp,.inl rfl⟩
 | p::L,h=>by
  unfold sZ at h;rw[zL3] at h;obtain⟨h1,h2⟩:=h;rcases aIB p.k k with e|e|e
  ·obtain⟨A,M,B,c⟩:=sZ.cut k h2;refine⟨p::A,M,B,by rw[c.eq];rfl,λq hq=>?_,c.hi,c.mid⟩;rcases gU.1 hq with rfl|hq
   ·exact e
   ·exact c.lo q hq
  ·exact⟨[],[p],L,rfl,by simp,λq hq=>by rw[←e];exact h1 q hq,.inr ⟨p,rfl,e⟩⟩
  ·refine⟨[],[],p::L,rfl,by simp,λq hq=>?_,.inl rfl⟩;rcases gU.1 hq with rfl|hq
   ·exact e
   ·exact List.lt_trans e (h1 q hq)
def Cut.set{L A M B:List Pr}{k v:Tx}(c:Cut L k A M B)(h:sZ L):oO L ⟨k,v⟩=A++⟨k,v⟩::B:=by
 unfold oO;have fA:A.filter (λq=>decide (q.k<k))=A:=aJf.2 λp hp=>by simpa using c.lo p hp
 have fA2:A.filter (λq=>decide (k<q.k))=[]:=List.filter_eq_nil_iff.2 λp hp=>by simpa using List.lt_asymm (c.lo p hp)
 have fB:B.filter (λq=>decide (k<q.k))=B:=aJf.2 λp hp=>by simpa using c.hi p hp
 have fB2:B.filter (λq=>decide (q.k<k))=[]:=List.filter_eq_nil_iff.2 λp hp=>by simpa using List.lt_asymm (c.hi p hp)
 have fM:M.filter (λq=>decide (q.k<k))=[]:=List.filter_eq_nil_iff.2 λp hp=>by
  rcases c.mid with e|⟨q,e,e2⟩
  ·rw[e] at hp;cases hp
  ·rw[e] at hp;simp only[gB] at hp;subst hp;rw[e2];simp[zL1]
 have fM2:M.filter (λq=>decide (k<q.k))=[]:=List.filter_eq_nil_iff.2 λp hp=>by
  rcases c.mid with e|⟨q,e,e2⟩
  ·rw[e] at hp;cases hp
  ·rw[e] at hp;simp only[gB] at hp;subst hp;rw[e2];simp[zL1]
 rw[c.eq,aNF,aNF,aNF,aNF];simp only[fA,fA2,fB,fB2,fM,fM2,zLQ,sK]
def Cut.del{L A M B:List Pr}{k:Tx}(c:Cut L k A M B):vJ L k=A++B:=by
 unfold vJ;have fA:A.filter (λq=>decide (q.k≠k))=A:=aJf.2 λp hp=>by
  have:=c.lo p hp;simp only[decide_eq_true_eq];intro e;rw[e] at this;exact zL1 _ this
 have fB:B.filter (λq=>decide (q.k≠k))=B:=aJf.2 λp hp=>by
  have:=c.hi p hp;simp only[decide_eq_true_eq];intro e;rw[e] at this;exact zL1 _ this
 have fM:M.filter (λq=>decide (q.k≠k))=[]:=List.filter_eq_nil_iff.2 λp hp=>by
  rcases c.mid with e|⟨q,e,e2⟩
  ·rw[e] at hp;cases hp
  ·rw[e] at hp;simp only[gB] at hp;subst hp;simp[e2]
 rw[c.eq,aNF,aNF,fA,fB,fM,sK]
def Cut.get{L A M B:List Pr}{k:Tx}(c:Cut L k A M B)(h:sZ L):(iJ L k).isSome=decide (M≠[]):=by
 rcases c.mid with e|⟨q,e,e2⟩
 ·subst e;have:iJ L k=none:=aFS.2 λp hp e=>by
   rw[c.eq,sK,kB] at hp;rcases hp with hp|hp
   ·have:=c.lo p hp;rw[e] at this;exact zL1 _ this
   ·have:=c.hi p hp;rw[e] at this;exact zL1 _ this
  rw[this];rfl
 ·subst e;have:iJ L k=some q:=(aBj h).2 ⟨by rw[c.eq];simp,e2⟩;rw[this];rfl
def aFO(x:Value×List Pr):List Value:=[x.1]
def aFO.rows(l:List (Value×List Pr)):Rows 1 (l.map aFO):=λr hr=>by
 obtain⟨p,-,rfl⟩:=mJ.1 hr;rfl
structure aAP(h:PH)(b:Nat)(s:St)(G:List Nat):Prop where
 here:∃(nv bv:Value) (bl:List (Value×List Pr)),h b=some (.cells #[nv,.int .u64 ((s.height-(s.blocks.length-1):Nat):Int),bv] dP (0,0))∧fZ h 2 nv (s.now.map Pr.cells)∧fZ h 1 bv (bl.map aFO)∧
  (∀x∈bl,fZ h 2 x.1 (x.2.map Pr.cells)∧aDG x.1 G)∧bl.map (·.2)=s.blocks∧aDG nv G∧aDG bv G∧b∉G∧∀g∈G,h g≠none
 ok:s.Ok
def aAP.upd{h h':PH}{b:Nat}{s:St}{G K:List Nat}(H:aAP h b s G)(u:cQ K h h')(hb:b∉K)(hd:∀g∈G,g∉K):aAP h' b s G:=by
 obtain⟨nv,bv,bl,h1,h2,h3,h4,h5,h6,h7,h8,h9⟩:=H.here;refine⟨⟨nv,bv,bl,u.get h1 hb,h2.upd u λa n c e=>hd _ (h6 a n c e),h3.upd u λa n c e=>hd _ (h7 a n c e),λx hx=>⟨(h4 x hx).1.upd u λa n c e=>hd _ ((h4 x hx).2 a n c e),(h4 x hx).2⟩,h5,h6,h7,h8,λg hg=>?_⟩,H.ok⟩;obtain⟨o,ho⟩:=aH1.1 (h9 g hg);rw[u.get ho (hd g hg)];simp
def aAP.known{h:PH}{b:Nat}{s:St}{G:List Nat}(H:aAP h b s G):∀g∈b::G,h g≠none:=by
 obtain⟨nv,bv,bl,h1,h2,h3,h4,h5,h6,h7,h8,h9⟩:=H.here;intro g hg;rcases gU.1 hg with rfl|hg
 ·rw[h1];simp
 ·exact h9 g hg
def aYc{h:PH}(n:Nat)(hn:n<18446744073709551616){k:cD}(hk:∀b h' G,aAP h' b ⟨[],[[]],n⟩ G->eK h (b::G)->dD h h'->k (pT b 0) h'):aT PG aEP #[.int .u64 (n:Int)] h k:=by
 apply aDZ.call;unfold aDZ;have b1:jV PG (buildSlice fO 1 #[(0,(Value.slice none 0 0))])=some (.cells #[.slice none 0 0] cJ,λr=>pure (.slice (some ⟨r,0,none⟩) 1 1)):=by kernel_rfl
 simp only[b1,cE,reduceIte];intro r hr;refine fP ?_
 try rw[cW]
 have u1:dD h (h.set r (.cells #[.slice none 0 0] cJ)):=cQ.new hr;have O1:eM (h.set r (.cells #[.slice none 0 0] cJ)) cJ 1 (.slice (some ⟨r,0,none⟩) 1 1) ([((.slice none 0 0:Value),([]:List Pr))].map aFO) [r]:=eM.lit (n:=1) (aFO.rows [((.slice none 0 0:Value),([]:List Pr))]) dL (by simp) (by decide) rfl;generalize h.set r (.cells #[.slice none 0 0] cJ)=h1 at *;have b2:dH PG (build dP #[(1,.int .u64 (n:Int)),(2,.slice (some ⟨r,0,none⟩) 1 1)])=some (.agg #[.slice none 0 0,.int .u64 (n:Int),.slice (some ⟨r,0,none⟩) 1 1]):=by kernel_rfl
 simp only[b2,cE,reduceIte];intro b hb
 try rw[cW]
 have u2:dD h1 (h1.set b (.cells (Value.cells (.agg #[.slice none 0 0,.int .u64 (n:Int),.slice (some ⟨r,0,none⟩) 1 1])) dP)):=cQ.new hb;have hrb:b≠r:=by rintro rfl;exact O1.known _ (by simp) hb
 refine hk b _ [r] ⟨⟨.slice none 0 0,.slice (some ⟨r,0,none⟩) 1 1,[(.slice none 0 0,[])],dL,(eM.nil (e:=cM)).slR,(O1.ext u2).slR,?_,rfl,(λy m c e=>by cases e),aGn O1,by simpa using hrb,?_⟩,St.Ok.new n hn⟩ (λg hg=>?_) (u1.trans u2)
 ·intro x hx;simp only[gB] at hx;subst hx;exact⟨(eM.nil (e:=cM)).slR,λx n c e=>by cases e⟩
 ·intro g hg;exact(O1.ext u2).known g hg
 ·simp only[gU,lH,or_false] at hg;rcases hg with rfl|rfl
  ·exact u1.none hb
  ·exact hr
def aPb{h:PH}{b:Nat}{s:St}{G:List Nat}(H:aAP h b s G){key:Tx}{A M B:List Pr}(c:Cut s.now key A M B){k:cD}(hk:k (.tuple #[.int .i64 (A.length:Int),.bool (decide (M≠[]))]) h):
  aT PG pM #[pT b 0,.string (tx key)] h k:=by
 apply pB.call;unfold pB;have hfew:=H.ok.few;obtain⟨nv,bv,bl,h1,h2,h3,h4,h5,h6,h7,h8,h9⟩:=H.here;have c0:dB h ⟨b,0,none⟩=some nv:=by simp[dB,h1]
 have ln:=h2.len (t':=bR) cJ.und;rw[iV] at ln;have hlen:s.now.length=A.length+(M.length+B.length):=by rw[c.eq];simp
 refine⟨λvs h'=>∃i,i≤A.length∧vs=[pT b 0,.string (tx key),.int .i64 (i:Int)]∧h'=h,gQ A.length 2,⟨0,by omega,rfl,rfl⟩,?_⟩;rintro ρ h' ⟨i,hi,hvs,rfl⟩;simp only[iH,jA,lN,and_true] at hvs;obtain⟨v0,v1,v6⟩:=hvs;simp only[v0,v1,v6,iH,jA];unfold aD2;by_cases hl:i<s.now.length
 ·have g1:((i:Int)<(s.now.length:Int))=True:=eq_true (by omega);have gi:=qN (i:=i) (by omega);obtain⟨p,hp⟩:∃p,s.now[i]? =some p:=⟨s.now[i],lJ hl⟩;obtain⟨pb,po,e1,e2,-,-⟩:=h2.pair (j:=i) (p:=p) hp;by_cases hiA:i<A.length
  ·have hpA:p∈A:=by
    rw[c.eq,List.getElem?_append_left hiA] at hp;exact tA hp
   have hlt:=c.lo p hpA;simp only[dP.f0,cJ.load,c0,ln,g1,e1,cM.f0,bT.load,e2,yM,hlt,gi,cE,reduceIte];refine⟨⟨i+1,by omega,rfl,(by trivial)⟩,?_⟩;simp only[gQ,sL,qB];omega
  ·have hiE:i=A.length:=by omega
   have hp2:(M++B)[0]? =some p:=by
    rw[c.eq,List.getElem?_append_right (by omega),hiE,aKu] at hp;exact hp
   have hnl:¬p.k<key:=by
    rcases c.mid with e|⟨q,e,e3⟩
    ·rw[e,sK] at hp2;exact List.lt_asymm (c.hi p (tA hp2))
    ·rw[e] at hp2;simp only[zLW,qB,zL9] at hp2;rw[←hp2,e3];exact zL1 _
   have heq:decide (p.k=key)=decide (M≠[]):=by
    rcases c.mid with e|⟨q,e,e3⟩
    ·rw[e,sK] at hp2;have:=c.hi p (tA hp2);have hne:p.k≠key:=λe=>by rw[e] at this;exact zL1 _ this
     simp[e,hne]
    ·rw[e] at hp2;simp only[zLW,qB,zL9] at hp2;rw[←hp2];simp[e,e3]
   simp only[dP.f0,cJ.load,c0,ln,g1,e1,cM.f0,bT.load,e2,yM,hnl,aF5,heq,cE,reduceIte];rw[hiE];exact hk
 ·have g1:((i:Int)<(s.now.length:Int))=False:=eq_false (by omega);have hiE:i=A.length:=by omega
  have hM:M=[]:=zLO (by omega);simp only[dP.f0,cJ.load,c0,ln,g1,cE,reduceIte];have:decide (M≠[])=false:=by simp[hM]
  rw[this] at hk;rw[hiE];exact hk
end
section
open Go
def aX7:jV PG (buildSlice eS 1 #[(0,.slice none 0 0)])=some (.cells #[.slice none 0 0] cU,λr=>pure (.slice (some ⟨r,0,none⟩) 1 1)):=by kernel_rfl
def aPZ{r o i:Nat}(hi:i<2):dH PG (indexAt eW (pT r o) (.int .i64 (i:Int)))=some (pT r (o+i)):=by
 have ix:=aBR (P:=PG) (t:=eW) (b:=r) (o:=o) (k:=.i64) (j:=(i:Int)) eW.und cA.info cA.size (by omega) (by omega);rw[ix,rA,Nat.mul_one]
def aLk{r o i:Nat}(hi:i<2):dH PG (indexAt dR (pT r o) (.int .i64 (i:Int)))=some (pT r (o+i)):=by
 have ix:=aBR (P:=PG) (t:=dR) (b:=r) (o:=o) (k:=.i64) (j:=(i:Int)) dR.und dF.info dF.size (by omega) (by omega);rw[ix,rA,Nat.mul_one]
def vZ(a b:Nat):Value:=.agg #[.int .u64 (a:Int),.int .u64 (b:Int)]
def u2c(a b:Nat):List Value:=[.int .u64 (a:Int),.int .u64 (b:Int)]
structure kD where
 kind:Int
 id:Int
 h:Nat
 d:Tx
 p:Pk
 sp:Bool
def kD.cells(a:kD):List Value:=[.int .i64 a.kind,.int .i64 a.id,.int .u64 (a.h:Int),.string (tx a.d),.int .i64 a.p.f,.int .u64 a.p.s,.int .u64 a.p.t,.string a.p.d,.bool a.sp]
def kD.v(a:kD):Value:=.agg a.cells.toArray
structure kD.wf(a:kD):Prop where
 h:a.h<18446744073709551616
 p:a.p.wf
def aJp(a:kD):Tx:=if a.kind=2 then iZ 99 a.p.s.toNat else if a.kind=3 then iZ 97 a.p.s.toNat else iZ 114 a.p.s.toNat
def lT(id:Int):Nat:=if id=1 then 1 else 0
def mN(o:Ch)(a:kD):Tx:=if a.sp=false∧2≤a.kind∧a.kind≤4 then(aF0 o.st (aJp a) a.h).1 else a.d
noncomputable def nP(c o:Ch)(a:kD):Ch×(Pk×Nat×Int):=
 if a.kind=0 then(if qR c a.d a.h=0 then(c.sent (kE c a.d a.h),(kE c a.d a.h,0,0)) else(c,(default,0,qR c a.d a.h)))
 else if a.kind=1 then(match zH o.st a.h with
  | none=>(c,(default,0,3))
  | some b=>(c.told (a.h:Int) (oD b),(default,0,(aAq c.cl ⟨(a.h:Int),tx (oD b)⟩).1)))
 else if a.kind=2 then(if rG c (uO c a.p (mN o a) (a.h:Int))=0 then(c.received a.p,(default,0,0)) else(c,(default,0,rG c (uO c a.p (mN o a) (a.h:Int)))))
 else if a.kind=3 then(if jP c a.p (aBO c a.p (mN o a) (a.h:Int))=0 then(c.settled 3 a.p,(default,0,0)) else(c,(default,0,jP c a.p (aBO c a.p (mN o a) (a.h:Int)))))
 else if a.kind=4 then(if jP c a.p (wS c a.p (mN o a) (a.h:Int))=0 then(c.settled 4 a.p,(default,0,0)) else(c,(default,0,jP c a.p (wS c a.p (mN o a) (a.h:Int)))))
 else if a.kind=5 then(c.committed,(default,(lV c.st).2.1,(lV c.st).2.2))
 else(c,(default,0,0))
def aNP{h:PH}(id:Int){k:cD}(hk:k (.int .i64 ((lT id:Nat):Int)) h):aT PG rE #[.int .i64 id] h k:=by
 apply aCR.call;unfold aCR;unfold lT at hk;by_cases e:id=1
 ·have q:(id==1)=true:=by simp[e]
  rw[if_pos e] at hk;simp only[iG,q,cE,reduceIte,cZ,Nat.reduceAdd];exact hk
 ·have q:(id==1)=false:=by simp[e]
  rw[if_neg e] at hk;simp only[iG,q,cE,reduceIte,cZ,Nat.reduceAdd];exact hk
def aQF{h:PH}{a:kD}(w:a.wf){k:cD}(hk:∀h',dD h h'->k (.string (tx (aJp a))) h'):aT PG wP #[a.v] h k:=by
 apply aAQ.call;unfold aAQ;obtain⟨n,hn⟩:=zLn w.p.1;have hn2:n<18446744073709551616:=by have:=w.p.2.1;omega
 intro r1 hr1
 try rw[cW]
 have u1:dD h (h.set r1 (.cells (Value.cells a.v) cH)):=cQ.new hr1;have B1:Bx (h.set r1 (.cells (Value.cells a.v) cH)) r1 a.cells:=Bx.new;generalize h.set r1 (.cells (Value.cells a.v) cH)=h1 at *;have lk:cG PG h1 (loadAt bR (pT r1 0))=some (.int .i64 a.kind):=by rw[bR.load,B1.cell];rfl
 have ls:cG PG h1 (loadAt cA (pT r1 5))=some (.int .u64 (n:Int)):=by rw[cA.load,B1.cell,←hn];rfl
 have q99:({data:=#[99]}:ByteArray)=tx [99]:=rfl;have q97:({data:=#[97]}:ByteArray)=tx [97]:=rfl;have q114:({data:=#[114]}:ByteArray)=tx [114]:=rfl;unfold aJp at hk;rw[hn,rA] at hk;by_cases e2:a.kind=2
 ·have q:(a.kind==2)=true:=by simp[e2]
  rw[if_pos e2] at hk;simp only[cH.f0,cH.f4,aR.f1,fQ,Nat.reduceAdd,lk,iG,q,ls,q99,cE,reduceIte,cZ,Nat.reduceAdd];exact aAk hn2 λh2 u2=>hk h2 (u1.trans u2)
 have q2:(a.kind==2)=false:=by simp[e2]
 rw[if_neg e2] at hk;by_cases e3:a.kind=3
 ·have q:(a.kind==3)=true:=by simp[e3]
  rw[if_pos e3] at hk;simp only[cH.f0,cH.f4,aR.f1,fQ,Nat.reduceAdd,lk,iG,q2,q,ls,q97,cE,reduceIte,cZ,Nat.reduceAdd];exact aAk hn2 λh2 u2=>hk h2 (u1.trans u2)
 have q3:(a.kind==3)=false:=by simp[e3]
 rw[if_neg e3] at hk;simp only[cH.f0,cH.f4,aR.f1,fQ,Nat.reduceAdd,lk,iG,q2,q3,ls,q114,cE,reduceIte,cZ,Nat.reduceAdd];exact aAk hn2 λh2 u2=>hk h2 (u1.trans u2)
noncomputable def kK(a b:Ch)(x:kD):(Ch×Ch)×(Pk×Nat×Int):=if x.id=1 then((a,(nP b a x).1),(nP b a x).2) else(((nP a b x).1,b),(nP a b x).2)
def aSS(id:Int):lT id<2:=by unfold lT;split<;>decide
def xa:Ch:=Ch.new 0 5 1
def aRB:aJz []=0:=by
 rw[aPS (hs:=[]) ⟨List.Perm.refl _,List.Pairwise.nil⟩];rfl
structure Now(h0 h:PH)(F:List Nat):Prop where
 ext:dD h0 h
 fr:eK h0 F
def Now.step{h0 h h':PH}{F F':List Nat}(N:Now h0 h F)(s:jI h F h' F'):Now h0 h' F':=⟨N.ext.fresh s.upd N.fr,N.fr.grow N.ext s.grow⟩
def Now.more{h0 h h':PH}{F:List Nat}(N:Now h0 h F)(u:dD h h'):Now h0 h' F:=⟨N.ext.trans u,N.fr⟩
def Now.k{h0 h:PH}{F:List Nat}(N:Now h0 h F)(K:oP h0):oP h:=K.ext N.ext
def Now.z{h0 h:PH}{F:List Nat}(N:Now h0 h F)(K:oP h0):0∉F:=λhm=>by
 obtain⟨t,fr,hb⟩:=K;rw[N.fr 0 hm] at hb;cases hb
def aCm{h h':PH}{F F':List Nat}{r:Nat}{cs:List Value}(B:Bx h r cs)(n:r∉F)(s:jI h F h' F'):Bx h' r cs∧r∉F':=⟨B.upd s.upd n,λhm=>by
 rcases s.grow _ hm with hx|hx
 ·exact n hx
 ·exact B.known hx⟩
def kD.rows(l:List kD):Rows 9 (l.map kD.cells):=λr hr=>by obtain⟨m,_,rfl⟩:=mJ.1 hr;rfl
def fZ.tac{h:PH}{v:Value}{l:List kD}(S:fZ h 9 v (l.map kD.cells)){j:Nat}{x:kD}(hx:l[j]? =some x):
  ∃b o,dH PG (indexAt iY v (.int .i64 (j:Int)))=some (pT b o)∧dB h ⟨b,o+3,none⟩=some (.string (tx x.d))∧dB h ⟨b,o+7,none⟩=some (.string x.p.d)∧cG PG h (loadAt cH (pT b o))=some x.v:=by
 obtain⟨b,o,h1,h2,h3⟩:=S.fields iY.und cH.info cH.size (k:=.i64) (j:=j) (r:=x.cells) (by rw[wA,hx];rfl);exact⟨b,o,h1,h2 3 _ rfl,h2 7 _ rfl,h3 _ cH.und rfl⟩
def aPJ{h:PH}{v:Value}{l:List kD}(S:fZ h 9 v (l.map kD.cells)):dH PG (Builtin.len_ #[iY] bR #[v])=some (.int .i64 l.length):=by
 have:=S.len (t':=bR) iY.und;rw[iV] at this;exact this
def aSL(c o:Ch)(a:kD):(nP c o a).1.nts.length≤c.nts.length+1:=by
 have put:∀(s:Ch) (n:Nt),(s.add n).nts.length≤s.nts.length+1:=λs n=>by
  show(s.nts++[n]).length≤_;rw[jM];simp
 unfold nP;split
 ·split
  ·exact put _ _
  ·exact xS _
 ·split
  ·split
   ·exact xS _
   ·exact xS _
  ·split
   ·split
    ·exact put _ _
    ·exact xS _
   ·split
    ·split
     ·exact put _ _
     ·exact xS _
    ·split
     ·split
      ·exact put _ _
      ·exact xS _
     ·split
      ·show(Ch.committed c).nts.length≤_;unfold Ch.committed;split
       ·exact aFl _
       ·exact xS _
      ·exact xS _
def aTH(a b:Ch)(x:kD){n:Nat}(ha:a.nts.length≤n)(hb:b.nts.length≤n):(kK a b x).1.1.nts.length≤n+1∧(kK a b x).1.2.nts.length≤n+1:=by
 unfold kK;split
 ·have:=aSL b a x;exact⟨by show a.nts.length≤_;omega,by show(nP b a x).1.nts.length≤_;omega⟩
 ·have:=aSL a b x;exact⟨by show(nP a b x).1.nts.length≤_;omega,by show b.nts.length≤_;omega⟩
end
section
open Go Go.RowKit Go.ChangeShapes
def bR.cells:PG.cellsOf bR=1:=by kernel_rfl
def cA.cells:PG.cellsOf cA=1:=by kernel_rfl
def bT.cells:PG.cellsOf bT=1:=by kernel_rfl
def gT.cells:PG.cellsOf gT=1:=by kernel_rfl
def aR.cells:PG.cellsOf aR=4:=by kernel_rfl
def eW.cells:PG.cellsOf eW=2:=by kernel_rfl
def cH.cells:PG.cellsOf cH=9:=by kernel_rfl
section
variable{H:Type}{enc:TypeId×Value->H}{w:World}{spare:Nat->Bool}{held:Bool}
def Pk.rd{cs:List Value}(h:Rd enc PG w spare held aR cs):∃p:Pk,cs=p.cells∧p.wf:=by
 obtain⟨hl,hf⟩:=aQY aR.und h;rw[aR.cells] at hl
 match cs,hl with
 | [c0,c1,c2,c3],_=>
  have f0:Rd enc PG w spare held bR (([c0,c1,c2,c3].drop 0).take (PG.cellsOf bR)):=hf 0 _ rfl;rw[bR.cells] at f0;have f1:Rd enc PG w spare held cA (([c0,c1,c2,c3].drop 1).take (PG.cellsOf cA)):=hf 1 _ rfl;rw[cA.cells] at f1;have f2:Rd enc PG w spare held cA (([c0,c1,c2,c3].drop 2).take (PG.cellsOf cA)):=hf 2 _ rfl;rw[cA.cells] at f2;have f3:Rd enc PG w spare held bT (([c0,c1,c2,c3].drop 3).take (PG.cellsOf bT)):=hf 3 _ rfl;rw[bT.cells] at f3;obtain⟨n0,e0,-⟩:=aIa bR.und f0;obtain⟨n1,e1,w1⟩:=aIa cA.und f1;have w1:=aMp w1;obtain⟨n2,e2,w2⟩:=aIa cA.und f2;have w2:=aMp w2;obtain⟨n3,e3,-⟩:=aPy bT.und f3;simp only[zLa,zLb,zLc,List.take_zero,lN,and_true] at e0 e1 e2 e3;subst e0 e1 e2 e3;exact⟨⟨n0,n1,n2,n3⟩,rfl,w1.1,by show n1<_;omega,w2.1,by show n2<_;omega⟩
def kD.rd{cs:List Value}(h:Rd enc PG w spare held cH cs):∃p:kD,cs=p.cells∧p.wf:=by
 obtain⟨hl,hf⟩:=aQY cH.und h;rw[cH.cells] at hl
 match cs,hl with
 | [c0,c1,c2,c3,c4,c5,c6,c7,c8],_=>
  have f0:Rd enc PG w spare held bR (([c0,c1,c2,c3,c4,c5,c6,c7,c8].drop 0).take (PG.cellsOf bR)):=hf 0 _ rfl;rw[bR.cells] at f0;have f1:Rd enc PG w spare held bR (([c0,c1,c2,c3,c4,c5,c6,c7,c8].drop 1).take (PG.cellsOf bR)):=hf 1 _ rfl;rw[bR.cells] at f1;have f2:Rd enc PG w spare held cA (([c0,c1,c2,c3,c4,c5,c6,c7,c8].drop 2).take (PG.cellsOf cA)):=hf 2 _ rfl;rw[cA.cells] at f2;have f3:Rd enc PG w spare held bT (([c0,c1,c2,c3,c4,c5,c6,c7,c8].drop 3).take (PG.cellsOf bT)):=hf 3 _ rfl;rw[bT.cells] at f3;have f4:Rd enc PG w spare held aR (([c0,c1,c2,c3,c4,c5,c6,c7,c8].drop 4).take (PG.cellsOf aR)):=hf 4 _ rfl;rw[aR.cells] at f4;have f5:Rd enc PG w spare held gT (([c0,c1,c2,c3,c4,c5,c6,c7,c8].drop 8).take (PG.cellsOf gT)):=hf 5 _ rfl;rw[gT.cells] at f5;obtain⟨n0,e0,-⟩:=aIa bR.und f0;obtain⟨n1,e1,-⟩:=aIa bR.und f1;obtain⟨n2,e2,w2⟩:=aIa cA.und f2;have w2:=aMp w2;obtain⟨n3,e3,-⟩:=aPy bT.und f3;obtain⟨n4,e4,w4⟩:=Pk.rd f4;obtain⟨n5,e5⟩:=aYg gT.und f5;simp only[zLa,zLb,zLc,List.take_zero,lN,and_true,Pk.cells] at e0 e1 e2 e3 e4 e5;obtain⟨rfl,rfl,rfl,rfl⟩:=e4;subst e0 e1 e2 e3 e5;exact by
   obtain⟨m,rfl⟩:=zLn w2.1;exact⟨⟨n0,n1,m,n3.data.toList,n4,n5⟩,by rw[kD.cells,aNI],by show m<_;omega,w4⟩
def kD.rds:∀{rows:List (List Value)},(∀r∈rows,Rd enc PG w spare held cH r)->∃xs:List kD,rows=xs.map kD.cells∧∀x∈xs,x.wf
 | [],_=>⟨[],rfl,by simp⟩
 | r::rs,h=>by
  obtain⟨m,rfl,hm⟩:=kD.rd (h r (by simp));obtain⟨xs,rfl,hx⟩:=kD.rds (rows:=rs) (λx hx=>h x (by simp[hx]));exact⟨m::xs,rfl,λx hx'=>by rcases gU.1 hx' with rfl|h;exact hm;exact hx x h⟩
def u2c.rd{cs:List Value}(h:Rd enc PG w spare held eW cs):∃a b:Nat,cs=u2c a b∧a<18446744073709551616∧b<18446744073709551616:=by
 obtain⟨hl,hf⟩:=aVP eW.und h;rw[eW.cells] at hl
 match cs,hl with
 | [c0,c1],_=>
  have f0:Rd enc PG w spare held cA (([c0,c1].drop (0*PG.cellsOf cA)).take (PG.cellsOf cA)):=hf 0 (by decide);have f1:Rd enc PG w spare held cA (([c0,c1].drop (1*PG.cellsOf cA)).take (PG.cellsOf cA)):=hf 1 (by decide);rw[cA.cells] at f0 f1;obtain⟨m0,q0,w0⟩:=aIa cA.und f0;obtain⟨m1,q1,w1⟩:=aIa cA.und f1;have w0:=aMp w0;have w1:=aMp w1;simp only[Nat.zero_mul,Nat.one_mul,zLa,zLb,zLc,List.take_zero,lN,and_true] at q0 q1;subst q0 q1;obtain⟨n0,rfl⟩:=zLn w0.1;obtain⟨n1,rfl⟩:=zLn w1.1;exact⟨n0,n1,rfl,by omega,by omega⟩
def aSQ{r:Reach}{base:Nat}{v:Value}{d:DataW H}{p:List MemPlace}(hval:Value.okWide PG w r base eW v)(hd:DataW.Trod enc PG w 0 spare held eW v d p):
  ∃a b:Nat,v=vZ a b∧a<18446744073709551616∧b<18446744073709551616:=by
 have hu:PG.underlying eW=some (.array 2 cA):=eW.und;simp only[Value.okWide,hu] at hval;obtain⟨cs,rfl,_⟩:=hval;obtain⟨a,b,e,ha,hb⟩:=u2c.rd (aWn hd);refine⟨a,b,?_,ha,hb⟩;rw[vZ];congr 1;exact Array.toList_inj.1 e
end
def aPD:List (String×DataW Unit):=[("carrack/sha.k",Rows.laid_carrack_sha_k)]
def aWD(os:Os)(args:Array Value):laidMetH Tryz.prog aPD ((World.doorLaid Tryz.prog 400 os).forCall (λ_ _=>0) ⟨#[],args,[]⟩).memory:=
 laidMetH_of_parts3 (fuel:=8) (laidMet_of_run' 8 (by kernel_rfl) (by kernel_rfl)) (by kernel_rfl) (by kernel_rfl)
def kOf{W:World}(h:laidMetH Tryz.prog aPD W):oP (aK5 W):=by
 rw[MakeChecks.laidMetH_plain _ _ _ (by kernel_rfl)] at h;obtain⟨ps,h1,_⟩:=h;obtain⟨e,fr,hh⟩:=aOU (m:=3) (g:=0) (t:=fI) h1 (aPP ..) (by kernel_rfl) (by kernel_rfl) (by kernel_rfl);have hk:(aNU (Rows.laid_carrack_sha_k:DataW Unit)).toArray=(kT.map wv).toArray:=by kernel_rfl
 rw[hk] at hh;exact⟨e,fr,hh⟩
end
section
open Go Go.Sort Go.Shelf
def Pl.v(q:Pl):Value:=.agg q.cells.toArray
def Pl.isC(q:Pl):∀v∈q.cells,fW v=true:=by
 intro v hv;simp only[Pl.cells,gU,lH,or_false] at hv;rcases hv with rfl|rfl<;>rfl
def aSp(x:Nat):dH PG (build dJ #[(0,.int .u64 (x:Int))])=some (Pl.v ⟨(x:Int),0⟩):=by kernel_rfl
def Bx.place{h:PH}{r:Nat}{q:Pl}(B:Bx h r q.cells):cG PG h (loadAt dJ (pT r 0))=some q.v:=dJ.agg B (by show 0+2≤2;decide)
def aMR{h:PH}{c:Nat}{s:Ch}{F:List Nat}(H:jB c s h F){kk:cD}(hk:∀h',dD h h'->kk (Pl.v ⟨(s.first:Int),0⟩) h'):aT PG tV #[pT c 0] h kk:=by
 apply aBt.call;unfold aBt;obtain⟨sp,m,cp,nv,bv,lk,P,perm,ok⟩:=H;intro r1 hr1
 try rw[cW]
 have u1:dD h (h.set r1 (.cells (dV PG dJ) dJ)):=cQ.new hr1;have l1:cG PG (h.set r1 (.cells (dV PG dJ) dJ)) (loadAt cA (pT c 1))=some (.int .u64 s.first):=Ch.load1 (P.cell.ext u1);simp only[eX.f1,l1,aSp,cE,reduceIte,cZ,Nat.reduceAdd];refine dJ.fill (vs:=Pl.cells ⟨(s.first:Int),0⟩) hr1 rfl (Pl.isC _) λh2 B2 u2=>?_;simp only[B2.place,cE,reduceIte,cZ,Nat.reduceAdd];exact hk h2 u2
end
section
open Go
def oE:List (List Nt)->Nat->Nat->Nat->List Nt×Nat×Nat
 | [],H,i,_=>([],H,i)
 | b::bs,H,i,n=>if i+min (b.length-i) n<b.length∨bs=[] then((b.drop i).take (min (b.length-i) n),H,i+min (b.length-i) n) else
   ((b.drop i).take (min (b.length-i) n)++(oE bs (H+1) 0 (n-min (b.length-i) n)).1,(oE bs (H+1) 0 (n-min (b.length-i) n)).2)
def aF3(I:Int)(b:List Nt):Nat:=if I<0 then 0 else if (b.length:Int)<I then b.length else I.toNat
def aT4(I:Int)(b:List Nt):aF3 I b≤b.length:=by
 unfold aF3;split
 ·omega
 ·split<;>omega
def aGl(s:Ch)(H:Nat)(I:Int)(n:Nat):List Nt×Nat×Nat:=oE (s.blk.drop (H-s.first)) H (aF3 I ((s.blk[H-s.first]?).getD [])) n
def mI(s:Ch)(q:Pl)(most:Int):List Nt×Pl:=
 if q.h<s.first∨(s.st.height:Int)<q.h then([],q) else((aGl s q.h.toNat q.i most.toNat).1,⟨((aGl s q.h.toNat q.i most.toNat).2.1:Nat),((aGl s q.h.toNat q.i most.toNat).2.2:Nat)⟩)
def aVi(b:List Nt):aF3 0 b=0:=by
 unfold aF3;split
 ·rfl
 ·split<;>omega
def aUA(I:Int)(b:List Nt):(if 0<(if (b.length:Int)<I then(b.length:Int) else I) then(if (b.length:Int)<I then(b.length:Int) else I) else 0)=(aF3 I b:Nat):=by
 unfold aF3;by_cases h1:I<0
 ·rw[if_pos h1,if_neg (show ¬(b.length:Int)<I by omega),if_neg (by omega)];rfl
 ·rw[if_neg h1];by_cases h2:(b.length:Int)<I
  ·rw[if_pos h2,if_pos h2];split<;>omega
  ·rw[if_neg h2,if_neg h2];split<;>omega
def aXq(m:Int)(o L i:Nat)(hi:i≤L)(hm:(o:Int)≤if m<0 then 0 else m):(if 0<(if m-(o:Int)<((L-i:Nat):Int) then m-(o:Int) else((L-i:Nat):Int)) then(if m-(o:Int)<((L-i:Nat):Int) then m-(o:Int) else((L-i:Nat):Int)) else 0)=((min (L-i) (m.toNat-o):Nat):Int):=by
 by_cases h1:m<0
 ·rw[if_pos h1] at hm;have ho:o=0:=by omega
  subst ho;rw[if_pos (show m-((0:Nat):Int)<((L-i:Nat):Int) by omega),if_neg (by omega),show m.toNat=0 by omega];simp
 ·rw[if_neg h1] at hm;by_cases h2:m-(o:Int)<((L-i:Nat):Int)
  ·rw[if_pos h2];split<;>omega
  ·rw[if_neg h2];split<;>omega
def Ch.Ok.pos{s:Ch}(ok:s.Ok)(h1:1≤s.st.blocks.length):s.st.height+1=s.first+s.blk.length:=by
 have:=ok.len;have:=ok.first;omega
def aQq(n r:Nat)(h:PH):Nat:=match dB h ⟨r,0,none⟩ with
 | some (.int _ x)=>n-x.toNat
 | _=>0
def aQI{n r:Nat}{h:PH}{X:Nat}{I:Int}(B:Bx h r (Pl.cells ⟨(X:Int),I⟩)):aQq n r h=n-X:=by
 have c:dB h ⟨r,0,none⟩=some (.int .u64 (X:Int)):=B.cell 0;unfold aQq;rw[c];rfl
def aPn{h:PH}{c:Nat}{s:Ch}{F:List Nat}(H:jB c s h F){q:Pl}(wq1:0≤q.h)(wq2:q.h<18446744073709551616)(wq3: -9223372036854775808≤q.i)(wq4:q.i<9223372036854775808){most:Int}(m1: -9223372036854775808≤most)(m2:most<9223372036854775808){kk:cD}
  (hk:∀h' v Fl,eM h' dA 5 v ((mI s q most).1.map Nt.cells) Fl->eK h Fl->dD h h'->kk (.tuple #[v,(mI s q most).2.v]) h'):aT PG wY #[pT c 0,q.v,.int .i64 most] h kk:=by
 apply xM.call;unfold xM;obtain⟨sp,m,cp,nv,bv,lk,P,perm,ok⟩:=H;have hst:=P.okst;have hpos:=ok.pos hst.h1;have hb2:=hst.h2;have hb4:=hst.h4;have hlen:=ok.len;intro r1 hr1
 try rw[cW]
 have u1:dD h (h.set r1 (.cells (Value.cells q.v) dJ)):=cQ.new hr1;have B1:Bx (h.set r1 (.cells (Value.cells q.v) dJ)) r1 q.cells:=Bx.new;generalize h.set r1 (.cells (Value.cells q.v) dJ)=h1 at *;intro r3 hr3
 try rw[cW]
 have u3:dD h1 (h1.set r3 (.cells (dV PG dJ) dJ)):=cQ.new hr3;have B3:Bx (h1.set r3 (.cells (dV PG dJ) dJ)) r3 (Pl.cells ⟨0,0⟩):=dJ.zbox;have C1:=B1.ext u3;have n13:r1≠r3:=B1.apart hr3;generalize h1.set r3 (.cells (dV PG dJ) dJ)=h3 at *;have e3:=u1.trans u3;have k3:h r3=none:=u1.none hr3;have P3:=jD.good.ext P e3;have lf:∀{h'':PH},dD h3 h''->cG PG h'' (loadAt cA (pT c 1))=some (.int .u64 s.first):=λv=>Ch.load1 (P3.cell.ext v);have ls:∀{h'':PH},dD h3 h''->cG PG h'' (loadAt jE (pT c 0))=some (pT sp 0):=λv=>Ch.load0 (P3.cell.ext v);have lb:∀{h'':PH},dD h3 h''->cG PG h'' (loadAt eS (pT c 2))=some bv:=λv=>Ch.load2 (P3.cell.ext v);have lq:cG PG h3 (loadAt cA (pT r1 0))=some (.int .u64 q.h):=by rw[cA.load,C1.cell];rfl
 obtain⟨Fs,S3,hFs,-⟩:=P3.fSt
 -- out of range
 have bad:(q.h<s.first∨(s.st.height:Int)<q.h)->∀{h4:PH},dD h3 h4->dY (cG PG h4 (loadAt dJ (pT r1 0))) λv44=>dC PG (dT dJ (pT r3 0) v44) h4 λv45 h46=>dY (cG PG h46 (loadAt dJ (pT r3 0))) λv47=>kk (Value.tuple #[(Value.slice none 0 0),v47]) h46:=λhb h4 u4=>by
  have hl:mI s q most=([],q):=by unfold mI;rw[if_pos hb]
  rw[hl] at hk;simp only[(C1.ext u4).place,cE,reduceIte,cZ,Nat.reduceAdd];refine dJ.put (B3.ext u4) (o:=0) (vs:=q.cells) rfl (by show 0+2≤2;decide) (Pl.isC q) λh5 B5 u5=>?_;have B5:Bx h5 r3 q.cells:=B5;simp only[B5.place,cE,reduceIte,cZ,Nat.reduceAdd];exact hk h5 _ [] eM.nil (λb hb=>by cases hb) ((e3.trans u4).fresh u5 (eK.one k3))
 simp only[dJ.f0,eX.f1,fQ,lq,lf cQ.refl,cE,reduceIte,cZ,Nat.reduceAdd];by_cases d1:q.h<(s.first:Int)
 ·have g1:=eq_true d1;simp only[g1,cE,reduceIte,cZ,Nat.reduceAdd];exact⟨λh=>by simp at h,bad (.inl d1) cQ.refl⟩
 have g1:=eq_false d1;simp only[g1,dJ.f0,eX.f0,fQ,lq,ls cQ.refl,cE,reduceIte,cZ,Nat.reduceAdd];refine aKT S3 ?_;refine⟨λ_=>lq,?_⟩;by_cases d2:(s.st.height:Int)<q.h
 ·have g2:=eq_true d2;simp only[g2,cE,reduceIte,cZ,Nat.reduceAdd];exact bad (.inr d2) cQ.refl
 have g2:=eq_false d2;simp only[g2,cE,reduceIte,cZ,Nat.reduceAdd];have hlp:mI s q most=((aGl s q.h.toNat q.i most.toNat).1,⟨((aGl s q.h.toNat q.i most.toNat).2.1:Nat),((aGl s q.h.toNat q.i most.toNat).2.2:Nat)⟩):=by unfold mI;rw[if_neg (by omega)]
 refine⟨λvs h'=>∃(X:Nat) (I:Int) (out:List Nt) (v:Value) (Fl:List Nat),vs=[pT c 0,.int .i64 most,pT r1 0,pT r3 0,v]∧Bx h' r1 (Pl.cells ⟨(X:Int),I⟩)∧Bx h' r3 (Pl.cells ⟨0,0⟩)∧eM h' dA 5 v (out.map Nt.cells) Fl∧eK h3 Fl∧cQ [r1] h3 h'∧s.first≤X∧X≤s.st.height∧ -9223372036854775808≤I∧I<9223372036854775808∧out.length≤(X-s.first)*1000000∧out.length≤most.toNat∧
  (out++(aGl s X I (most.toNat-out.length)).1,(aGl s X I (most.toNat-out.length)).2)=aGl s q.h.toNat q.i most.toNat,λ_ h'=>aQq (s.st.height+1) r1 h',⟨q.h.toNat,q.i,[],_,[],rfl,by rw[Int.toNat_of_nonneg wq1];exact C1,B3,eM.nil,(λb hb=>by cases hb),cQ.refl,by omega,by omega,wq3,wq4,by simp,by simp,by simp⟩,?_⟩
 rintro ρ h' ⟨X,I,out,v,Fl,hvs,BX,BR,O,fl,u,x1,x2,i1,i2,o1,o2,hr⟩;simp only[iH,jA,lN,and_true] at hvs;obtain⟨v0,v2,v4,v7,v8⟩:=hvs;simp only[v0,v2,v4,v7,v8,iH,jA];unfold aHQ;have P4:jD c (s.cells sp bv nv m cp) sp s.st m lk cp s.cl nv s.nts bv s.blk h' F:=jD.good.upd P3 u λb hb=>by
  simp only[gB];rintro rfl;exact jD.good.known P _ hb hr1
 have cX:dB h' ⟨r1,0,none⟩=some (.int .u64 (X:Int)):=BX.cell 0;have cI:dB h' ⟨r1,1,none⟩=some (.int .i64 I):=BX.cell 1;obtain⟨Ft,⟨Fn,Fb,rfl,On,⟨bl,Fb',G,Ob,Sb,ebl,rfl,hG⟩,hd⟩,hFt,-⟩:=P4.fTwo;have hGF:∀g∈G,g∈F:=λg hg=>hFt g (by simp[hg]);have hbl:bl.length=s.blk.length:=by rw[←ebl];simp
 obtain⟨j,hj⟩:∃j,j=X-s.first:=⟨_,rfl⟩;have hjl:j<bl.length:=by omega
 have wj:IntKind.u64.wrap ((X:Int)-(s.first:Int))=((j:Nat):Int):=by rw[gO (by omega) (by omega)];omega
 have hrow:(bl.map aKo)[((j:Nat):Int).toNat]? =some [bl[j].1]:=by rw[rA,wA,lJ hjl];rfl
 obtain⟨pa,hpa,hload⟩:=Ob.slR.loadCell (t:=eS) (k:=.u64) (j:=((j:Nat):Int)) eS.und cU.info cU.size cU.und rfl (by omega) hrow;obtain⟨Sj,Gj⟩:=Sb bl[j] (aMf hjl);have hat:s.blk[j]? =some bl[j].2:=by rw[←ebl,wA,lJ hjl];rfl
 have hdr:s.blk.drop j=bl[j].2::s.blk.drop (j+1):=by
  have hj2:j<s.blk.length:=by omega
  rw[aHG hj2];congr 1;rw[lJ hj2] at hat;exact aLd hat
 have hbw:=(ok.bwf _ (tA hat)).1;generalize bl[j]=y at *;obtain⟨yv,b⟩:=y;simp only at Sj Gj hat hdr hbw hload;have lnb:=Sj.len (t':=bR) cU.und;rw[iV] at lnb;have lout:=O.slR.len (t':=bR) cU.und;rw[iV] at lout;have hob:out.length≤4096000000:=by
  have:(X-s.first)*1000000≤4096*1000000:=zLP _ (by omega);omega
 obtain⟨i,hi⟩:∃i,i=aF3 I b:=⟨_,rfl⟩;have hib:i≤b.length:=by rw[hi];exact aT4 _ _
 have ec:=aUA I b;rw[←hi] at ec;simp only[eX.f2,eX.f1,dJ.f0,dJ.f1,fQ,cA.load,bR.load,cX,cI,Ch.load1 P4.cell,Ch.load2 P4.cell,wj,hpa,hload,lnb,aNN,aLE,ec,cE,reduceIte,cZ,Nat.reduceAdd];have nF1:r1∉F:=λhm=>jD.good.known P _ hm hr1;have nl1:r1∉Fl:=λhm=>C1.known (fl _ hm);have nl3:r3∉Fl:=λhm=>B3.known (fl _ hm);refine bR.put BX (o:=1) (by show 1<2;decide) rfl λh5 B5 u5=>?_;have B5:Bx h5 r1 (Pl.cells ⟨(X:Int),((i:Nat):Int)⟩):=B5;have O5:=O.upd u5 (λb hb=>by simp only[gB];rintro rfl;exact nl1 hb);have S5:=Sj.upd u5 (λa n c e=>by simp only[gB];intro e2;exact nF1 (e2▸hGF _ (Gj a n c e)));have R5:=BR.upd u5 (by simp only[gB];exact n13.symm);have c51:dB h5 ⟨r1,1,none⟩=some (.int .i64 ((i:Nat):Int)):=B5.cell 1;have w1:IntKind.i64.wrap ((b.length:Int)-((i:Nat):Int))=((b.length-i:Nat):Int):=by rw[fH (by omega) (by omega)];omega
 have w2:IntKind.i64.wrap (most-(out.length:Int))=most-(out.length:Int):=fH (by omega) (by omega);obtain⟨t,ht⟩:∃t,t=min (b.length-i) (most.toNat-out.length):=⟨_,rfl⟩;have et:=aXq most out.length b.length i hib (by split<;>omega);rw[←ht] at et;have htb:t≤b.length-i:=by omega
 have w3:IntKind.i64.wrap (((i:Nat):Int)+((t:Nat):Int))=((i+t:Nat):Int):=by rw[fH (by omega) (by omega)];omega
 obtain⟨cv,hcv,Sc,-⟩:=S5.cut (t:=cU) cU.und dA.info dA.size (lo:=some (.int .i64 ((i:Nat):Int))) (hi:=some (.int .i64 ((i+t:Nat):Int))) (l:=i) (m:=i+t) (.inr ⟨_,rfl⟩) (.inr ⟨_,rfl⟩) (by omega) (by rw[iV];omega);have ecut:((b.map Nt.cells).take (i+t)).drop i=((b.drop i).take t).map Nt.cells:=by
  rw[zLy,aJa,aJo,aL2]
 rw[ecut] at Sc;simp only[dJ.f1,fQ,bR.load,c51,lnb,lout,w1,w2,aNN,aLE,et,w3,hcv,cE,reduceIte,cZ,Nat.reduceAdd];have htl:((b.drop i).take t).length=t:=by rw[nI,pK];omega
 refine jK cU.und cU.und dA.info dA.size dA.bytes dA.zero rfl (by decide) O5 Sc (Nt.isC _) (by rw[iV,iV,htl];omega) ?_;intro v6 h6 F6 O6 u6 g6 _;rw[←pO] at O6;have B6:=B5.upd u6 nl1;have R6:=R5.upd u6 nl3;have c61:dB h6 ⟨r1,1,none⟩=some (.int .i64 ((i:Nat):Int)):=B6.cell 1;have n35:∀b,h5 b=none->h3 b=none:=λb hb=>by
  cases e:h3 b with
  | none=>rfl
  | some o=>
   exfalso;by_cases hbr:b=r1
   ·subst hbr;exact B5.known hb
   ·have:=(u.trans u5) b o e (by simp[hbr]);rw[hb] at this;cases this
 simp only[dJ.f1,fQ,bR.load,c61,w3,cE,reduceIte,cZ,Nat.reduceAdd];refine bR.put B6 (o:=1) (by show 1<2;decide) rfl λh7 B7 u7=>?_;have B7:Bx h7 r1 (Pl.cells ⟨(X:Int),((i+t:Nat):Int)⟩):=B7;have R7:=R6.upd u7 (by simp only[gB];exact n13.symm);have n6:r1∉F6:=λhm=>by
  rcases g6 _ hm with hx|hx
  ·exact nl1 hx
  ·exact B5.known hx
 have m6:r3∉F6:=λhm=>by
  rcases g6 _ hm with hx|hx
  ·exact nl3 hx
  ·exact R5.known hx
 have O7:=O6.upd u7 (λb hb=>by simp only[gB];rintro rfl;exact n6 hb);have c70:dB h7 ⟨r1,0,none⟩=some (.int .u64 (X:Int)):=B7.cell 0;have c71:dB h7 ⟨r1,1,none⟩=some (.int .i64 ((i+t:Nat):Int)):=B7.cell 1;have f6:eK h3 F6:=λb hb=>by
  rcases g6 b hb with hx|hx
  ·exact fl b hx
  ·exact n35 b hx
 have u37:cQ [r1] h3 h7:=((u.trans u5).then u6 (λb hb=>.inr (fl b hb))).trans u7;have P7:jD c (s.cells sp bv nv m cp) sp s.st m lk cp s.cl nv s.nts bv s.blk h7 F:=jD.good.upd P3 u37 λb hb=>by
  simp only[gB];rintro rfl;exact nF1 hb
 obtain⟨Fs7,S7,hFs7,-⟩:=P7.fSt;have eR:∀n,aGl s X I n=oE (b::s.blk.drop (j+1)) X i n:=λn=>by
  unfold aGl;rw[←hj,hat,hdr,aIu,←hi]
 rw[eR] at hr;simp only[dJ.f1,fQ,bR.load,c71,lnb,cE,reduceIte,cZ,Nat.reduceAdd]
 -- the end
 have stop:(i+t<b.length∨s.blk.drop (j+1)=[])->dY (cG PG h7 (loadAt dJ (pT r1 0))) λv128=>dC PG (dT dJ (pT r3 0) v128) h7 λv129 h130=>dY (cG PG h130 (loadAt dJ (pT r3 0))) λv131=>kk (Value.tuple #[v6,v131]) h130:=λhs=>by
  have hg:oE (b::s.blk.drop (j+1)) X i (most.toNat-out.length)=((b.drop i).take t,X,i+t):=by
   unfold oE;rw[←ht,if_pos hs]
  rw[hg] at hr;rw[hlp,←hr] at hk;simp only[B7.place,cE,reduceIte,cZ,Nat.reduceAdd];refine dJ.put R7 (o:=0) (vs:=Pl.cells ⟨(X:Int),((i+t:Nat):Int)⟩) rfl (by show 0+2≤2;decide) (Pl.isC _) λh8 B8 u8=>?_;have B8:Bx h8 r3 (Pl.cells ⟨(X:Int),((i+t:Nat):Int)⟩):=B8;simp only[B8.place,cE,reduceIte,cZ,Nat.reduceAdd];refine hk h8 v6 F6 (O7.upd u8 (λb hb=>by simp only[gB];rintro rfl;exact m6 hb)) (f6.of e3) ?_;have e7:dD h h7:=e3.fresh u37 (eK.one hr1);exact e7.fresh u8 (eK.one k3)
 by_cases c1:i+t<b.length
 ·have g:(((i+t:Nat):Int)<(b.length:Int))=True:=eq_true (by omega);simp only[g,cE,reduceIte,cZ,Nat.reduceAdd];exact⟨λh=>by simp at h,stop (.inl c1)⟩
 have g:(((i+t:Nat):Int)<(b.length:Int))=False:=eq_false (by omega);simp only[g,dJ.f0,eX.f0,fQ,cA.load,c70,Ch.load0 P7.cell,cE,reduceIte,cZ,Nat.reduceAdd];refine aKT S7 ?_;refine⟨λ_=>c70,?_⟩;by_cases c2:X=s.st.height
 ·have g2:((X:Int)==(s.st.height:Int))=true:=by rw[beq_iff_eq];omega
  simp only[iG,g2,cE,reduceIte,cZ,Nat.reduceAdd];exact stop (.inr (List.drop_eq_nil_of_le (by omega)))
 have g2:((X:Int)==(s.st.height:Int))=false:=by rw[beq_eq_false_iff_ne];omega
 have w4:IntKind.u64.wrap ((X:Int)+1)=((X+1:Nat):Int):=by rw[gO (by omega) (by omega)];omega
 simp only[iG,g2,dJ.f0,cA.load,c70,w4,aSp,cE,reduceIte,cZ,Nat.reduceAdd];refine dJ.put B7 (o:=0) (vs:=Pl.cells ⟨((X+1:Nat):Int),0⟩) rfl (by show 0+2≤2;decide) (Pl.isC _) λh8 B8 u8=>?_;have B8:Bx h8 r1 (Pl.cells ⟨((X+1:Nat):Int),0⟩):=B8;have hne:s.blk.drop (j+1)≠[]:=λe=>by
  have:=List.drop_eq_nil_iff.1 e;omega
 refine⟨⟨X+1,0,out++(b.drop i).take t,v6,F6,rfl,B8,R7.upd u8 (by simp only[gB];exact n13.symm),O7.upd u8 (λb hb=>by simp only[gB];rintro rfl;exact n6 hb),f6,u37.trans u8,by omega,by omega,by omega,by omega,?_,?_,?_⟩,?_⟩
 ·rw[jM,htl,show X+1-s.first=(X-s.first)+1 by omega,zLF];omega
 ·rw[jM,htl];omega
 ·rw[←hr];have hg:oE (b::s.blk.drop (j+1)) X i (most.toNat-out.length)=((b.drop i).take t++(oE (s.blk.drop (j+1)) (X+1) 0 (most.toNat-out.length-t)).1,(oE (s.blk.drop (j+1)) (X+1) 0 (most.toNat-out.length-t)).2):=by
   rw[oE,←ht,if_neg (by rintro(h|h);exact c1 h;exact hne h)]
  have eL:aGl s (X+1) 0 (most.toNat-(out++(b.drop i).take t).length)=oE (s.blk.drop (j+1)) (X+1) 0 (most.toNat-out.length-t):=by
   unfold aGl;rw[aVi,show X+1-s.first=j+1 by omega,jM,htl,Nat.sub_add_eq]
  rw[hg,eL,nM]
 ·rw[aQI B8,aQI BX];omega
def aPC:∀(bs:List (List Nt)) (H i n:Nat),i≤(bs.head?.getD []).length->(oE bs H i n).1=(bs.flatten.drop i).take n
 | [],H,i,n,h=>by simp[oE]
 | b::bs,H,i,n,h=>by
  have h:i≤b.length:=h;rw[oE];by_cases c:i+min (b.length-i) n<b.length∨bs=[]
  ·rw[if_pos c];rw[aDE,List.drop_append_of_le_length h];rcases c with c|rfl
   ·have e:min (b.length-i) n=n:=by omega
    rw[e,zLH (by rw[pK];omega)]
   ·rw[List.flatten_nil,zLQ];by_cases hn:n≤b.length-i
    ·rw[Nat.min_eq_right hn]
    ·rw[aHZ (by omega),lY (by rw[pK];omega),lY (by rw[pK];omega)]
  ·rw[if_neg c];have e:min (b.length-i) n=b.length-i:=by
    have:¬(i+min (b.length-i) n<b.length):=λh=>c (.inl h);omega
   have hn:b.length-i≤n:=by omega
   have e2:(b.drop i).take (b.length-i)=b.drop i:=lY (by rw[pK];omega);rw[e];simp only[e2];rw[aPC bs (H+1) 0 (n-(b.length-i)) (aFl _),aDE,List.drop_append_of_le_length h,List.take_append,zLb,pK,lY (i:=n) (l:=b.drop i) (by rw[pK];omega)]
def aIM:∀(bs:List (List Nt)) (H i n:Nat),bs≠[]->i≤(bs.head?.getD []).length->∃d,(oE bs H i n).2.1=H+d∧d<bs.length∧(oE bs H i n).2.2≤((bs.drop d).head?.getD []).length∧((bs.take d).flatten).length+(oE bs H i n).2.2=i+(oE bs H i n).1.length∧(i+n ≥ bs.flatten.length->d+1=bs.length∧(oE bs H i n).2.2=(bs.getLast?.getD []).length)
 | [],H,i,n,h0,h=>absurd rfl h0
 | b::bs,H,i,n,h0,h=>by
  have h:i≤b.length:=h;rw[oE];by_cases c:i+min (b.length-i) n<b.length∨bs=[]
  ·rw[if_pos c];refine⟨0,rfl,by simp,?_,?_,λhn=>?_⟩
   ·show i+min (b.length-i) n≤b.length;omega
   ·simp only[List.take_zero,List.flatten_nil,zLN,fQ,nI,pK];omega
   ·rcases c with c|rfl
    ·rw[aDE,jM] at hn;omega
    ·refine⟨rfl,?_⟩;rw[aDE,jM,List.flatten_nil,zLN] at hn;show i+min (b.length-i) n=b.length;omega
  ·rw[if_neg c];have hne:bs≠[]:=λe=>c (.inr e);have e:min (b.length-i) n=b.length-i:=by
    have:¬(i+min (b.length-i) n<b.length):=λh=>c (.inl h);omega
   rw[e];obtain⟨d,p1,p2,p3,p4,p5⟩:=aIM bs (H+1) 0 (n-(b.length-i)) hne (aFl _);refine⟨d+1,by rw[p1];omega,by simp only[qE];omega,p3,?_,λhn=>?_⟩
   ·simp only[zLc,aDE,jM,nI,pK];omega
   ·rw[aDE,jM] at hn;obtain⟨q1,q2⟩:=p5 (by omega);refine⟨by simp only[qE];omega,?_⟩;rw[q2];cases bs with
    | nil=>exact absurd rfl hne
    | cons x xs=>rw[List.getLast?_cons_cons]
structure aGe(s:Ch)(q:Pl)(p:Nat):Prop where
 here:∃d i:Nat,q=⟨((s.first+d:Nat):Int),((i:Nat):Int)⟩∧d<s.blk.length∧i≤((s.blk.drop d).head?.getD []).length∧((s.blk.take d).flatten).length+i=p
def aOv(bs:List (List Nt))(d:Nat):bs.flatten=(bs.take d).flatten++(bs.drop d).flatten:=by
 rw[←zLG,aLw]
def aGe.first{s:Ch}(h:s.blk≠[]):aGe s ⟨(s.first:Int),0⟩ 0:=⟨⟨0,0,rfl,aIA.2 h,aFl _,by simp⟩⟩
def aOT{i:Nat}{b:List Nt}(h:i≤b.length):aF3 (i:Int) b=i:=by
 unfold aF3;rw[if_neg (by omega),if_neg (by omega)];omega
def aXA(s:Ch):Pl:=⟨((s.first+(s.blk.length-1):Nat):Int),(((s.blk.getLast?.getD []).length:Nat):Int)⟩
def aGe.log{s:Ch}(hf:s.first+(s.blk.length-1)=s.st.height){q:Pl}{p:Nat}(A:aGe s q p)(n:Nat):
  (mI s q (n:Int)).1=(s.blk.flatten.drop p).take n∧aGe s (mI s q (n:Int)).2 (p+((s.blk.flatten.drop p).take n).length)∧q.h≤(mI s q (n:Int)).2.h∧((mI s q (n:Int)).2.h=q.h->(mI s q (n:Int)).2.i=q.i+(((s.blk.flatten.drop p).take n).length:Int))∧
  (s.blk.flatten.length≤p+n->(mI s q (n:Int)).2=aXA s):=by
 obtain⟨d,i,rfl,hd,hi,hp⟩:=A.here;have hdr:s.blk.drop d=(s.blk[d]?.getD [])::s.blk.drop (d+1):=by
  rw[aHG hd,lJ hd];rfl
 have hhd:(s.blk.drop d).head?.getD []=s.blk[d]?.getD []:=by rw[hdr];rfl
 have hne:s.blk.drop d≠[]:=by rw[hdr];simp
 have hl:mI s ⟨((s.first+d:Nat):Int),((i:Nat):Int)⟩ (n:Int)=((oE (s.blk.drop d) (s.first+d) i n).1,⟨((oE (s.blk.drop d) (s.first+d) i n).2.1:Nat),((oE (s.blk.drop d) (s.first+d) i n).2.2:Nat)⟩):=by
  unfold mI;rw[if_neg (by simp only;omega)];unfold aGl;simp only[rA,aJa];rw[aOT (by rw[←hhd];exact hi)]
 rw[hl];have e1:=aPC (s.blk.drop d) (s.first+d) i n hi;obtain⟨x,p1,p2,p3,p4,p5⟩:=aIM (s.blk.drop d) (s.first+d) i n hne hi;have hfl:s.blk.flatten.drop p=(s.blk.drop d).flatten.drop i:=by
  rw[aOv s.blk d,←hp,List.drop_append];rw[aLf (by omega),sK];congr 1;omega
 have hlen:s.blk.flatten.length=((s.blk.take d).flatten).length+((s.blk.drop d).flatten).length:=by rw[aOv s.blk d,jM]
 rw[hfl];refine⟨e1,⟨⟨d+x,(oE (s.blk.drop d) (s.first+d) i n).2.2,by rw[p1,Nat.add_assoc],?_,?_,?_⟩⟩,?_,λh=>?_,λh=>?_⟩
 ·rw[pK] at p2;omega
 ·rw[aGf] at p3;exact p3
 ·rw[←e1,List.take_add,zLG,jM];omega
 ·simp only[p1];omega
 ·simp only[p1] at h;have hx:x=0:=by omega
  subst hx;simp only[List.take_zero,List.flatten_nil,zLN,fQ] at p4;rw[p4,e1];simp
 ·obtain⟨q1,q2⟩:=p5 (by omega);rw[pK] at q1;unfold aXA;rw[p1,q2];have hlast:(s.blk.drop d).getLast? =s.blk.getLast?:=by
   rw[List.getLast?_drop,if_neg (by omega)]
  rw[hlast,show s.first+d+x=s.first+(s.blk.length-1) by omega]
def Ch.tot(s:Ch):Nat:=s.blk.flatten.length+s.nts.length
def aYI(s:Ch)(n:Nt):(s.add n).tot=s.tot+1:=by
 unfold Ch.tot Ch.add;simp only[jM,qE,zLN];omega
def aYY(s:Ch):s.committed.tot=s.tot:=by
 unfold Ch.tot Ch.committed;split
 ·simp only[zLG,jM,aDE,List.flatten_nil,zLQ,zLN];omega
 ·rfl
def aVq{l:List hZ}{x:hZ}(h:(aAq l x).1≠0):(aAq l x).2=l:=by
 unfold aAq at h ⊢;split
 ·rfl
 ·rename_i h1;rw[if_neg h1] at h;split
  ·rfl
  ·rename_i h2;rw[if_neg h2] at h;split
   ·rfl
   ·rename_i h3;rw[if_neg h3] at h;exact absurd rfl h
def aDy(x:kD):Prop:=x.kind=0∨(2≤x.kind∧x.kind≤4)
instance (x:kD):Decidable (aDy x):=by unfold aDy;infer_instance
def aP0(c o:Ch)(x:kD):((nP c o x).2.2.2≠0->(nP c o x).1=c)∧(nP c o x).1.tot=c.tot+(if (nP c o x).2.2.2=0∧aDy x then 1 else 0):=by
 have t1:∀(s:Ch) (e:Int),s.tot=c.tot->e≠0->s.tot=c.tot+(if e=0∧aDy x then 1 else 0):=λs e h he=>by rw[if_neg (λhh=>he hh.1),h];rfl
 have t2:∀(s:Ch) (e:Int),s.tot=c.tot->¬aDy x->s.tot=c.tot+(if e=0∧aDy x then 1 else 0):=λs e h he=>by rw[if_neg (λhh=>he hh.2),h];rfl
 have t3:∀(s:Ch) (n:Nt),s.tot=c.tot->aDy x->(s.add n).tot=c.tot+(if (0:Int)=0∧aDy x then 1 else 0):=λs n h he=>by rw[if_pos ⟨rfl,he⟩,aYI,h]
 unfold nP;by_cases k0:x.kind=0
 ·rw[if_pos k0];by_cases e:qR c x.d x.h=0
  ·rw[if_pos e];exact⟨λh=>absurd rfl h,t3 ((c.put _ _).next) _ rfl (.inl k0)⟩
  ·rw[if_neg e];exact⟨λ_=>rfl,t1 c _ rfl e⟩
 rw[if_neg k0];by_cases k1:x.kind=1
 ·rw[if_pos k1];have nc:¬aDy x:=by unfold aDy;omega
  cases zH o.st x.h with
  | none=>exact⟨λ_=>rfl,t2 c _ rfl nc⟩
  | some b=>
   refine⟨λh=>?_,t2 _ _ rfl nc⟩;show c.told _ _=c;unfold Ch.told;rw[aVq h]
 rw[if_neg k1];by_cases k2:x.kind=2
 ·rw[if_pos k2];split
  ·exact⟨λh=>absurd rfl h,t3 ((c.put _ _).put _ _) _ rfl (.inr (by omega))⟩
  ·rename_i e;exact⟨λ_=>rfl,t1 c _ rfl e⟩
 rw[if_neg k2];by_cases k3:x.kind=3
 ·rw[if_pos k3];split
  ·exact⟨λh=>absurd rfl h,t3 (c.del _) _ rfl (.inr (by omega))⟩
  ·rename_i e;exact⟨λ_=>rfl,t1 c _ rfl e⟩
 rw[if_neg k3];by_cases k4:x.kind=4
 ·rw[if_pos k4];split
  ·exact⟨λh=>absurd rfl h,t3 (c.del _) _ rfl (.inr (by omega))⟩
  ·rename_i e;exact⟨λ_=>rfl,t1 c _ rfl e⟩
 rw[if_neg k4];have nc:¬aDy x:=by unfold aDy;omega
 by_cases k5:x.kind=5
 ·rw[if_pos k5];refine⟨λh=>?_,t2 _ _ (aYY c) nc⟩;show c.committed=c;unfold Ch.committed;rw[if_neg h]
 ·rw[if_neg k5];exact⟨λ_=>rfl,t2 c _ rfl nc⟩
def aQ7:aKN PG gZ wF where
 chk:=λh b a=>by unfold wF;cases b<;>kernel_rfl
 eq:=λh a b=>by
  show cG PG h (Op.equalIn (9999+1) gZ (.agg #[.int .i64 a.1,.int .u64 a.2]) (.agg #[.int .i64 b.1,.int .u64 b.2]))=_;rw[aB9 gZ.und (by kernel_rfl) (λf=>match f.offset with|0=>a.1==b.1|_=>a.2==b.2)]
  ·congr 1;rw[zLm];obtain⟨x,y⟩:=a;obtain⟨x',y'⟩:=b;simp
  ·intro f hf;simp only[gU,lH,or_false] at hf;rcases hf with rfl|rfl
   ·exact⟨by decide,_,_,jX bR.und rfl rfl,jX bR.und rfl rfl,xL bR.und⟩
   ·exact⟨by decide,_,_,jX cA.und rfl rfl,jX cA.und rfl rfl,xL cA.und⟩
 bits:=λa=>by
  show Instr.sameBits (9999+1) (.agg #[.int .i64 a.1,.int .u64 a.2]) (.agg #[.int .i64 a.1,.int .u64 a.2])=true;simp[Instr.sameBits]
 now:=⟨_,gZ.und,.inl λa b=>rfl⟩
def It.pr(i:It):Ky×Value:=(i.key,i.val)
def It.un:Value->It
 | .agg ⟨[.int _ f,.int _ s,.int _ t,.string d,.int _ g]⟩=>⟨⟨f,s,t,d⟩,g⟩
 | _=>default
def It.un_val(i:It):It.un i.val=i:=rfl
def aXB(l:List It):(l.map It.pr).map (λp=>It.un p.2)=l:=by
 rw[zL4];have:((λp:Ky×Value=>It.un p.2) ∘ It.pr)=id:=by funext i;exact It.un_val i
 rw[this,List.map_id]
abbrev MAt(h:PH)(m:Nat)(l:List It):Prop:=jR wF h m (l.map It.pr)
def aM0{h:PH}{r:Nat}(hr:h r=none)(x:It){k:cD}(hk:∀h',Bx h' r x.cells->dD h h'->k undef h'):
  dC PG (dT dE (pT r 0) x.val) (h.set r (.cells (dV PG dE) dE)) k:=by
 refine rW dL dE.info (by show 5=5;rfl) (by show 0<5;decide) (by rw[dE.zc];rfl) x.allCell ?_;rw[uX];exact hk _ ⟨_,dL⟩ (cQ.new hr)
abbrev aOO(l:Nat):Value:=.func (.yield l) #[] #[]
def aUD{h:PH}{bx m l:Nat}{L:List It}(hb:Bx h bx [.map (some m)])(hm:MAt h m L)(J:Nat->List It->PH->Prop)
  (J0:∀it h',h it=none->dD h h'->h' it≠none->J it [] h') (Js:∀it pre h1 h2,J it pre h1->cQ [it] h1 h2->J it pre h2)
  (Jy:∀it pre x h1,h it=none->pre.length<L.length->J it pre h1->h1 it≠none->∀k':Value->PH->Prop,(∀h2 G,J it (pre++[x]) h2->cQ G h1 h2->m∉G->it∉G->k' (.bool true) h2)->rV PG (aOO l) #[x.val] h1 k')
  {k:cD} (hk:∀it l' h',l'.Perm L->J it l' h'->k (.tuple #[]) h'):
  aT PG iS #[aOO l,pT bx 0] h k:=by
 apply kJ.call;unfold kJ;have c0:dB h ⟨bx,0,none⟩=some (.map (some m)):=hb.cell 0;simp only[dS.load,c0,cE,reduceIte];refine aRJ dS.und hm λit h1 hit HI u1=>?_;refine⟨λvs h'=>∃pre:List It,vs=[aOO l,pT it 0]∧aDI wF h' m it (L.map It.pr) (pre.map It.pr)∧J it pre h',λ_ h'=>aPB L.length it h',⟨[],rfl,HI,J0 it h1 hit u1 HI.known⟩,?_⟩;rintro ρ h' ⟨pre,hvs,HI,hJ⟩;simp only[iH,jA,lN,and_true] at hvs;obtain⟨e0,e1⟩:=hvs;rw[e0,e1];unfold oK;refine aSM HI (λhp=>?_) (λa v h2 hav hnk HI2 u2=>?_)
 ·simp only[cE,reduceIte];refine hk it pre h' ?_ hJ;have:=hp.map (λp=>It.un p.2)
  rwa [aXB,aXB] at this
 ·simp only[cE,reduceIte];obtain⟨x,hx,hxe⟩:=mJ.1 hav;obtain⟨rfl,rfl⟩:x.key=a∧x.val=v:=by simpa[It.pr] using hxe
  refine aRa HI2 ?_;simp only[cE,reduceIte];intro r hr
  try rw[cW]
  refine aM0 hr x λh3 b3 u3=>?_;simp only[b3.it,cE,reduceIte];have HI3:=HI2.upd u3 (by simp) (by simp);have hJ3:=Js it pre h' h3 hJ (cQ.trans u2 (dD.upd u3));have hlt:pre.length<L.length:=by
   have:=HI2.le;simp only[jM,iV,qE,zLN] at this;omega
  refine Jy it pre x h3 hit hlt hJ3 HI3.known _ λh4 G hJ4 u4 g1 g2=>?_;have HI4:=HI3.upd u4 g1 g2;simp only[cE,reduceIte];refine⟨⟨pre++[x],by trivial,?_,hJ4⟩,?_⟩
  ·rw[pO];exact HI4
  ·rw[HI4.left,HI.left];simp only[jM,iV,qE,zLN];omega
def aI9{h:PH}{l:Nat}{r:Loop}(hl:h l=some (.loop r)):cG PG h (Instr.getLoop l)=some r:=by
 unfold Instr.getLoop getObj;show cG PG h (Sem.getObj l _)=_;simp only[cG,hl];rfl
def aV3{h:PH}{l:Nat}{r:Loop}{k:Unit->PH->Prop}(hl:h l=some (.loop r))(hs:r.state= .ready)(hk:k () (h.set l (.loop {r with state:=.busy}))):dC PG (Instr.beginRound l) h k:=by
 unfold Instr.beginRound;refine iD (aI9 hl) ?_;show(∃u,h l=some u∧(∀c e f,u≠ .cells c e f))∧_;refine⟨⟨_,hl,by intros;simp⟩,?_⟩;rw[hs];exact hk
def aZj{h:PH}{l:Nat}{r:Loop}{j:Option Code}{k:cD}(hl:h l=some (.loop r))(hk:k (.bool j.isNone) (h.set l (.loop {r with state:=if j.isNone then .ready else .done,pending:=j}))):dC PG (Instr.endRound l j) h k:=by
 unfold Instr.endRound;refine iD (aI9 hl) ?_;show(∃u,h l=some u∧(∀c e f,u≠ .cells c e f))∧_;exact⟨⟨_,hl,by intros;simp⟩,hk⟩
def aTr{h:PH}{l:Nat}{r:Loop}{k:Option Code->PH->Prop}(hl:h l=some (.loop r))(hs:r.state= .ready∨r.state= .done)(hk:k r.pending (h.set l (.loop {r with state:=.exhausted}))):dC PG (Instr.endLoop l) h k:=by
 unfold Instr.endLoop;refine iD (aI9 hl) ?_;have:(r.state==LoopState.busy)=false:=by rcases hs with e|e<;>rw[e]<;>rfl
 rw[this];show(∃u,h l=some u∧(∀c e f,u≠ .cells c e f))∧_;exact⟨⟨_,hl,by intros;simp⟩,hk⟩
def aWs{h:PH}{l:Nat}{r:Loop}{args:Array Value}{k:cD}(hl:h l=some (.loop r))(hn:args.size=r.params.size)
  (hk:uR PG (.round l r.fn ((r.params.zip args).foldl (λtmps (t,a)=>tmps.setIfInBounds t a) r.tmps) r.assign r.body) h k):rV PG (aOO l) args h k:=by
 unfold rV;unfold invoke;have e0:(#[]:Array Value)++args=args:=by simp
 show dC PG (Instr.yield l (#[]++args)) h _;rw[e0];unfold Instr.yield;refine iD (aI9 hl) ?_;simp only[hn,ne_eq,not_true,if_false];exact hk
def It.isCell(l:List It):∀r∈l.map It.cells,∀u∈r,fW u=true:=λr hr u hu=>by
 obtain⟨m,_,rfl⟩:=mJ.1 hr;exact m.allCell u (by simpa using hu)
def aUT(x:It):jV PG (buildSlice cV 1 #[(0,x.val)])=some (.cells x.cells.toArray dE (0,0),λr=>pure (.slice (some ⟨r,0,none⟩) 1 1)):=by
 kernel_rfl
def aRr{h:PH}{bx m:Nat}{L:List It}(hb:Bx h bx [.map (some m)])(hm:MAt h m L)(hL:L.length≤1000000){k:cD}
  (hk:∀v (l':List It) h' F,l'.Perm L->eM h' dE 5 v (l'.map It.cells) F->eK h F->dD h h'->k v h'):
  aT PG pI #[.slice none 0 0,.func (.func iS) #[] #[pT bx 0]] h k:=by
 apply nE.call;unfold nE;intro B hB;rw[cW];have uB:dD h (h.set B (.cells (Value.cells (.slice none 0 0)) cV)):=cQ.new hB;have bB:(h.set B (.cells (Value.cells (.slice none 0 0)) cV)) B=some (.cells #[.slice none 0 0] cV (0,0)):=dL;generalize h.set B (.cells (Value.cells (.slice none 0 0)) cV)=h1 at *;unfold aIl;refine⟨by kernel_rfl,?_⟩;intro fn tmps l D hv hsz hl;have hv2:tmps.getD 2 undef=pT B 0:=hv (2,_) (by simp);have hlB:l≠B:=by rintro rfl;rw[bB] at hl;cases hl
 have ul:dD h1 (h1.set l (.loop {state:=.ready,pending:=none,fn,tmps,params:=#[7],assign:=iX,body:=iU,defers:=D})):=cQ.new hl;have bl:(h1.set l (.loop {state:=.ready,pending:=none,fn,tmps,params:=#[7],assign:=iX,body:=iU,defers:=D})) l=some (.loop {state:=.ready,pending:=none,fn,tmps,params:=#[7],assign:=iX,body:=iU,defers:=D}):=dL;obtain⟨rec,hrec⟩:∃rec:Loop,rec= {state:=.ready,pending:=none,fn,tmps,params:=#[7],assign:=iX,body:=iU,defers:=D}:=⟨_,rfl⟩;rw[←hrec] at ul bl ⊢;have bB2:=ul.get bB;generalize h1.set l (.loop rec)=h2 at *;have u12:=dD.trans uB ul;have hlh:h l=none:=uB.none hl;refine aUD (hb.ext u12) (jR.ext hm u12)
  (λit pre h'=>∃v F,h' l=some (.loop rec)∧h' B=some (.cells #[v] cV (0,0))∧eM h' dE 5 v (pre.map It.cells) F∧eK h F∧l∉F∧B∉F∧it∉F∧it≠l∧it≠B∧h it=none∧dD h h')
  (λit h3 hit u3 hkn=>?_) (λit pre h3 h4 hJ u4=>?_) (λit pre x h3 hit hlt hJ hkn k' hk'=>?_) (λit l' h3 hp hJ=>?_)
 ·refine⟨.slice none 0 0,[],u3.get bl,u3.get bB2,eM.nil,(λb hb=>by cases hb),by simp,by simp,by simp,?_,?_,u12.none hit,u12.trans u3⟩
  ·rintro rfl;rw[bl] at hit;cases hit
  ·rintro rfl;rw[bB2] at hit;cases hit
 ·obtain⟨v,F,j1,j2,j3,j4,j5,j6,j7,j8,j9,j10,j11⟩:=hJ;exact⟨v,F,u4.get j1 (by simpa using Ne.symm j8),u4.get j2 (by simpa using Ne.symm j9),j3.upd u4 (λb hb=>by simp;rintro rfl;exact j7 hb),j4,j5,j6,j7,j8,j9,j10,
   j11.fresh u4 (eK.one j10)⟩
 ·obtain⟨v,F,j1,j2,j3,j4,j5,j6,j7,j8,j9,j10,j11⟩:=hJ;refine aWs j1 (by rw[hrec];rfl) ?_;have e1:rec.assign=iX:=by rw[hrec]
  have e2:rec.body=iU:=by rw[hrec]
  have e3:(rec.params.zip #[x.val]).foldl (λtmps (t,a)=>tmps.setIfInBounds t a) rec.tmps=tmps.setIfInBounds 7 x.val:=by rw[hrec];simp
  rw[e1,e2,e3];refine jL.next (by simpa using hsz) ?_;have t2:(tmps.setIfInBounds 7 x.val).getD 2 undef=pT B 0:=by
   rw[←hv2];simp[aJe,Array.getElem?_setIfInBounds]
  have t7:(tmps.setIfInBounds 7 x.val).getD 7 undef=x.val:=by
   simp[aJe,hsz]
  rw[t2,t7];unfold jL;intro r hr;rw[cW];refine aM0 hr x λh4 b4 u4=>?_;have hrl:r≠l:=by rintro rfl;rw[j1] at hr;cases hr
  have hrB:r≠B:=by rintro rfl;rw[j2] at hr;cases hr
  have hri:r≠it:=by rintro rfl;exact hkn hr
  refine aV3 (u4.get j1) (by rw[hrec]) ?_;have u5:cQ [l] h4 (h4.set l (.loop {rec with state:=.busy})):=cQ.set (by simp);have bl5:(h4.set l (.loop {rec with state:=.busy})) l=some (.loop {rec with state:=.busy}):=dL;generalize h4.set l (.loop {rec with state:=.busy})=h5 at *;have bB5:h5 B=_:=u5.get (u4.get j2) (by simpa using Ne.symm hlB);have c0:dB h5 ⟨B,0,none⟩=some v:=by simp[dB,bB5]
  have hO5:=(j3.ext u4).upd u5 (λb hb=>by simp;rintro rfl;exact j5 hb);have b5:=b4.upd u5 (by simpa using hrl);simp only[cV.load,c0,b5.it,aUT,cE,reduceIte];intro r6 hr6;refine fP ?_
  try rw[cW]
  have u6:dD h5 (h5.set r6 (.cells x.cells.toArray dE)):=cQ.new hr6;have s1:fZ (h5.set r6 (.cells x.cells.toArray dE)) 5 (.slice (some ⟨r6,0,none⟩) 1 1) ([x].map It.cells):=(eM.lit (It.rows [x]) dL (by simp) (by decide) (by simp)).slR;generalize h5.set r6 (.cells x.cells.toArray dE)=h6 at *;refine jK cV.und cV.und dE.info dE.size dE.bytes dE.zero rfl (by decide) (hO5.ext u6) s1 (It.isCell _) (by simp;omega) ?_;intro v7 h7 F7 hO7 u7 hF7 _;rw[←pO] at hO7;have bB7:h7 B=_:=u7.get (u6.get bB5) j6;have bl7:h7 l=_:=u7.get (u6.get bl5) j5;refine iT cV.und rfl bB7 (by simp) (by obtain⟨_,_,rfl,-⟩:=hO7.slR.here;rfl) cV.info cV.size ?_;have notIn:∀b,h6 b≠none->b∉F->b∉F7:=λb h1 h2 hm=>by rcases hF7 b hm with h3|h3;exact h2 h3;exact h1 h3
  have kn6:∀b,h3 b≠none->b≠l->h6 b≠none:=λb hb hbl=>by
   cases e:h3 b with
   | none=>exact absurd e hb
   | some o=>rw[u6.get (u5.get (u4.get e) (by simpa using hbl))];simp
  have nB:B∉F7:=notIn B (by rw[u6.get bB5];simp) j6;have nl:l∉F7:=notIn l (by rw[u6.get bl5];simp) j5;have ni:it∉F7:=notIn it (kn6 it hkn j8) j7;have u8:cQ [B] h7 (h7.set B (.cells (#[v].setIfInBounds 0 v7) cV (0,0))):=cQ.set (by simp);have bB8:(h7.set B (.cells (#[v].setIfInBounds 0 v7) cV (0,0))) B=some (.cells #[v7] cV (0,0)):=dL;generalize h7.set B (.cells (#[v].setIfInBounds 0 v7) cV (0,0))=h8 at *;have hO8:=hO7.upd u8 (λb hb=>by simp;rintro rfl;exact nB hb);have bl8:=u8.get bl7 (by simpa using hlB);refine aZj bl8 ?_;have u9:cQ [l] h8 (h8.set l (.loop {{rec with state:=.busy} with state:=if (none:Option Code).isNone then .ready else .done,pending:=none})):=cQ.set (by simp);have bl9:(h8.set l (.loop {{rec with state:=.busy} with state:=if (none:Option Code).isNone then .ready else .done,pending:=none})) l=some (.loop rec):=by rw[dL,hrec];rfl
  generalize h8.set l (.loop {{rec with state:=.busy} with state:=if (none:Option Code).isNone then .ready else .done,pending:=none})=h9 at *;have hfr7:eK h F7:=λb hb=>by
   rcases hF7 b hb with h1|h1
   ·exact j4 b h1
   ·cases e:h b with
    | none=>rfl
    | some o=>
     have:=kn6 b (by rw[j11.get e];simp) (by rintro rfl;rw[hlh] at e;cases e);exact absurd h1 this
  have hall:cQ (l::B::F) h3 h9:=by
   intro b o hb hn;simp only[gU,not_or] at hn;exact u9.get (u8.get (u7.get (u6.get (u5.get (u4.get hb) (by simpa using hn.1))) hn.2.2) (by simpa using hn.2.1)) (by simpa using hn.1)
  have hext:dD h h9:=j11.fresh hall (λb hb=>by
   rcases gU.1 hb with rfl|hb
   ·exact hlh
   ·rcases gU.1 hb with rfl|hb
    ·exact hB
    ·exact j4 b hb)
  refine hk' h9 (l::B::F) ⟨v7,F7,bl9,u9.get bB8 (by simpa using Ne.symm hlB),hO8.upd u9 (λb hb=>by simp;rintro rfl;exact nl hb),hfr7,nl,nB,ni,j8,j9,j10,hext⟩ hall ?_ ?_
  ·intro hmm;have hkm:=jR.known hm;rcases gU.1 hmm with rfl|hmm
   ·exact hkm hlh
   ·rcases gU.1 hmm with rfl|hmm
    ·exact hkm hB
    ·exact hkm (j4 m hmm)
  ·simp only[gU,not_or];exact⟨j8,j9,j7⟩
 ·obtain⟨v,F,j1,j2,j3,j4,j5,j6,j7,j8,j9,j10,j11⟩:=hJ;refine aTr j1 (by rw[hrec];exact .inl rfl) ?_;have ep:rec.pending=none:=by rw[hrec]
  have u5:cQ [l] h3 (h3.set l (.loop {rec with state:=.exhausted})):=cQ.set (by simp);generalize h3.set l (.loop {rec with state:=.exhausted})=h5 at *;rw[ep];show dY _ _;have bB5:h5 B=_:=u5.get j2 (by simpa using Ne.symm hlB);have c0:dB h5 ⟨B,0,none⟩=some v:=by simp[dB,bB5]
  simp only[cV.load,c0,cE,reduceIte];exact hk v l' h5 F hp (j3.upd u5 (λb hb=>by simp;rintro rfl;exact j5 hb)) j4 (j11.fresh u5 (eK.one hlh))
end
section
open Go Go.Shelf
def aJ0:Go.Shelf.Ren:=⟨fun|6=>73|15=>128|14=>139|28=>202|29=>203|20=>205|21=>206|22=>207|23=>208|24=>209|25=>210|26=>211|27=>212|46=>257|47=>253|48=>254|49=>258|50=>259|57=>291|n=>n,fun|22=>25|24=>40|25=>171|3=>3|39=>54|0=>0|53=>246|55=>22|4=>4|46=>299|45=>298|50=>127|5=>5|9=>9|66=>342|70=>345|76=>383|77=>384|n=>n,fun|n=>n⟩
def aWr:Go.Proofs.SlLaysF0.n6 Tryz.prog aJ0:={
 mixed:=by kernel_rfl
 f6:=⟨Tryz.f73.name,by decide,Tryz.func73.trans (congrArg some (by kernel_rfl))⟩
 f14:=⟨Tryz.f139.name,by decide,Tryz.func139.trans (congrArg some (by kernel_rfl))⟩
 f15:=Tryz.func128.trans (congrArg some (by kernel_rfl))
 f20:=⟨Tryz.f205.name,by decide,Tryz.func205.trans (congrArg some (by kernel_rfl))⟩
 f21:=⟨Tryz.f206.name,by decide,Tryz.func206.trans (congrArg some (by kernel_rfl))⟩
 f22:=⟨Tryz.f207.name,by decide,Tryz.func207.trans (congrArg some (by kernel_rfl))⟩
 f23:=⟨Tryz.f208.name,by decide,Tryz.func208.trans (congrArg some (by kernel_rfl))⟩
 f24:=⟨Tryz.f209.name,by decide,Tryz.func209.trans (congrArg some (by kernel_rfl))⟩
 f25:=⟨Tryz.f210.name,by decide,Tryz.func210.trans (congrArg some (by kernel_rfl))⟩
 f26:=⟨Tryz.f211.name,by decide,Tryz.func211.trans (congrArg some (by kernel_rfl))⟩
 f27:=⟨Tryz.f212.name,by decide,Tryz.func212.trans (congrArg some (by kernel_rfl))⟩
 f28:=Tryz.func202.trans (congrArg some (by kernel_rfl))
 f29:=Tryz.func203.trans (congrArg some (by kernel_rfl))
 f46:=⟨Tryz.f257.name,by decide,Tryz.func257.trans (congrArg some (by kernel_rfl))⟩
 f47:=Tryz.func253.trans (congrArg some (by kernel_rfl))
 f48:=Tryz.func254.trans (congrArg some (by kernel_rfl))
 f49:=⟨Tryz.f258.name,by decide,Tryz.func258.trans (congrArg some (by kernel_rfl))⟩
 f50:=⟨Tryz.f259.name,by decide,Tryz.func259.trans (congrArg some (by kernel_rfl))⟩
 f57:=⟨Tryz.f291.name,by decide,Tryz.func291.trans (congrArg some (by kernel_rfl))⟩
 t0:=Tryz.underlying0
 a0:=Tryz.isAgg0
 z0:=Tryz.sizeOf0
 v0:=Tryz.zeroValue0
 t3:=Tryz.underlying3
 a3:=Tryz.isAgg3
 z3:=Tryz.sizeOf3
 v3:=Tryz.zeroValue3
 t4:=Tryz.underlying4
 a4:=Tryz.isAgg4
 z4:=Tryz.sizeOf4
 v4:=Tryz.zeroValue4
 t5:=Tryz.underlying5
 a5:=Tryz.isAgg5
 z5:=Tryz.sizeOf5
 v5:=Tryz.zeroValue5
 t9:=Tryz.underlying9
 a9:=Tryz.isAgg9
 z9:=Tryz.sizeOf9
 v9:=Tryz.zeroValue9
 t22:=Tryz.underlying25
 a22:=Tryz.isAgg25
 z22:=Tryz.sizeOf25
 v22:=Tryz.zeroValue25
 t25:=Tryz.underlying171
 a25:=Tryz.isAgg171
 z25:=Tryz.sizeOf171
 v25:=Tryz.zeroValue171
 t39:=Tryz.underlying54
 a39:=Tryz.isAgg54
 z39:=Tryz.sizeOf54
 v39:=Tryz.zeroValue54
 t45:=Tryz.underlying298
 a45:=Tryz.isAgg298
 z45:=Tryz.sizeOf298
 v45:=Tryz.zeroValue298
 t46:=Tryz.underlying299
 a46:=Tryz.isAgg299
 z46:=Tryz.sizeOf299
 v46:=Tryz.zeroValue299
 t50:=Tryz.underlying127
 a50:=Tryz.isAgg127
 z50:=Tryz.sizeOf127
 v50:=Tryz.zeroValue127
 t53:=Tryz.underlying246
 a53:=Tryz.isAgg246
 z53:=Tryz.sizeOf246
 v53:=Tryz.zeroValue246
 t55:=Tryz.underlying22
 a55:=Tryz.isAgg22
 z55:=Tryz.sizeOf22
 v55:=Tryz.zeroValue22
 t66:=Tryz.underlying342
 a66:=Tryz.isAgg342
 z66:=Tryz.sizeOf342
 v66:=Tryz.zeroValue342
 t70:=Tryz.underlying345
 a70:=Tryz.isAgg345
 z70:=Tryz.sizeOf345
 v70:=Tryz.zeroValue345
 t76:=Tryz.underlying383
 a76:=Tryz.isAgg383
 z76:=Tryz.sizeOf383
 v76:=Tryz.zeroValue383
 t77:=Tryz.underlying384
 a77:=Tryz.isAgg384
 z77:=Tryz.sizeOf384
 v77:=Tryz.zeroValue384}
def bAC(w:World):(isAgg (aJ0.t 24)).run PG w= .ok true w:=Tryz.isAgg40 w
def aZN(w:World):(Go.sizeOf (aJ0.t 24)).run PG w= .ok 5 w:=Tryz.sizeOf40 w
end
section
open Go Go.Sort Go.Shelf
def ltI(a b:It):Bool:=decide (a.p.f<b.p.f)||(decide (a.p.f=b.p.f)&&decide (a.p.s<b.p.s))
def aNT(a b:It):ltOf cfI a b=ltI a b:=by
 unfold ltOf cfI aFp ltI;by_cases h1:a.p.f<b.p.f
 ·simp[h1]
 ·by_cases h2:b.p.f<a.p.f
  ·have h3:¬a.p.f=b.p.f:=by omega
   simp[h1,h2,h3]
  ·have h3:a.p.f=b.p.f:=by omega
   simp only[h1,h2,if_false,ne_eq,not_true,h3];by_cases h4:a.p.s<b.p.s
   ·simp[h4]
   ·by_cases h5:b.p.s<a.p.s
    ·simp[h4,h5]
    ·simp[h4,h5]
def bAv:SWO (ltOf cfI) where
 irrefl x:=by rw[aNT];simp[ltI]
 trans x y z h1 h2:=by
  rw[aNT] at *;simp only[ltI,Bool.or_eq_true,yH,decide_eq_true_eq] at *;omega
 ntrans x y z h1 h2:=by
  rw[aNT] at *;simp only[ltI,Bool.or_eq_false_iff,Bool.and_eq_false_iff,decide_eq_false_iff_not] at *;omega
def aYF{h:PH}{v:Value}{F:List Nat}{l:List It}(H:eM h dE 5 v (l.map It.cells) F)(hl:l.length≤1000000){k:cD}
  (hk:∀(l':List It) h',l'.Perm l->l'.Pairwise (λa b=>ltI b a=false)->eM h' dE 5 v (l'.map It.cells) F->cQ F h h'->k (.tuple #[]) h'):
  aT PG pN #[v,.func (.func sN) #[] #[]] h k:=by
 refine aNr (P:=PG) aWr (f:=pN) rfl (k:=5) (by decide) bAC aZN It.cells (λ_=>rfl) (λx v hv=>?_) cfI bAv (g:=sN) (by kernel_rfl)
  (λx y=>aX2 x y λh' _=>rfl) (by kernel_rfl) H (by omega) (λl' h' hp hs hO u=>hk l' h' hp ?_ hO u)
 ·have:=x.allCell v (by simpa using hv);cases v<;>first|rfl|cases this
 ·refine hs.imp fun {a b} hab=>?_;rw[←aNT];exact hab
def aUh{h:PH}{m:Nat}{k:cD}(hk:∀bx h',h bx=none->Bx h' bx [.map (some m)]->dD h h'->k (.func (.func iS) #[] #[pT bx 0]) h'):
  aT PG lX #[.map (some m)] h k:=by
 apply kO.call;unfold kO;intro r hr;rw[cW];simp only[cE,reduceIte];exact hk r _ hr ⟨_,dL⟩ (cQ.new hr)
def aTQ{h:PH}{bx m:Nat}{L:List It}(hb:Bx h bx [.map (some m)])(hm:MAt h m L)(hL:L.length≤1000000){k:cD}
  (hk:∀v (l':List It) h' F,l'.Perm L->eM h' dE 5 v (l'.map It.cells) F->eK h F->dD h h'->k v h'):
  aT PG zY #[.func (.func iS) #[] #[pT bx 0]] h k:=by
 apply wM.call;unfold wM;exact aRr hb hm hL hk
end
section
open Go
def kl(a b:Ky):Prop:=a.1<b.1∨a.1=b.1∧a.2<b.2
instance (a b:Ky):Decidable (kl a b):=by unfold kl;exact inferInstance
def aIR(a:Ky):¬kl a a:=by unfold kl;omega
def aJ7{a b c:Ky}(h1:kl a b)(h2:kl b c):kl a c:=by unfold kl at *;omega
def aLm{a b:Ky}(h:kl a b):a≠b:=by rintro rfl;exact aIR _ h
def aH5{a b:Ky}(h:kl a b):¬kl b a:=λh2=>aIR _ (aJ7 h h2)
def aLt{a b:Ky}(h:a≠b):kl a b∨kl b a:=by
 have:¬(a.1=b.1∧a.2=b.2):=λe=>h (Prod.ext e.1 e.2);unfold kl;omega
def qF(L:List It):Prop:=L.Pairwise λa b=>kl a.key b.key
def jO(L:List It)(k:Ky):Option It:=L.find? λi=>decide (k=i.key)
def aAE(L:List It)(k:Ky):List It:=L.filter λi=>decide (i.key≠k)
def aB5(L:List It)(i:It):List It:=(L.filter λj=>decide (kl j.key i.key))++i::(L.filter λj=>decide (kl i.key j.key))
def qF.unique:∀{A B:List It},qF A->qF B->A.Perm B->A=B
 | [],B,_,_,h=>by rw[List.nil_perm.1 h]
 | a::A,[],_,_,h=>by have:=h.length_eq;simp at this
 | a::A,b::B,hA,hB,h=>by
  unfold qF at hA hB;rw[zL3] at hA hB;have e:a=b:=by
   have h1:a∈b::B:=h.mem_iff.1 (by simp);have h2:b∈a::A:=h.mem_iff.2 (by simp);rcases gU.1 h1 with h1|h1
   ·exact h1
   ·rcases gU.1 h2 with h2|h2
    ·exact h2.symm
    ·exact absurd (hA.1 b h2) (aH5 (hB.1 a h1))
  subst e;rw[qF.unique hA.2 hB.2 (h.cons_inv)]
def qF.filter{L:List It}(h:qF L)(p:It->Bool):qF (L.filter p):=List.Pairwise.filter p h
def qF.del{L:List It}(h:qF L)(k:Ky):qF (aAE L k):=h.filter _
def qF.ins{L:List It}(h:qF L)(i:It):qF (aB5 L i):=by
 unfold aB5 qF;rw[List.pairwise_append];refine⟨h.filter _,?_,?_⟩
 ·rw[zL3];exact⟨λx hx=>by simpa using(zL2.1 hx).2,h.filter _⟩
 ·intro x hx y hy;have h1:kl x.key i.key:=by simpa using(zL2.1 hx).2
  rcases gU.1 hy with rfl|hy
  ·exact h1
  ·exact aJ7 h1 (by simpa using(zL2.1 hy).2)
def qF.nodup{L:List It}(h:qF L):(L.map It.key).Nodup:=by
 unfold List.Nodup;rw[List.pairwise_map];exact h.imp λh=>aLm h
def aM5{α:Type}(p q:α->Bool)(hd:∀a,p a=true->q a=false):∀l:List α,(l.filter p++l.filter q).Perm (l.filter λa=>p a||q a)
 | []=>List.Perm.refl _
 | a::l=>by
  have ih:=aM5 p q hd l;cases hp:p a with
  | true=>
   have hq:=hd a hp;simp only[zLt,hp,hq,Bool.true_or,if_true,zLu,if_false,zLW];exact ih.cons a
  | false=>
   cases hq:q a with
   | true=>
    simp only[zLt,hp,hq,aKk,if_true,zLu,if_false];exact List.perm_middle.trans (ih.cons a)
   | false=>simp only[zLt,hp,hq,Bool.or_self,zLu,if_false];exact ih
def aOH(L:List It)(i:It):(aB5 L i).Perm (i::aAE L i.key):=by
 unfold aB5 aAE;refine List.perm_middle.trans (List.Perm.cons i ?_);refine(aM5 _ _ (λa ha=>?_) L).trans ?_
 ·simp only[decide_eq_true_eq] at ha;simp only[decide_eq_false_iff_not];exact aH5 ha
 ·have:(L.filter λa=>decide (kl a.key i.key)||decide (kl i.key a.key))=L.filter λj=>decide (j.key≠i.key):=by
   apply List.filter_congr;intro x _;rw[zLm];simp only[Bool.or_eq_true,decide_eq_true_eq];constructor
   ·rintro(h|h)
    ·exact aLm h
    ·exact(aLm h).symm
   ·exact aLt
  rw[this]
def aGi{L:List It}{k:Ky}{x:It}(h:jO L k=some x):x∈L∧x.key=k:=by
 unfold jO at h;exact⟨List.mem_of_find?_eq_some h,by simpa using(by simpa using List.find?_some h:k=x.key).symm⟩
def aGr{L:List It}{k:Ky}:jO L k=none↔∀x∈L,x.key≠k:=by
 unfold jO;rw[List.find?_eq_none];simp only[decide_eq_true_eq];exact⟨λh x hx e=>h x hx e.symm,λh x hx e=>h x hx e.symm⟩
def aYB{L:List It}(hn:(L.map It.key).Nodup){x:It}(hx:x∈L):jO L x.key=some x:=by
 cases h:jO L x.key with
 | none=>exact absurd rfl (aGr.1 h x hx)
 | some y=>obtain⟨h1,h2⟩:=aGi h;rw[aE3 (f:=It.key) hn h1 hx h2]
def aMt{l L:List It}(hp:l.Perm L)(hn:(L.map It.key).Nodup)(k:Ky):jO l k=jO L k:=by
 cases h:jO L k with
 | none=>exact aGr.2 λx hx=>aGr.1 h x (hp.mem_iff.1 hx)
 | some y=>
  obtain⟨h1,rfl⟩:=aGi h;exact aYB ((hp.map It.key).nodup_iff.2 hn) (hp.mem_iff.2 h1)
def aN0{L:List It}{k:Ky}(h:jO L k=none):aAE L k=L:=by
 unfold aAE;rw[aJf];intro x hx;simpa using aGr.1 h x hx
def aND{i:It}:∀{l:List It},(l.map It.key).Nodup->(∃x∈l,x.key=i.key)->(l.map λj=>if j.key=i.key then i else j).Perm (i::aAE l i.key)
 | [],_,⟨x,hx,_⟩=>by cases hx
 | y::l,hn,⟨x,hx,e⟩=>by
  simp only[iH,aKv] at hn;by_cases hy:y.key=i.key
  ·have hno:∀z∈l,z.key≠i.key:=λz hz e=>hn.1 (by rw[hy,←e];exact zL8 hz);have h1:(l.map λj=>if j.key=i.key then i else j)=l:=by
    rw[zL5 (g:=id) λz hz=>by simp[hno z hz],List.map_id]
   have h2:aAE (y::l) i.key=l:=by
    unfold aAE;simp only[zLt,hy,ne_eq,not_true,decide_false,zLu,if_false];rw[aJf];intro z hz;simpa using hno z hz
   rw[iH,if_pos hy,h1,h2]
  ·have hx':∃x∈l,x.key=i.key:=by
    rcases gU.1 hx with rfl|hx
    ·exact absurd e hy
    ·exact⟨x,hx,e⟩
   have ih:=aND hn.2 hx';have h2:aAE (y::l) i.key=y::aAE l i.key:=by
    unfold aAE;simp[zLt,hy]
   rw[iH,if_neg hy,h2];exact(ih.cons y).trans (List.Perm.swap i y _)
def aBI(L:List It)(room:Int)(i:It):Int:=if jO L i.key=none∧room≤L.length then 2 else 0
def vG(L:List It)(room:Int)(i:It):List It:=if jO L i.key=none∧room≤L.length then L else aB5 L i
def qI(L:List It)(room:Int)(n:Nt):Int:=
 if n.right=false then 1
 else if n.k=1 then(if (jO L n.p.key).isSome then 0 else aBI L room ⟨n.p,1⟩)
 else if n.k=2 then(if (jO L n.p.key).isSome then 0 else aBI L room ⟨n.p,2⟩)
 else 0
def oG(L:List It)(room:Int)(n:Nt):List It:=
 if n.right=false then L
 else if n.k=1 then(if (jO L n.p.key).isSome then L else vG L room ⟨n.p,1⟩)
 else if n.k=2 then(match jO L n.p.key with
  | some x=>aB5 L ⟨x.p,2⟩
  | none=>vG L room ⟨n.p,2⟩)
 else aAE L n.p.key
def mL(room:Int):List It->List Nt->Nat
 | _,[]=>0
 | L,n::ns=>if qI L room n=0 then mL room (oG L room n) ns+1 else 0
def qF.put{L:List It}(h:qF L)(room:Int)(i:It):qF (vG L room i):=by
 unfold vG;split
 ·exact h
 ·exact h.ins i
def qF.app{L:List It}(h:qF L)(room:Int)(n:Nt):qF (oG L room n):=by
 unfold oG;split
 ·exact h
 ·split
  ·split
   ·exact h
   ·exact h.put room _
  ·split
   ·split
    ·exact h.ins _
    ·exact h.put room _
   ·exact h.del _
def aGQ{L:List It}(hs:qF L)(i:It):(aB5 L i).length=if (jO L i.key).isSome then L.length else L.length+1:=by
 rw[(aOH L i).length_eq,qE];cases h:jO L i.key with
 | none=>rw[aN0 h];rfl
 | some x=>
  obtain⟨h1,h2⟩:=aGi h;have:=(aND (i:=i) hs.nodup ⟨x,h1,h2⟩).length_eq;rw[iV,qE] at this;simp only[aKs,if_true];omega
def aSl{L:List It}(hs:qF L){room:Int}(h0:L.length≤room)(i:It):(vG L room i).length≤room:=by
 unfold vG;split
 ·exact h0
 ·rename_i hn;rw[aGQ hs];split
  ·exact h0
  ·rename_i hx;have:jO L i.key=none:=by cases h:jO L i.key with
    | none=>rfl
    | some x=>rw[h] at hx;simp at hx
   have:¬room≤L.length:=λh=>hn ⟨this,h⟩;omega
def aSn(L:List It)(k:Ky):(aAE L k).length≤L.length:=aMz _ _
def aXR{L:List It}(hs:qF L){room:Int}(h0:L.length≤room)(n:Nt):(oG L room n).length≤room:=by
 unfold oG;split
 ·exact h0
 ·split
  ·split
   ·exact h0
   ·exact aSl hs h0 _
  ·split
   ·split
    ·rename_i x hx;rw[aGQ hs];obtain⟨h1,h2⟩:=aGi hx;have:jO L (⟨x.p,2⟩:It).key=some x:=by show jO L x.key=some x;rw[h2];exact hx
     rw[this];simpa using h0
    ·exact aSl hs h0 _
   ·have:=aSn L n.p.key;omega
def aNc:∀(bs:List (List Nt)) (H i n:Nat),bs≠[]->i≤(bs.head?.getD []).length->(oE bs H i n).2.2<((bs.drop ((oE bs H i n).2.1-H)).head?.getD []).length∨(oE bs H i n).2.1-H+1=bs.length
 | [],H,i,n,h0,_=>absurd rfl h0
 | b::bs,H,i,n,_,h=>by
  have h:i≤b.length:=h;rw[oE];by_cases c:i+min (b.length-i) n<b.length∨bs=[]
  ·rw[if_pos c];simp only[aKu,zLb,List.head?_cons,aIu];rcases c with c|rfl
   ·exact .inl c
   ·exact .inr rfl
  ·rw[if_neg c];have hne:bs≠[]:=λe=>c (.inr e);obtain⟨d,p1,-⟩:=aIM bs (H+1) 0 (n-min (b.length-i) n) hne (aFl _);have e1:(oE bs (H+1) 0 (n-min (b.length-i) n)).2.1-H=((oE bs (H+1) 0 (n-min (b.length-i) n)).2.1-(H+1))+1:=by omega
   simp only[e1,zLa,qE];rcases aNc bs (H+1) 0 (n-min (b.length-i) n) hne (aFl _) with h|h
   ·exact .inl h
   ·exact .inr (by omega)
structure aJ1(s:Ch)(q:Pl)(p:Nat):Prop where
 here:∃d i:Nat,q=⟨((s.first+d:Nat):Int),((i:Nat):Int)⟩∧d<s.blk.length∧i≤((s.blk.drop d).head?.getD []).length∧((s.blk.take d).flatten).length+i=p∧(i<((s.blk.drop d).head?.getD []).length∨d+1=s.blk.length)
def aJ1.at{s:Ch}{q:Pl}{p:Nat}(H:aJ1 s q p):aGe s q p:=by
 obtain⟨d,i,h1,h2,h3,h4,-⟩:=H.here;exact⟨⟨d,i,h1,h2,h3,h4⟩⟩
def aRU(bs:List (List Nt)){d e:Nat}(h:d<e)(he:e≤bs.length):((bs.take d).flatten).length+((bs.drop d).head?.getD []).length≤((bs.take e).flatten).length:=by
 have hd:d<bs.length:=by omega
 have e1:bs.take e=bs.take d++(bs.drop d).take (e-d):=by rw[←aLw d (bs.take e),aMS,aHZ (by omega),zLy]
 rw[e1,zLG,jM,aHG hd];obtain⟨k,hk⟩:∃k,e-d=k+1:=⟨e-d-1,by omega⟩;rw[hk,zLc,aDE,jM];simp only[List.head?_cons,aIu];omega
def aJ1.uniq{s:Ch}{q r:Pl}{p:Nat}(A:aJ1 s q p)(B:aJ1 s r p):q=r:=by
 obtain⟨d,i,rfl,h2,h3,h4,h5⟩:=A.here;obtain⟨e,j,rfl,g2,g3,g4,g5⟩:=B.here;have:d=e:=by
  rcases Nat.lt_trichotomy d e with h|h|h
  ·have:=aRU s.blk h (by omega);omega
  ·exact h
  ·have:=aRU s.blk h (by omega);omega
 subst this;have:i=j:=by omega
 rw[this]
def aGe.logC{s:Ch}(hf:s.first+(s.blk.length-1)=s.st.height){q:Pl}{p:Nat}(A:aGe s q p)(n:Nat):aJ1 s (mI s q (n:Int)).2 (p+((s.blk.flatten.drop p).take n).length):=by
 obtain⟨-,⟨d',i',h1,h2,h3,h4⟩,-⟩:=A.log hf n;obtain⟨d,i,rfl,hd,hi,hp⟩:=A.here;refine⟨⟨d',i',h1,h2,h3,h4,?_⟩⟩;have hdr:s.blk.drop d=(s.blk[d]?.getD [])::s.blk.drop (d+1):=by
  rw[aHG hd,lJ hd];rfl
 have hhd:(s.blk.drop d).head?.getD []=s.blk[d]?.getD []:=by rw[hdr];rfl
 have hne:s.blk.drop d≠[]:=by rw[hdr];simp
 have hl:mI s ⟨((s.first+d:Nat):Int),((i:Nat):Int)⟩ (n:Int)=((oE (s.blk.drop d) (s.first+d) i n).1,⟨((oE (s.blk.drop d) (s.first+d) i n).2.1:Nat),((oE (s.blk.drop d) (s.first+d) i n).2.2:Nat)⟩):=by
  unfold mI;rw[if_neg (by simp only;omega)];unfold aGl;simp only[rA,aJa];rw[aOT (by rw[←hhd];exact hi)]
 rw[hl] at h1;simp only[Pl.mk.injEq,Int.natCast_inj] at h1;obtain⟨g1,g2⟩:=h1;obtain⟨x,p1,-⟩:=aIM (s.blk.drop d) (s.first+d) i n hne hi;have hc:=aNc (s.blk.drop d) (s.first+d) i n hne hi;rw[g2,g1,aGf,pK] at hc;rw[show d+(s.first+d'-(s.first+d))=d' by omega] at hc;rcases hc with h|h
 ·exact .inl h
 ·exact .inr (by omega)
def aAD(room:Int)(L:List It)(ns:List Nt):List It:=ns.foldl (λL n=>oG L room n) L
def aRl(room:Int)(L:List It)(a b:List Nt):aAD room L (a++b)=aAD room (aAD room L a) b:=List.foldl_append
def aN1{room:Int}:∀{L:List It} (ns:List Nt),qF L->(L.length:Int)≤room->((aAD room L ns).length:Int)≤room
 | _,[],_,h=>h
 | _,n::ns,s,h=>aN1 ns (s.app room n) (aXR s h n)
def aQy{room:Int}:∀{L:List It} (ns:List Nt),mL room L ns≤ns.length
 | _,[]=>nC _
 | L,n::ns=>by
  unfold mL;split
  ·have:=aQy (room:=room) (L:=oG L room n) ns;simp only[qE];omega
  ·exact aFl _
def aOE{room:Int}:∀{L:List It} (ns:List Nt) (k:Nat),mL room L (ns.take k)=min k (mL room L ns)
 | _,[],k=>by simp[mL]
 | L,n::ns,0=>by simp[mL]
 | L,n::ns,k+1=>by
  rw[zLc];unfold mL;split
  ·rw[aOE ns k];omega
  ·omega
def aNu{room:Int}:∀{L:List It} (ns:List Nt) (k:Nat),k≤mL room L ns->mL room (aAD room L (ns.take k)) (ns.drop k)=mL room L ns-k
 | L,ns,0,_=>by simp[aAD]
 | L,[],k+1,h=>by simp[mL] at h
 | L,n::ns,k+1,h=>by
  have e:mL room L (n::ns)=if qI L room n=0 then mL room (oG L room n) ns+1 else 0:=rfl
  rw[zLc,zLa];show mL room (aAD room (oG L room n) (ns.take k)) (ns.drop k)=mL room L (n::ns)-(k+1);rw[e] at h ⊢;by_cases c:qI L room n=0
  ·rw[if_pos c] at h ⊢;rw[aNu ns k (by omega)];omega
  ·rw[if_neg c] at h;omega
def aVc{L:List It}{room:Int}(h:(L.length:Int)<room){n:Nt}(hr:n.right=true):qI L room n=0:=by
 unfold qI;have key:∀i,aBI L room i=0:=λi=>by
  unfold aBI;rw[if_neg (by omega)]
 rw[if_neg (by rw[hr];decide)];split
 ·split
  ·rfl
  ·exact key _
 ·split
  ·split
   ·rfl
   ·exact key _
  ·rfl
def aRN{L:List It}(s:qF L)(room:Int)(n:Nt):(oG L room n).length≤L.length+1:=by
 have key:∀i,(vG L room i).length≤L.length+1:=λi=>by
  unfold vG;split
  ·omega
  ·rw[aGQ s];split<;>omega
 unfold oG;split
 ·omega
 ·split
  ·split
   ·omega
   ·exact key _
  ·split
   ·split
    ·rw[aGQ s];split<;>omega
    ·exact key _
   ·have:=aSn L n.p.key;omega
def aRE{room:Int}:∀{L:List It} (ns:List Nt),qF L->((L.length+ns.length:Nat):Int)≤room->(∀n∈ns,n.right=true)->mL room L ns=ns.length
 | _,[],_,_,_=>rfl
 | L,n::ns,s,h,hr=>by
  simp only[qE] at h ⊢;unfold mL;rw[if_pos (aVc (by omega) (hr n (by simp)))];have:=aRN s room n;rw[aRE ns (s.app room n) (by omega) λx hx=>hr x (by simp[hx])]
def aQp{r r':Int}:∀{L:List It} (ns:List Nt),qF L->((L.length+ns.length:Nat):Int)≤r->((L.length+ns.length:Nat):Int)≤r'->aAD r L ns=aAD r' L ns
 | _,[],_,_,_=>rfl
 | L,n::ns,s,h,h'=>by
  simp only[qE] at h h';have e:oG L r n=oG L r' n:=by
   have key:∀i,vG L r i=vG L r' i:=λi=>by
    unfold vG;rw[if_neg (by omega),if_neg (by omega)]
   unfold oG;simp only[key]
  have:=aRN s r' n;show aAD r (oG L r n) ns=aAD r' (oG L r' n) ns;rw[e];exact aQp ns (s.app r' n) (by omega) (by omega)
def aVU{α:Type}(l:List α)(m:Nat):l.take (min m l.length)=l.take m:=by
 by_cases h:m≤l.length
 ·rw[aHZ h]
 ·rw[Nat.min_eq_right (by omega),lY (nC _),lY (by omega)]
def aDo(s:Ch)(q:Pl)(most:Nat)(room:Int)(L:List It):List Nt×Pl:=
 if mL room L (mI s q (most:Int)).1<(mI s q (most:Int)).1.length then mI s q ((mL room L (mI s q (most:Int)).1:Nat):Int) else mI s q (most:Int)
def aAS(s:Ch)(p most:Nat)(room:Int)(L:List It):Nat:=min most (mL room L (s.blk.flatten.drop p))
def aXU{s:Ch}(hf:s.first+(s.blk.length-1)=s.st.height){q:Pl}{p:Nat}(A:aGe s q p)(most:Nat)(room:Int)(L:List It):
  (aDo s q most room L).1=(s.blk.flatten.drop p).take (aAS s p most room L)∧((s.blk.flatten.drop p).take (aAS s p most room L)).length=aAS s p most room L∧aJ1 s (aDo s q most room L).2 (p+aAS s p most room L)∧mL room L (aDo s q most room L).1=aAS s p most room L:=by
 have h1:=(A.log hf most).1;have hfit:=aQy (room:=room) (L:=L) (s.blk.flatten.drop p);have hft:mL room L ((s.blk.flatten.drop p).take most)=aAS s p most room L:=aOE _ _;have hlen:((s.blk.flatten.drop p).take (aAS s p most room L)).length=aAS s p most room L:=by
  rw[nI];unfold aAS;omega
 have e:(aDo s q most room L).1=(s.blk.flatten.drop p).take (aAS s p most room L)∧aJ1 s (aDo s q most room L).2 (p+aAS s p most room L):=by
  unfold aDo;rw[h1,hft];split
  ·have h2:=(A.log hf (aAS s p most room L)).1;have h3:=A.logC hf (aAS s p most room L);rw[hlen] at h3;exact⟨h2,h3⟩
  ·rename_i hc;have h3:=A.logC hf most;rw[nI] at hc;have hn:aAS s p most room L=min most (s.blk.flatten.drop p).length:=by unfold aAS at hc ⊢;omega
   rw[nI,←hn] at h3;refine⟨?_,h3⟩;rw[h1,hn,aVU]
 refine⟨e.1,hlen,e.2,?_⟩;rw[e.1,aOE];unfold aAS;omega
def aMC{α:Type}(l:List α)(p n:Nat):l.take p++(l.drop p).take n=l.take (p+n):=List.take_add.symm
def aGk(room:Int)(log:List Nt)(p:Nat):List It:=aAD room [] (log.take p)
def aWm(room:Int)(log:List Nt)(p n:Nat):aAD room (aGk room log p) ((log.drop p).take n)=aGk room log (p+n):=by
 unfold aGk;rw[←aRl,aMC]
def aV9{room:Int}{log:List Nt}{p:Nat}(h:p≤mL room [] log):mL room (aGk room log p) (log.drop p)=mL room [] log-p:=aNu log p h
def wc(a b:Ch):List Value:=[.int .i64 ((a.tot:Nat):Int),.int .i64 ((b.tot:Nat):Int)]
structure rY(s:Ch):Prop where
 blk:∀b∈s.blk,∀n∈b,n.right=true
 nts:∀n∈s.nts,n.right=true
def aNo:∀{l:List (Int×Bool)},(∀x∈l,x.1≠0)->aAH l=0->∀x∈l,x.2=true
 | [],_,_,x,hx=>by cases hx
 | y::l,hz,h,x,hx=>by
  rw[aAH] at h;cases hy:y.2 with
  | true=>
   rw[hy,if_pos rfl] at h;rcases gU.1 hx with rfl|hx
   ·exact hy
   ·exact aNo (λz hz'=>hz z (by simp[hz'])) h x hx
  | false=>
   rw[hy,if_neg (by decide)] at h;exact absurd h (hz y (by simp))
def aMx{s:Ch}{l:List (Int×Bool)}(hz:∀x∈l,x.1≠0)(h:rG s l=0):(∀x∈l,x.2=true)∧s.st.height≠18446744073709551615:=by
 unfold rG at h;by_cases c:s.st.height=18446744073709551615
 ·rw[if_pos c] at h;cases h
 ·rw[if_neg c] at h;exact⟨aNo hz h,c⟩
def aU8{s:Ch}{d:Tx}{t:Nat}(h:qR s d t=0):s.seq<18446744073709551615∧(kE s d t).right=true∧aJz s.cl<(t:Int)∧s.st.now.length+1≤4096∧s.st.height≠18446744073709551615:=by
 obtain⟨h1,h2⟩:=aMx (by simp) h;simp only[gU,lH,or_false,forall_eq_or_imp,forall_eq,decide_eq_true_eq] at h1;exact⟨h1.1,h1.2.1,h1.2.2.1,h1.2.2.2,h2⟩
def aVL{s:Ch}{p:Pk}{pf:Tx}{x:Int}(h:rG s (uO s p pf x)=0):p.right=true∧p.f=1-s.id∧IntKind.u64.wrap ((s.st.height:Int)+1)<p.t∧(iJ s.st.now (iZ 114 p.s.toNat)).isSome=false∧(mC s.cl x).isSome=true∧aEG (wR s.cl x) pf (iZ 99 p.s.toNat) (rJ p)=true∧s.st.height≠18446744073709551615:=by
 obtain⟨h1,h2⟩:=aMx (by unfold uO;simp) h;unfold uO at h1;simp only[gU,lH,or_false,forall_eq_or_imp,forall_eq,yH,beq_iff_eq,decide_eq_true_eq,Bool.not_eq_true'] at h1;obtain⟨⟨a,b⟩,c,d,e,f,-⟩:=h1;exact⟨a,b,c,d,e,f,h2⟩
def aNm{s:Ch}{p:Pk}{l:List (Int×Bool)}(hz:∀x∈l,x.1≠0)(h:jP s p l=0):p.right=true∧p.f=s.id∧yF s p=true∧(∀x∈l,x.2=true)∧s.st.height≠18446744073709551615:=by
 obtain⟨h1,h2⟩:=aMx (by
  intro x hx;simp only[zLW,sK,gU] at hx;rcases hx with rfl|rfl|hx
  ·show(1:Int)≠0;decide
  ·show(3:Int)≠0;decide
  ·exact hz x hx) h
 have a:=h1 (1,p.right&&(p.f==s.id)) (by simp);have b:=h1 (3,yF s p) (by simp);simp only[yH,beq_iff_eq] at a;exact⟨a.1,a.2,b,λx hx=>h1 x (by simp[hx]),h2⟩
def rY.add{s:Ch}(H:rY s){n:Nt}(h:n.right=true):rY (s.add n):=⟨H.blk,λm hm=>by
 rcases kB.1 hm with hm|hm
 ·exact H.nts m hm
 ·simp only[gB] at hm;subst hm;exact h⟩
def rY.com{s:Ch}(H:rY s):rY s.committed:=by
 unfold Ch.committed;split
 ·refine⟨λb hb=>?_,λn hn=>by cases hn⟩;rcases kB.1 hb with hb|hb
  ·exact H.blk b hb
  ·simp only[gB] at hb;subst hb;exact H.nts
 ·exact H
def rY.new{id:Int}{n seq:Nat}:rY (Ch.new id n seq):=by
 refine⟨λb hb n hn=>?_,λn hn=>by cases hn⟩;simp only[Ch.new,gB] at hb;subst hb;cases hn
def aLh{k:Int}{p:Pk}(h1:1≤k)(h2:k≤4)(h:p.right=true):Nt.right ⟨k,p⟩=true:=by
 unfold Nt.right;simp[h1,h2,h]
def rY.doP{c:Ch}(H:rY c)(o:Ch)(x:kD):rY (nP c o x).1:=by
 unfold nP;by_cases k0:x.kind=0
 ·rw[if_pos k0];split
  ·rename_i e;exact rY.add (s:=(c.put _ _).next) ⟨H.blk,H.nts⟩ (aLh (by decide) (by decide) (aU8 e).2.1)
  ·exact H
 rw[if_neg k0];by_cases k1:x.kind=1
 ·rw[if_pos k1];split
  ·exact H
  ·exact⟨H.blk,H.nts⟩
 rw[if_neg k1];by_cases k2:x.kind=2
 ·rw[if_pos k2];split
  ·rename_i e;exact rY.add (s:=(c.put _ _).put _ _) ⟨H.blk,H.nts⟩ (aLh (by decide) (by decide) (aVL e).1)
  ·exact H
 rw[if_neg k2];by_cases k3:x.kind=3
 ·rw[if_pos k3];split
  ·rename_i e;exact rY.add (s:=c.del _) ⟨H.blk,H.nts⟩ (aLh (by decide) (by decide) (aNm (by unfold aBO;simp) e).1)
  ·exact H
 rw[if_neg k3];by_cases k4:x.kind=4
 ·rw[if_pos k4];split
  ·rename_i e;exact rY.add (s:=c.del _) ⟨H.blk,H.nts⟩ (aLh (by decide) (by decide) (aNm (by unfold wS;simp) e).1)
  ·exact H
 rw[if_neg k4];by_cases k5:x.kind=5
 ·rw[if_pos k5];exact H.com
 ·rw[if_neg k5];exact H
def rY.step{a b:Ch}(A:rY a)(B:rY b)(x:kD):rY (kK a b x).1.1∧rY (kK a b x).1.2:=by
 unfold kK;split
 ·exact⟨A,B.doP a x⟩
 ·exact⟨A.doP b x,B⟩
def aTw{h:PH}{x y:Operand}(m:Nt):cG PG h (jT .neq dA x y (.agg m.cells.toArray) (.agg m.cells.toArray))=some (.bool false):=by
 have e:cG PG h (Op.equalIn (9999+1) dA (.agg m.cells.toArray) (.agg m.cells.toArray))=some ((m.k==m.k)&&(decide (m.p=m.p)&&true)):=by
  refine aB9 dA.und (by kernel_rfl) (λf=>match f.offset with|0=>m.k==m.k|_=>decide (m.p=m.p)) ?_;intro f hf;simp only[gU,lH,or_false] at hf;rcases hf with rfl|rfl
  ·exact⟨by decide,_,_,jX bR.und rfl rfl,jX bR.und rfl rfl,xL bR.und⟩
  ·exact⟨by decide,_,_,aL0 aR.und rfl aR.info aR.size,aL0 aR.und rfl aR.info aR.size,Pk.eqD (d:=9997) m.p m.p⟩
 have:=aMn (x:=x) (y:=y) (by kernel_rfl) e;rw[show(!((m.k==m.k)&&(decide (m.p=m.p)&&true)))=false by simp] at this;exact this
def aS9{h:PH}{v w:Value}{l:List Nt}(S:fZ h 5 v (l.map Nt.cells))(S':fZ h 5 w (l.map Nt.cells))(hl:l.length≤1000000){k:cD}(hk:k (.bool true) h):aT PG aC5 #[v,w] h k:=by
 apply tM.call;unfold tM;have l1:=S.len (t':=bR) cU.und;have l2:=S'.len (t':=bR) cU.und;rw[iV] at l1 l2;simp only[l1,l2,kW,cE,reduceIte,cZ,Nat.reduceAdd];refine⟨λvs h'=>∃i:Nat,i≤l.length∧vs=[v,w,.int .i64 (i:Int)]∧h'=h,gQ l.length 2,⟨0,by omega,rfl,rfl⟩,?_⟩;rintro ρ h' ⟨i,hi,hvs,rfl⟩;simp only[iH,jA,lN,and_true] at hvs;obtain⟨v0,v1,v2⟩:=hvs;unfold aGw;rw[v0,v1,v2];by_cases hlt:i<l.length
 ·have g:((i:Int)<(l.length:Int))=True:=eq_true (by omega);have gi:=qN (i:=i) (by omega);have hr:(l.map Nt.cells)[((i:Nat):Int).toNat]? =some l[i].cells:=by rw[rA,wA,lJ hlt];rfl
  obtain⟨p,hp1,hp2⟩:=S.loadAgg (t:=cU) (k:=.i64) (j:=((i:Nat):Int)) cU.und dA.info dA.size dA.und rfl (by omega) hr;obtain⟨q,hq1,hq2⟩:=S'.loadAgg (t:=cU) (k:=.i64) (j:=((i:Nat):Int)) cU.und dA.info dA.size dA.und rfl (by omega) hr;simp only[l1,g,hp1,hp2,hq1,hq2,aTw,gi,cE,reduceIte,cZ,Nat.reduceAdd];exact⟨⟨i+1,by omega,rfl,by trivial⟩,by simp[gQ,v2];omega⟩
 ·have g:((i:Int)<(l.length:Int))=False:=eq_false (by omega);simp only[l1,g,cE,reduceIte,cZ,Nat.reduceAdd];exact hk
end
section
open Go Bld
def aBw:({data:=#[]}:ByteArray)=tx []:=rfl
def aJS(p:Pr)(i n:Nat)(path:List Tx):(wB p i n path).length=32:=by
 rw[wB];split
 ·split<;>rfl
 ·rfl
def Lf.boxC{h:PH}{r:Nat}{f:Lf}{fv:Value}(B:Bx h r (f.cells fv)):cG PG h (loadAt cB (pT r 0))=some (f.val fv):=cB.agg B (by show 0+5≤5;decide)
def Lf.boxP{h:PH}{r:Nat}{f:Lf}{fv:Value}(B:Bx h r (f.cells fv)):cG PG h (loadAt cM (pT r 2))=some f.p.val:=cM.agg B (by show 2+2≤5;decide)
def aRZ:∀(d:Nat) {h:PH} {f:Lf} {fv:Value} {i n:Nat} {b m:Nat} {A:List Tx} {K:List Nat},n≤2^d->1≤n->n≤4096->i<n->gY i n≤f.path.length->(∀x∈f.path,x.length=32)->f.p.k.length+f.p.v.length≤10000000->Bk b m A K h->fZ h 1 fv (f.path.map jJ)->Off b m fv->∀{k:cD},
  (∀h',Bk b m (upA f.p i n f.path++A) K h'->cQ [b,m] h h'->k (.string (tx (wB f.p i n f.path))) h')->aT PG yR #[pT b 0,f.val fv,.int .i64 (i:Int),.int .i64 (n:Int)] h k
 | d,h,f,fv,i,n,b,m,A,K,hd,h1,hn,hi,hdp,hall,hsm,H,S,hv,k,hk=>by
  apply zD.call;unfold zD;intro r1 hr1
  try rw[cW]
  have u1:dD h (h.set r1 (.cells (Value.cells (f.val fv)) cB)):=cQ.new hr1;have B1:Bx (h.set r1 (.cells (Value.cells (f.val fv)) cB)) r1 (f.cells fv):=Bx.new;generalize h.set r1 (.cells (Value.cells (f.val fv)) cB)=h1' at *;have H1:=H.ext u1;have S1:=S.ext u1;by_cases e1:n=1
  ·have q:((n:Int)==1)=true:=by simp[e1]
   have hA:upA f.p i n f.path=[aJK f.p]:=by rw[upA,dif_neg (by omega)]
   have hD:wB f.p i n f.path=aGG f.p:=by rw[wB,dif_neg (by omega)]
   simp only[iG,q,cB.f2,fQ,Lf.boxP B1,cE,reduceIte,cZ,Nat.reduceAdd];refine aWB H1 hsm λh2 B2 u2=>?_;rw[hA,hD] at hk;exact hk h2 B2 (u1.upd.trans u2)
  ·have q:((n:Int)==1)=false:=by simp;omega
   have h2:2≤n:=by omega
   obtain⟨m1,m2⟩:=mH h2;cases d with
   | zero=>simp at hd;omega
   | succ d=>
    obtain⟨a,b'⟩:=aFM h2 hd;have lp:cG PG h1' (loadAt cP (pT r1 4))=some fv:=by rw[cP.load,B1.cell];rfl
    simp only[iG,q,cE,reduceIte,cZ,Nat.reduceAdd];refine aKC h2 (by omega) ?_;simp only[cB.f3,fQ,lp,cE,reduceIte,cZ,Nat.reduceAdd];have hpos:1≤gY i n:=by
     rw[gY,dif_pos h2];split<;>omega
    have hdl:=aKO 12 i n (by omega);refine aKZ 12 (by omega) h1 hn hi ?_;refine⟨lp,?_⟩;have w1:IntKind.i64.wrap (((gY i n:Nat):Int)-1)=((gY i n-1:Nat):Int):=by rw[fH (by omega) (by omega)];omega
    obtain⟨x,hx⟩:∃x,f.path[gY i n-1]? =some x:=⟨_,lJ (by omega)⟩;obtain⟨pa,ha1,ha2⟩:=S1.st hx;have hgx:f.path.getD (gY i n-1) []=x:=by rw[aBM,hx];rfl
    have hxl:=hall x (tA hx);by_cases c:i<eO n
    ·have g:((i:Int)<((eO n:Nat):Int))=True:=eq_true (by omega);have he:gY i n=1+gY i (eO n):=by rw[gY,dif_pos h2,if_pos c]
     have hA:upA f.p i n f.path=aFG (wB f.p i (eO n) f.path) x::upA f.p i (eO n) f.path:=by rw[upA,dif_pos h2,if_pos c,hgx]
     have hD:wB f.p i n f.path=aA5 (wB f.p i (eO n) f.path) x:=by rw[wB,dif_pos h2,if_pos c,hgx]
     simp only[w1,ha1,ha2,g,Lf.boxC B1,cE,reduceIte,cZ,Nat.reduceAdd];refine aRZ d a (by omega) (by omega) c (by omega) hall hsm H1 S1 hv λh3 B3 u3=>?_;have s1:dH PG (binOp .add bT (.string (tx [1])) (.string (tx (wB f.p i (eO n) f.path))))=some (.string (tx ([1]++wB f.p i (eO n) f.path))):=mG (by rw[aJS];decide);have s2:dH PG (binOp .add bT (.string (tx ([1]++wB f.p i (eO n) f.path))) (.string (tx x)))=some (.string (tx (aFG (wB f.p i (eO n) f.path) x))):=by
      rw[mG (by rw[jM,aJS,hxl];decide)];rfl
     simp only[tx1,s1,s2,cE,reduceIte,cZ,Nat.reduceAdd];refine aNK B3 (by simp[aFG,aJS,hxl]) λh4 B4 u4=>?_;rw[hA,hD,aNv] at hk;exact hk h4 B4 ((u1.upd.trans u3).trans u4)
    ·have g:((i:Int)<((eO n:Nat):Int))=False:=eq_false (by omega);have he:gY i n=1+gY (i-eO n) (n-eO n):=by rw[gY,dif_pos h2,if_neg c]
     have hA:upA f.p i n f.path=aFG x (wB f.p (i-eO n) (n-eO n) f.path)::upA f.p (i-eO n) (n-eO n) f.path:=by rw[upA,dif_pos h2,if_neg c,hgx]
     have hD:wB f.p i n f.path=aA5 x (wB f.p (i-eO n) (n-eO n) f.path):=by rw[wB,dif_pos h2,if_neg c,hgx]
     have w3:IntKind.i64.wrap ((i:Int)-((eO n:Nat):Int))=((i-eO n:Nat):Int):=by rw[fH (by omega) (by omega)];omega
     have w4:IntKind.i64.wrap ((n:Int)-((eO n:Nat):Int))=((n-eO n:Nat):Int):=by rw[fH (by omega) (by omega)];omega
     have s1:dH PG (binOp .add bT (.string (tx [1])) (.string (tx x)))=some (.string (tx ([1]++x))):=mG (by rw[hxl];decide);simp only[w1,ha1,ha2,g,w3,w4,tx1,s1,Lf.boxC B1,cE,reduceIte,cZ,Nat.reduceAdd];refine aRZ d b' (by omega) (by omega) (by omega) (by omega) hall hsm H1 S1 hv λh3 B3 u3=>?_;have s2:dH PG (binOp .add bT (.string (tx ([1]++x))) (.string (tx (wB f.p (i-eO n) (n-eO n) f.path))))=some (.string (tx (aFG x (wB f.p (i-eO n) (n-eO n) f.path)))):=by
      rw[mG (by rw[jM,aJS,hxl];decide)];rfl
     simp only[s2,cE,reduceIte,cZ,Nat.reduceAdd];refine aNK B3 (by simp[aFG,aJS,hxl]) λh4 B4 u4=>?_;rw[hA,hD,aNv] at hk;exact hk h4 B4 ((u1.upd.trans u3).trans u4)
def aUP{h:PH}{f:Lf}{fv:Value}{b m:Nat}{A:List Tx}{K:List Nat}(H:Bk b m A K h)(S:fZ h 1 fv (f.path.map jJ))(hv:Off b m fv)(hpl:f.path.length≤1000000)(hsm:f.p.k.length+f.p.v.length≤10000000){k:cD}
  (hbad:¬OkC f->∀h',Bk b m A K h'->cQ [b,m] h h'->k (.tuple #[.string (tx []),.bool false]) h')
  (hk:OkC f->∀h',Bk b m (aMa f++A) K h'->cQ [b,m] h h'->k (.tuple #[.string (tx (aJ4 f.n.toNat (aPf f))),.bool true]) h'):
  aT PG aC1 #[pT b 0,f.val fv] h k:=by
 apply tI.call;unfold tI;intro r1 hr1
 try rw[cW]
 have u1:dD h (h.set r1 (.cells (Value.cells (f.val fv)) cB)):=cQ.new hr1;have B1:Bx (h.set r1 (.cells (Value.cells (f.val fv)) cB)) r1 (f.cells fv):=Bx.new;generalize h.set r1 (.cells (Value.cells (f.val fv)) cB)=h1 at *;have H1:=H.ext u1;have S1:=S.ext u1;have c0:dB h1 ⟨r1,0,none⟩=some (.int .i64 f.i):=B1.cell 0;have c1:dB h1 ⟨r1,1,none⟩=some (.int .i64 f.n):=B1.cell 1;have c4:dB h1 ⟨r1,4,none⟩=some fv:=B1.cell 4;have lp:=aOb S1;have no:¬OkC f->k (.tuple #[.string (tx []),.bool false]) h1:=λhn=>hbad hn h1 H1 u1.upd;by_cases d1:f.n<1
 ·have g1:=eq_true d1;simp only[cB.f1,fQ,bR.load,c1,g1,aBw,cE,reduceIte,cZ,Nat.reduceAdd];exact⟨λh=>by simp at h,no λO=>by have:=O.n1;omega⟩
 have g1:=eq_false d1;by_cases d2:4096<f.n
 ·have g2:=eq_true d2;simp only[cB.f1,fQ,bR.load,c1,g1,g2,aBw,cE,reduceIte,cZ,Nat.reduceAdd];exact⟨λh=>by simp at h,no λO=>by have:=O.n2;omega⟩
 have g2:=eq_false d2;by_cases d3:f.i<0
 ·have g3:=eq_true d3;simp only[cB.f0,cB.f1,fQ,bR.load,c0,c1,g1,g2,g3,aBw,cE,reduceIte,cZ,Nat.reduceAdd];exact⟨λh=>by simp at h,no λO=>by have:=O.i1;omega⟩
 have g3:=eq_false d3;by_cases d4:f.n≤f.i
 ·have g4:=eq_true d4;simp only[cB.f0,cB.f1,fQ,bR.load,c0,c1,g1,g2,g3,g4,aBw,cE,reduceIte,cZ,Nat.reduceAdd];exact⟨λh=>by simp at h,no λO=>by have:=O.i2;omega⟩
 have g4:=eq_false d4;obtain⟨i,hi⟩:∃i:Nat,f.i=(i:Int):=⟨f.i.toNat,by omega⟩;obtain⟨n,hn⟩:∃n:Nat,f.n=(n:Int):=⟨f.n.toNat,by omega⟩;have lpath:cG PG h1 (loadAt cP (pT r1 4))=some fv:=by rw[cP.load];exact c4
 simp only[cB.f0,cB.f1,cB.f3,fQ,bR.load,lpath,c0,c1,g1,g2,g3,g4,lp,cE,reduceIte,cZ,Nat.reduceAdd];rw[hi,hn];refine aKZ 12 (by omega) (by omega) (by omega) (by omega) ?_;refine⟨λ_=>lpath,?_⟩;by_cases d5:f.path.length=gY i n
 case neg=>
  have g5:((f.path.length:Int) !=((gY i n:Nat):Int))=true:=by simp;omega
  simp only[kW,g5,aBw,cE,reduceIte,cZ,Nat.reduceAdd];exact no λO=>d5 (by have:=O.len;rw[hi,hn] at this;exact this)
 have g5:((f.path.length:Int) !=((gY i n:Nat):Int))=false:=by simp;omega
 simp only[kW,g5,cE,reduceIte,cZ,Nat.reduceAdd];refine⟨λvs h'=>∃j:Nat,j≤f.path.length∧vs=[pT b 0,pT r1 0,.int .i64 (j:Int)]∧h'=h1∧∀x∈f.path.take j,x.length=32,gQ f.path.length 2,⟨0,by omega,rfl,rfl,λx hx=>by simp at hx⟩,?_⟩;rintro ρ h' ⟨j,hj,hvs,rfl,hal⟩;simp only[iH,jA,lN,and_true] at hvs;obtain⟨v0,v1,v2⟩:=hvs;unfold aFz;rw[v0,v1,v2];by_cases hlt:j<f.path.length
 ·have g:((j:Int)<(f.path.length:Int))=True:=eq_true (by omega);have gj:=qN (i:=j) (by omega);obtain⟨x,hx⟩:∃x,f.path[j]? =some x:=⟨_,lJ hlt⟩;obtain⟨pa,ha1,ha2⟩:=S1.st hx;have lx:dH PG (Builtin.len_ #[bT] bR #[.string (tx x)])=some (.int .i64 (x.length:Int)):=by rw[lS bT.und,iF]
  by_cases hx32:x.length=32
  ·have q:((x.length:Int) !=32)=false:=by simp[hx32]
   simp only[cB.f3,fQ,lpath,lp,g,ha1,ha2,lx,kW,q,gj,cE,reduceIte,cZ,Nat.reduceAdd];refine⟨⟨j+1,by omega,rfl,by trivial,λy hy=>?_⟩,by simp[gQ,v2];omega⟩;rw[zLU,hx] at hy;rcases kB.1 hy with hy|hy
   ·exact hal y hy
   ·simp only[Option.toList_some,gB] at hy;rw[hy];exact hx32
  ·have q:((x.length:Int) !=32)=true:=by simp;omega
   simp only[cB.f3,fQ,lpath,lp,g,ha1,ha2,lx,kW,q,aBw,cE,reduceIte,cZ,Nat.reduceAdd];exact no λO=>hx32 (O.all x (tA hx))
 ·have g:((j:Int)<(f.path.length:Int))=False:=eq_false (by omega);rw[lY (by omega)] at hal;have O:OkC f:=⟨by omega,by omega,by omega,by omega,by rw[hi,hn];exact d5,hal⟩;simp only[cB.f0,cB.f1,cB.f3,fQ,bR.load,lpath,lp,g,c0,c1,Lf.boxC B1,cE,reduceIte,cZ,Nat.reduceAdd];rw[hi,hn];refine aRZ 12 (by omega) (by omega) (by omega) (by omega) (by omega) hal hsm H1 S1 hv λh2 B2 u2=>?_;have k1b:=H1.known b (by simp);have hr1b:r1∉[b,m]:=λhm'=>by
   simp only[gU,lH,or_false] at hm';rcases hm' with rfl|rfl
   ·exact H.known _ (by simp) hr1
   ·exact H.known _ (by simp) hr1
  have B1':=B1.upd u2 hr1b;have c1':dB h2 ⟨r1,1,none⟩=some (.int .i64 (n:Int)):=by rw[←hn];exact B1'.cell 1
  refine⟨c1',?_⟩;refine aXo B2 (by omega) (by rw[aJS];decide) λh3 B3 u3=>?_;have hk:=hk O;unfold aMa aPf at hk;rw[hi,hn] at hk;exact hk h3 B3 ((u1.upd.trans u2).trans u3)
def aQA{h:PH}{v:Value}{l:List Pr}(S:fZ h 2 v (l.map Pr.cells))(hl:l.length≤1000000)(key:Tx){k:cD}(hk:k (.int .i64 ((hQ l key:Nat):Int)) h):aT PG zV #[v,.string (tx key)] h k:=by
 apply aBc.call;unfold aBc;have lv:=S.len (t':=bR) cJ.und;rw[iV] at lv;refine⟨λvs h'=>∃j:Nat,j≤l.length∧vs=[v,.string (tx key),.int .i64 ((hQ (l.take j) key:Nat):Int),.int .i64 (j:Int)]∧h'=h,gQ l.length 3,⟨0,by omega,rfl,rfl⟩,?_⟩;rintro ρ h' ⟨j,hj,hvs,rfl⟩;simp only[iH,jA,lN,and_true] at hvs;obtain⟨v0,v1,v2,v3⟩:=hvs;unfold aG2 aCD aGA;rw[v0,v1,v2,v3];by_cases hlt:j<l.length
 ·have g:((j:Int)<(l.length:Int))=True:=eq_true (by omega);have gj:=qN (i:=j) (by omega);obtain⟨p,hp⟩:∃p,l[j]? =some p:=⟨_,lJ hlt⟩;obtain⟨x,o,e2,e3,-,-⟩:=S.pair hp;have hpl:hQ (l.take j) key≤j:=zLE (aMz _ _) (by rw[nI];omega);have gp:IntKind.i64.wrap (((hQ (l.take j) key:Nat):Int)+1)=((hQ (l.take j) key+1:Nat):Int):=by rw[fH (by omega) (by omega)];omega
  have et:l.take (j+1)=l.take j++[p]:=by rw[zLU,hp];rfl
  by_cases c:p.k<key
  ·simp only[lv,g,e2,cM.f0,bT.load,e3,yM,c,gp,gj,cE,reduceIte,cZ,Nat.reduceAdd];refine⟨⟨j+1,by omega,?_,by trivial⟩,by simp[gQ,v3];omega⟩;rw[et];unfold hQ;rw[aNF];simp[c]
  ·simp only[lv,g,e2,cM.f0,bT.load,e3,yM,c,gj,cE,reduceIte,cZ,Nat.reduceAdd];refine⟨⟨j+1,by omega,?_,by trivial⟩,by simp[gQ,v3];omega⟩;rw[et];unfold hQ;rw[aNF];simp[c]
 ·have g:((j:Int)<(l.length:Int))=False:=eq_false (by omega);rw[lY (by omega)];simp only[lv,g,cE,reduceIte,cZ,Nat.reduceAdd];exact hk
def aLR{h:PH}{v:Value}{l:List Pr}{j b m:Nat}{A:List Tx}{K:List Nat}(H:Bk b m A K h)(S:fZ h 2 v (l.map Pr.cells))(hv:Off b m v)(hs:aAv l)(hl:l.length≤4096)(hj:j<l.length){k:cD}
  (hk:∀h' pv F,Bk b m A K h'->eM h' bT 1 pv ((kQ l j).path.map jJ) F->eK h F->cQ [b,m] h h'->k ((kQ l j).val pv) h'):
  aT PG rI #[pT b 0,v,.int .i64 (j:Int)] h k:=by
 apply vT.call;unfold vT;intro r1 hr1
 try rw[cW]
 have hr1b:r1∉[b,m]:=λhm'=>by
  simp only[gU,lH,or_false] at hm';rcases hm' with rfl|rfl
  ·exact H.known _ (by simp) hr1
  ·exact H.known _ (by simp) hr1
 have u1:dD h (h.set r1 (.cells (dV PG cB) cB)):=cQ.new hr1;have Z1:=cB.zbox (h:=h) (r:=r1);generalize h.set r1 (.cells (dV PG cB) cB)=h1 at *;have lv:=S.len (t':=bR) cJ.und;rw[iV] at lv;obtain⟨p,hp⟩:∃p,l[j]? =some p:=⟨_,lJ hj⟩;obtain⟨x,o,e2,-,-,e3⟩:=(S.ext u1).pair hp;simp only[lv,e2,e3,cE,reduceIte,cZ,Nat.reduceAdd];refine aNy l.length (nC _) hj (by omega) (H.ext u1) (S.ext u1) hv hs λh2 pv F B2 O2 f2 u2=>?_;have e3':cG PG h2 (loadAt cM (pT x o))=some p.val:=by
  obtain⟨x',o',e2',-,-,e3'⟩:=((S.ext u1).upd u2 hv).pair hp;have e:(some (pT x o))=some (pT x' o'):=e2.symm.trans e2';simp only[zL9,Value.pointer.injEq,Addr.mk.injEq,and_true] at e;rw[e.1,e.2];exact e3'
 refine⟨e3',?_⟩;obtain⟨pa,pc,epv,-⟩:=O2.slR.here;have elf:kQ l j=⟨(j:Int),(l.length:Int),p,oT l j⟩:=aMk hp;have hb:dH PG (build cB #[(0,.int .i64 (j:Int)),(1,.int .i64 (l.length:Int)),(2,p.val),(3,pv)])=some ((kQ l j).val pv):=by
  rw[epv,elf];exact aXK _ _ _ _ _ _
 have F1:r1∉F:=λhm=>Z1.known (f2 _ hm);have Z2:=Z1.upd u2 hr1b;simp only[hb,cE,reduceIte,cZ,Nat.reduceAdd];refine cB.put Z2 (o:=0) (vs:=(kQ l j).cells pv) rfl (by show 0+5≤5;decide) (Lf.isC _ O2.slR.isc) λh3 B3 u3=>?_;have B3:Bx h3 r1 ((kQ l j).cells pv):=B3;simp only[Lf.boxC B3,cE,reduceIte,cZ,Nat.reduceAdd];refine hk h3 pv F (B2.upd u3 (λx hx hm=>?_)) ?_ (λx hx=>u1.none (f2 x hx)) ((u1.upd.trans u2).then u3 (λx hx=>?_))
 ·simp only[gB] at hm;subst hm;exact H.known _ hx hr1
 ·rw[elf];exact O2.upd u3 (λx hx=>by simp only[gB];rintro rfl;exact F1 hx)
 ·simp only[gB] at hx;subst hx;exact .inr hr1
def oB.push{h0 h1 h2:PH}{v:Value}{fs:List Lf}{b m:Nat}(H:oB h0 h1 v fs)(kb:h0 b≠none)(km:h0 m≠none)(u:cQ [b,m] h1 h2)(n01:∀x,h1 x=none->h0 x=none)(n02:∀x,h2 x=none->h0 x=none){f:Lf}{pv:Value}{G:List Nat}(O:eM h2 bT 1 pv (f.path.map jJ) G)(fG:eK h1 G)(hl:fs.length≤1000){R:cD}
  (hR:∀h3 v' F',oB h0 h3 v' (fs++[f])->eK h0 F'->cQ F' h2 h3->R v' h3):
  dY (jV PG (buildSlice cN 1 #[(0,f.val pv)])) λx40=>∀r39,h2 r39=none->dY (dH PG (x40.2 r39)) λv41=>dC PG (Builtin.append_ #[cN,cN] cN #[v,v41]) (PH.set h2 r39 x40.1) R:=by
 obtain⟨l,F,e,OL,fF,L⟩:=H.here;simp only[aNS,cE,reduceIte,cZ,Nat.reduceAdd];intro r hr;refine fP ?_
 try rw[cW]
 have u4:dD h2 (h2.set r (.cells (f.cells pv).toArray cB)):=cQ.new hr;have s4:fZ (h2.set r (.cells (f.cells pv).toArray cB)) 5 (.slice (some ⟨r,0,none⟩) 1 1) ([((f,pv):LV)].map qT):=(eM.lit (n:=1) (qT.rows [(f,pv)]) dL (by simp) (by decide) (by simp[qT])).slR;generalize h2.set r (.cells (f.cells pv).toArray cB)=h4 at *;have hF2:∀x∈F,x∉[b,m]:=fF.off kb km;have hlen:l.length=fs.length:=by rw[←e,iV]
 refine jK cN.und cN.und cB.info cB.size cB.bytes cB.zero rfl (by decide) ((OL.upd u hF2).ext u4) s4 (λr hr u hu=>by
  obtain⟨y,hy,rfl⟩:=mJ.1 hr;simp only[gB] at hy;subst hy;exact Lf.isC _ O.slR.isc u hu) (by simp only[iV,zLT];omega) ?_
 intro v5 h5 F5 O5 u5 k5 _;rw[←pO] at O5;have hFk:∀x∈F,h1 x≠none:=OL.known;have GF:∀x∈G,x∉F:=λx hx hx'=>hFk x hx' (fG x hx);have f5:eK h0 F5:=λx hx=>by
  rcases k5 x hx with hx|hx
  ·exact fF x hx
  ·exact n02 x (u4.none hx)
 refine hR h5 v5 F ⟨⟨l++[(f,pv)],F5,by rw[pO,e];rfl,O5,f5,λy hy=>?_⟩⟩ fF (u4.upd.trans u5);rcases kB.1 hy with hy|hy
 ·obtain⟨G',O',f',d'⟩:=L y hy;have k1:∀x∈G',h1 x≠none:=O'.known;refine⟨G',((O'.upd u (f'.off kb km)).ext u4).upd u5 (λx hx=>d' x hx),f',λx hx hx5=>?_⟩;rcases k5 x hx5 with h|h
  ·exact d' x hx h
  ·exact((O'.upd u (f'.off kb km)).ext u4).known x hx h
 ·simp only[gB] at hy;subst hy;refine⟨G,(O.ext u4).upd u5 GF,λx hx=>n01 x (fG x hx),λx hx hx5=>?_⟩;rcases k5 x hx5 with h|h
  ·exact GF x hx h
  ·exact(O.ext u4).known x hx h
def oB.one{h0 h2:PH}{f:Lf}{pv:Value}{G:List Nat}(O:eM h2 bT 1 pv (f.path.map jJ) G)(fG:eK h0 G)(n02:∀x,h2 x=none->h0 x=none){r:Nat}(hr:h2 r=none):
  oB h0 (h2.set r (.cells (f.cells pv).toArray cB)) (.slice (some ⟨r,0,none⟩) 1 1) [f]∧dD h2 (h2.set r (.cells (f.cells pv).toArray cB)):=by
 have u4:dD h2 (h2.set r (.cells (f.cells pv).toArray cB)):=cQ.new hr;have O4:eM (h2.set r (.cells (f.cells pv).toArray cB)) cB 5 (.slice (some ⟨r,0,none⟩) 1 1) ([((f,pv):LV)].map qT) [r]:=eM.lit (n:=1) (qT.rows [(f,pv)]) dL (by simp) (by decide) (by simp[qT]);generalize h2.set r (.cells (f.cells pv).toArray cB)=h4 at *;refine⟨⟨⟨[(f,pv)],[r],rfl,O4,λx hx=>?_,λy hy=>?_⟩⟩,u4⟩
 ·simp only[gB] at hx;subst hx;exact n02 _ hr
 ·simp only[gB] at hy;subst hy;refine⟨G,O.ext u4,fG,λx hx hx5=>?_⟩;simp only[gB] at hx5;subst hx5;exact O.known _ hx hr
def Pf.boxC{h:PH}{r:Nat}{ab:Bool}{v:Value}(B:Bx h r [.bool ab,v]):cG PG h (loadAt cC (pT r 0))=some (Pf.val ab v):=cC.agg B (by show 0+2≤2;decide)
def aIm{l:List Pr}(H:sZ l){key:Tx}:(iJ l key).isSome=true↔∃p,l[hQ l key]? =some p∧p.k=key:=by
 constructor
 ·intro h;obtain⟨p,hp⟩:=Option.isSome_iff_exists.1 h;exact⟨p,aMj H hp,((aBj H).1 hp).2⟩
 ·rintro⟨p,h1,h2⟩;rw[(aBj H).2 ⟨tA h1,h2⟩];rfl
def aR9{h:PH}{v:Value}{l:List Pr}{key:Tx}{b m:Nat}{A:List Tx}{K:List Nat}(H:Bk b m A K h)(M:MOk l)(S:fZ h 2 v (l.map Pr.cells))(hv:Off b m v){k:cD}
  (hno:iJ l key=none->∀h',Bk b m A K h'->cQ [b,m] h h'->k (.tuple #[Pf.val false (.slice none 0 0),.int .i64 3]) h')
  (hyes:(iJ l key).isSome=true->∀h' v',Bk b m A K h'->oB h h' v' [kQ l (hQ l key)]->cQ [b,m] h h'->k (.tuple #[Pf.val false v',.int .i64 0]) h'):
  aT PG aBL #[pT b 0,v,.string (tx key)] h k:=by
 apply aAJ.call;unfold aAJ;have hl:=M.len;have kb:=H.known b (by simp);have km:=H.known m (by simp);intro r1 hr1
 try rw[cW]
 have hr1b:r1∉[b,m]:=(eK.one hr1).off kb km r1 (by simp);have u1:dD h (h.set r1 (.cells (dV PG cC) cC)):=cQ.new hr1;have Z1:=cC.zbox (h:=h) (r:=r1);generalize h.set r1 (.cells (dV PG cC) cC)=h1 at *;have H1:=H.ext u1;have S1:=S.ext u1;have lv:=S.len (t':=bR) cJ.und;rw[iV] at lv;have hple:=aJh l key;have no:iJ l key=none->dY (dH PG (build cC #[])) λv33=>dC PG (dT cC (pT r1 0) v33) h1 λv34 h35=>dY (cG PG h35 (loadAt cC (pT r1 0))) λv36=>k (Value.tuple #[v36,(Value.int IntKind.i64 3)]) h35:=λhn=>by
  simp only[aHI,cE,reduceIte,cZ,Nat.reduceAdd];refine cC.put (vs:=[.bool false,.slice none 0 0]) Z1 (o:=0) rfl (by show 0+2≤2;decide) (by simp[fW]) λh6 B6 u6=>?_;have B6:Bx h6 r1 [.bool false,.slice none 0 0]:=B6;simp only[Pf.boxC B6,cE,reduceIte,cZ,Nat.reduceAdd];exact hno hn h6 (H1.upd u6 (λx hx hm=>by simp only[gB] at hm;subst hm;exact H.known _ hx hr1)) ((u1.upd (F:=[b,m])).then u6 (λx hx=>by simp only[gB] at hx;subst hx;exact .inr hr1))
 refine aQA S1 (by omega) key ?_;by_cases c1:hQ l key=l.length
 ·have q:(((hQ l key:Nat):Int)==(l.length:Int))=true:=by rw[beq_iff_eq];omega
  simp only[lv,iG,q,cE,reduceIte,cZ,Nat.reduceAdd];refine no ?_;have:¬(iJ l key).isSome=true:=λh=>by
   obtain⟨p,h1,-⟩:=(aIm M.up).1 h;have:=(zLA.1 h1).1;omega
  simpa using this
 ·have q:(((hQ l key:Nat):Int)==(l.length:Int))=false:=by rw[beq_eq_false_iff_ne];omega
  obtain⟨p,hp⟩:∃p,l[hQ l key]? =some p:=⟨_,lJ (by omega)⟩;obtain⟨x,o,e2,e3,-,-⟩:=S1.pair hp;by_cases c2:p.k=key
  ·have q2:(!decide (p.k=key))=false:=by simp[c2]
   simp only[lv,iG,q,e2,cM.f0,bT.load,e3,aGC,q2,cE,reduceIte,cZ,Nat.reduceAdd];refine aLR H1 S1 hv M.small hl (by omega) λh2 pv F B2 O2 f2 u2=>?_;have n02:∀x,h2 x=none->h1 x=none:=λx hx=>u2.grow2 (B2.known b (by simp)) (B2.known m (by simp)) hx;simp only[aNS,cE,reduceIte,cZ,Nat.reduceAdd];intro r9 hr9;refine fP ?_
   try rw[cW]
   obtain⟨L3,u3⟩:=oB.one O2 f2 n02 hr9;generalize h2.set r9 (.cells ((kQ l (hQ l key)).cells pv).toArray cB)=h3 at *;simp only[aW9,cE,reduceIte,cZ,Nat.reduceAdd];obtain⟨v3,ev3⟩:∃v3:Value,v3= .slice (some ⟨r9,0,none⟩) 1 1:=⟨_,rfl⟩;rw[←ev3] at L3 ⊢;refine cC.put (vs:=[.bool false,v3]) ((Z1.upd u2 hr1b).ext u3) (o:=0) rfl (by show 0+2≤2;decide) (by
    have:=L3.isc;simp[fW];exact this) λh6 B6 u6=>?_
   have B6:Bx h6 r1 [.bool false,v3]:=B6;simp only[Pf.boxC B6,cE,reduceIte,cZ,Nat.reduceAdd];refine hyes ((aIm M.up).2 ⟨p,hp,c2⟩) h6 v3 ((B2.ext u3).upd u6 (λx hx hm=>by simp only[gB] at hm;subst hm;exact H.known _ hx hr1)) ((L3.upd u6 (λx hx=>by simp only[gB] at hx;subst hx;exact Z1.known)).of u1) (((u1.upd.trans u2).trans u3.upd).then u6 (λx hx=>by simp only[gB] at hx;subst hx;exact .inr hr1))
  ·have q2:(!decide (p.k=key))=true:=by simp[c2]
   simp only[lv,iG,q,e2,cM.f0,bT.load,e3,aGC,q2,cE,reduceIte,cZ,Nat.reduceAdd];refine no ?_;have:¬(iJ l key).isSome=true:=λh=>by
    obtain⟨p',h1,h2⟩:=(aIm M.up).1 h;rw[hp] at h1;obtain rfl:=aLd h1;exact c2 h2
   simpa using this
def aS8{h:PH}{v:Value}{l:List Pr}{key:Tx}{b m:Nat}{A:List Tx}{K:List Nat}(H:Bk b m A K h)(M:MOk l)(S:fZ h 2 v (l.map Pr.cells))(hv:Off b m v){k:cD}
  (hbad:¬(1≤key.length∧key.length≤16)->∀h',Bk b m A K h'->cQ [b,m] h h'->k (.tuple #[Pf.val false (.slice none 0 0),.int .i64 1]) h')
  (hyes:(1≤key.length∧key.length≤16)->(iJ l key).isSome=true->∀h',Bk b m A K h'->cQ [b,m] h h'->k (.tuple #[Pf.val false (.slice none 0 0),.int .i64 4]) h')
  (hk:(1≤key.length∧key.length≤16)->iJ l key=none->∀h' v',Bk b m A K h'->oB h h' v' (lD l key).lv->cQ [b,m] h h'->k (.tuple #[Pf.val true v',.int .i64 0]) h'):
  aT PG aCA #[pT b 0,v,.string (tx key)] h k:=by
 apply rZ.call;unfold rZ;have hl:=M.len;have kb:=H.known b (by simp);have km:=H.known m (by simp);intro r1 hr1
 try rw[cW]
 have hr1b:r1∉[b,m]:=(eK.one hr1).off kb km r1 (by simp);have u1:dD h (h.set r1 (.cells (dV PG cC) cC)):=cQ.new hr1;have Z1:=cC.zbox (h:=h) (r:=r1);generalize h.set r1 (.cells (dV PG cC) cC)=h1 at *;have H1:=H.ext u1;have S1:=S.ext u1;have lk:dH PG (Builtin.len_ #[bT] bR #[.string (tx key)])=some (.int .i64 (key.length:Int)):=by rw[lS bT.und,iF]
 have lv:=S.len (t':=bR) cJ.und;rw[iV] at lv;have hple:=aJh l key;have no:∀e:Int,(∀h',Bk b m A K h'->cQ [b,m] h h'->k (.tuple #[Pf.val false (.slice none 0 0),.int .i64 e]) h')->dY (dH PG (build cC #[])) λv33=>dC PG (dT cC (pT r1 0) v33) h1 λv34 h35=>dY (cG PG h35 (loadAt cC (pT r1 0))) λv36=>k (Value.tuple #[v36,(Value.int IntKind.i64 e)]) h35:=λe hn=>by
  simp only[aHI,cE,reduceIte,cZ,Nat.reduceAdd];refine cC.put (vs:=[.bool false,.slice none 0 0]) Z1 (o:=0) rfl (by show 0+2≤2;decide) (by simp[fW]) λh6 B6 u6=>?_;have B6:Bx h6 r1 [.bool false,.slice none 0 0]:=B6;simp only[Pf.boxC B6,cE,reduceIte,cZ,Nat.reduceAdd];exact hn h6 (H1.upd u6 (λx hx hm=>by simp only[gB] at hm;subst hm;exact H.known _ hx hr1)) ((u1.upd (F:=[b,m])).then u6 (λx hx=>by simp only[gB] at hx;subst hx;exact .inr hr1))
 by_cases d1:key.length<1
 ·have g1:((key.length:Int)<1)=True:=eq_true (by omega);simp only[lk,g1,cE,reduceIte,cZ,Nat.reduceAdd];exact no 1 (hbad (by omega))
 have g1:((key.length:Int)<1)=False:=eq_false (by omega);by_cases d2:16<key.length
 ·have g2:((16:Int)<(key.length:Int))=True:=eq_true (by omega);simp only[lk,g1,g2,cE,reduceIte,cZ,Nat.reduceAdd];exact no 1 (hbad (by omega))
 have g2:((16:Int)<(key.length:Int))=False:=eq_false (by omega);have hkl:1≤key.length∧key.length≤16:=by omega
 simp only[lk,g1,g2,cE,reduceIte,cZ,Nat.reduceAdd];refine aQA S1 (by omega) key ?_;obtain⟨n,hn⟩:∃n,n=hQ l key:=⟨_,rfl⟩;rw[←hn] at hple;rw[←hn];have lvS:∀{t':TypeId},dH PG (Builtin.len_ #[cJ] t' #[v])=some (.int .i64 (l.length:Int)):=fun {t'}=>by
  have:=S.len (t':=t') cJ.und;rw[iV] at this;exact this
 cases hg:(iJ l key).isSome with
 | true=>
  obtain⟨p,hp,c2⟩:=(aIm M.up).1 hg;rw[←hn] at hp;have hnl:=(zLA.1 hp).1;have q:(((n:Nat):Int)<(l.length:Int))=True:=eq_true (by omega);obtain⟨x,o,e2,e3,-,-⟩:=S1.pair hp;have q2:decide (p.k=key)=true:=by simp[c2]
  simp only[lv,q,e2,cM.f0,bT.load,e3,aF5,q2,cE,reduceIte,cZ,Nat.reduceAdd];exact no 4 (hyes hkl hg)
 | false=>
  have hg':iJ l key=none:=by simpa using hg
  have hno:∀p,l[n]? =some p->p.k≠key:=λp hp e=>by
   have:=(aIm M.up).2 ⟨p,by rw[←hn];exact hp,e⟩;rw[hg] at this;cases this
  have hpf:(lD l key).lv=(if 0<n then [kQ l (n-1)] else [])++(if n<l.length then [kQ l n] else []):=by
   unfold lD;rw[hg,if_neg (by decide),←hn];by_cases h0:l=[]
   ·have:n=0:=by rw[h0] at hple;simpa using hple
    rw[if_pos h0,this,if_neg (by decide),if_neg (by rw[h0];decide)];rfl
   ·have hpos:0<l.length:=aIA.2 h0;rw[if_neg h0];by_cases c0:n=0
    ·rw[if_pos c0,c0,if_neg (by decide),if_pos hpos];rfl
    ·have h0n:0<n:=by omega
     rw[if_neg c0,if_pos h0n];by_cases cl:n=l.length
     ·rw[if_pos cl,if_neg (by omega),cl];rfl
     ·rw[if_neg cl,if_pos (by omega)];rfl
  have tail:∀{r56:Nat} {h2 h4:PH} {v4:Value} {fs:List Lf},h1 r56=none->h2 r56≠none->dD h1 h2->Bk b m A K h4->fZ h4 2 v (l.map Pr.cells)->oB h2 h4 v4 fs->Bx h4 r56 [.bool true,v4]->Bx h4 r1 (Value.agg #[Value.bool false,Value.slice none 0 0]).cells.toList->fs.length≤5->cQ [b,m] h h4->(∀x,h4 x=none->h2 x=none)->fs++(if n<l.length then [kQ l n] else [])=(lD l key).lv->wN k (pT b 0) v (pT r1 0) (.int .i64 ((n:Nat):Int)) (pT r56 0) h4:=by
   intro r56 h2 h4 v4 fs hr56 k56 u12 B4 S4 L4 X4 Y4 hfs U4 n42 hfin;have hx56:r56∉[b,m]:=λhm'=>by
    simp only[gU,lH,or_false] at hm';rcases hm' with rfl|rfl
    ·exact kb (u1.none hr56)
    ·exact km (u1.none hr56)
   have n61:r1≠r56:=λe=>Z1.known (e▸hr56);have kb2:h2 b≠none:=λe=>kb ((u1.trans u12).none e);have km2:h2 m≠none:=λe=>km ((u1.trans u12).none e)
   -- the end
   have last:∀{h5:PH} {v5:Value},Bk b m A K h5->oB h2 h5 v5 (lD l key).lv->Bx h5 r56 [.bool true,v5]->Bx h5 r1 (Value.agg #[Value.bool false,Value.slice none 0 0]).cells.toList->cQ [b,m] h h5->wI k (pT r1 0) (pT r56 0) h5:=by
    intro h5 v5 B5 L5 X5 Y5 U5;unfold wI;simp only[Pf.boxC X5,cE,reduceIte,cZ,Nat.reduceAdd];refine cC.put (vs:=[.bool true,v5]) Y5 (o:=0) rfl (by show 0+2≤2;decide) (by
     have:=L5.isc;simp[fW];exact this) λh6 B6 u6=>?_
    have B6:Bx h6 r1 [.bool true,v5]:=B6;simp only[Pf.boxC B6,cE,reduceIte,cZ,Nat.reduceAdd];exact hk hkl hg' h6 v5 (B5.upd u6 (λx hx hm=>by simp only[gB] at hm;subst hm;exact H.known _ hx hr1)) ((L5.upd u6 (λx hx=>by simp only[gB] at hx;subst hx;exact λe=>Z1.known (u12.none e))).of (u1.trans u12)) (U5.then u6 (λx hx=>by simp only[gB] at hx;subst hx;exact .inr hr1))
   unfold wN;by_cases c1:n<l.length
   ·have q:(((n:Nat):Int)<(l.length:Int))=True:=eq_true (by omega);have l4:cG PG h4 (loadAt cN (pT r56 1))=some v4:=by rw[cN.load,X4.cell];rfl
    simp only[lvS,q,cC.f1,fQ,l4,cE,reduceIte,cZ,Nat.reduceAdd];refine aLR B4 S4 hv M.small hl c1 λh5 pv F B5 O5 f5 u5=>?_;have X5:=X4.upd u5 hx56;have Y5:=Y4.upd u5 hr1b;have l5:cG PG h5 (loadAt cN (pT r56 1))=some v4:=by rw[cN.load,X5.cell];rfl
    refine⟨l5,?_⟩;have n52:∀x,h5 x=none->h2 x=none:=λx hx=>n42 x (u5.grow2 (B5.known b (by simp)) (B5.known m (by simp)) hx);refine L4.push kb2 km2 u5 n42 n52 O5 f5 (by omega) λh6 v6 F6 L6 f6 u6=>?_;have n6:r56∉F6:=λhm=>k56 (f6 _ hm);have m6:r1∉F6:=λhm=>Z1.known (u12.none (f6 _ hm));have X6:=X5.upd u6 n6;refine cN.put X6 (o:=1) (by show 1<2;decide) L6.isc λh7 X7 u7=>?_;have X7:Bx h7 r56 [.bool true,v6]:=X7;rw[if_pos c1] at hfin;rw[hfin] at L6;have U7:cQ [b,m] h h7:=((U4.trans u5).then u6 (λx hx=>.inr ((u1.trans u12).none (f6 x hx)))).then u7 (λx hx=>by simp only[gB] at hx;subst hx;exact .inr (u1.none hr56))
    refine last ((B5.upd u6 (λx hx hm=>?_)).upd u7 (λx hx hm=>?_)) (L6.upd u7 (λx hx=>by simp only[gB] at hx;subst hx;exact k56)) X7 ((Y5.upd u6 m6).upd u7 (by simp only[gB];exact n61)) U7
    ·exact H.known _ hx ((u1.trans u12).none (f6 _ hm))
    ·simp only[gB] at hm;subst hm;exact H.known _ hx (u1.none hr56)
   ·have q:(((n:Nat):Int)<(l.length:Int))=False:=eq_false (by omega);simp only[lvS,q,cE,reduceIte,cZ,Nat.reduceAdd];rw[if_neg c1,zLQ] at hfin;rw[hfin] at L4;exact last B4 L4 X4 Y4 U4
  have go:∀{r56:Nat} {h2:PH},h1 r56=none->Bx h2 r56 [.bool true,.slice none 0 0]->dD h1 h2->(0<n->∀(K':cD),(∀h' v',Bk b m A K h'->fZ h' 2 v (l.map Pr.cells)->oB h2 h' v' [kQ l (n-1)]->Bx h' r56 [.bool true,.slice none 0 0]->Bx h' r1 (Value.agg #[Value.bool false,Value.slice none 0 0]).cells.toList->cQ [b,m] h h'->(∀x,h' x=none->h2 x=none)->K' v' h')->
    aT PG rI #[pT b 0,v,.int .i64 ((n-1:Nat):Int)] h2 λv64 h65=>cG PG h65 (loadAt cN (pT r56 1))=some (.slice none 0 0)∧(dY (jV PG (buildSlice cN 1 #[(0,v64)])) λx67=>∀r66,h65 r66=none->dY (dH PG (x67.2 r66)) λv68=>dC PG (Builtin.append_ #[cN,cN] cN #[.slice none 0 0,v68]) (PH.set h65 r66 x67.1) λv70 h71=>K' v70 h71)):=by
   intro r56 h2 hr56 X2 u12 hpos K' hK';have hx56:r56∉[b,m]:=λhm'=>by
    simp only[gU,lH,or_false] at hm';rcases hm' with rfl|rfl
    ·exact kb (u1.none hr56)
    ·exact km (u1.none hr56)
   have H2:=H1.ext u12;refine aLR H2 (S1.ext u12) hv M.small hl (by omega) λh5 pv F B5 O5 f5 u5=>?_;have X5:=X2.upd u5 hx56;have l5:cG PG h5 (loadAt cN (pT r56 1))=some (.slice none 0 0):=by rw[cN.load,X5.cell];rfl
   refine⟨l5,?_⟩;have n52:∀x,h5 x=none->h2 x=none:=λx hx=>u5.grow2 (B5.known b (by simp)) (B5.known m (by simp)) hx;refine(oB.nil (h0:=h2) (h:=h2)).push (H2.known b (by simp)) (H2.known m (by simp)) u5 (λx hx=>hx) n52 O5 f5 (by simp) λh6 v6 F6 L6 f6 u6=>?_;have n6:r56∉F6:=λhm=>X2.known (f6 _ hm);have m6:r1∉F6:=λhm=>Z1.known (u12.none (f6 _ hm));refine hK' h6 v6 (B5.upd u6 (λx hx hm=>H.known _ hx ((u1.trans u12).none (f6 _ hm)))) (((S1.ext u12).upd u5 hv).upd0 u6 (λhne a n' c e hm=>S.known hne e ((u1.trans u12).none (f6 _ hm)))) L6 (X5.upd u6 n6) (((Z1.ext u12).upd u5 hr1b).upd u6 m6) (((u1.trans u12).upd.trans u5).then u6 (λx hx=>.inr ((u1.trans u12).none (f6 x hx)))) (λx hx=>?_)
   ·by_cases hxF:x∈F6
    ·exact f6 x hxF
    ·cases e:h5 x with
     | none=>exact n52 x e
     | some o=>have:=u6 x o e hxF;rw[hx] at this;cases this
  by_cases c3:0<n
  ·have g3:((0:Int)<((n:Nat):Int))=True:=eq_true (by omega);have w1:IntKind.i64.wrap (((n:Nat):Int)-1)=((n-1:Nat):Int):=by rw[fH (by omega) (by omega)];omega
   rw[if_pos c3] at hpf;rcases Nat.lt_or_ge n l.length with c1|c1;have q:(((n:Nat):Int)<(l.length:Int))=True:=eq_true (by omega);obtain⟨p,hp⟩:∃p,l[n]? =some p:=⟨_,lJ c1⟩;obtain⟨x,o,e2,e3,-,-⟩:=S1.pair hp;have q2:decide (p.k=key)=false:=by simp[hno p hp]
   simp only[lv,q,e2,cM.f0,bT.load,e3,aF5,q2,aL4,g3,w1,cE,reduceIte,cZ,Nat.reduceAdd]
   rotate_left 1
   have q:(((n:Nat):Int)<(l.length:Int))=False:=eq_false (by omega);simp only[lv,q,aL4,g3,w1,cE,reduceIte,cZ,Nat.reduceAdd]
   all_goals
    intro r56 hr56
    try rw[cW]
    refine cC.fill (vs:=[.bool true,.slice none 0 0]) hr56 rfl (by simp[fW]) λh2 X2 u2=>?_;have l2:cG PG h2 (loadAt cN (pT r56 1))=some (.slice none 0 0):=by rw[cN.load,X2.cell];rfl
    simp only[cC.f1,fQ,l2,cE,reduceIte,cZ,Nat.reduceAdd];refine go hr56 X2 u2 c3 _ λh3 v3 B3 S3 L3 X3 Y3 U3 n3=>?_;refine cN.put X3 (o:=1) (by show 1<2;decide) L3.isc λh4 X4 u4=>?_;have X4:Bx h4 r56 [.bool true,v3]:=X4;have n61:r1≠r56:=λe=>Z1.known (e▸hr56);refine tail hr56 X2.known u2 (B3.upd u4 (λx hx hm=>by simp only[gB] at hm;subst hm;exact H.known _ hx (u1.none hr56))) (S3.upd0 u4 (λhne a n' c e hm=>by simp only[gB] at hm;exact S.known hne e (hm▸u1.none hr56))) (L3.upd u4 (λx hx=>by simp only[gB] at hx;subst hx;exact X2.known)) X4 (Y3.upd u4 (by simp only[gB];exact n61)) (by simp) (U3.then u4 (λx hx=>by simp only[gB] at hx;subst hx;exact .inr (u1.none hr56))) (λx hx=>?_) hpf.symm;by_cases hx56:x=r56
    ·subst hx56;exact absurd hx X4.known
    ·cases e:h3 x with
     | none=>exact n3 x e
     | some o=>have:=u4 x o e (by simp[hx56]);rw[hx] at this;cases this
  ·have g3:((0:Int)<((n:Nat):Int))=False:=eq_false (by omega);rw[if_neg c3,sK] at hpf;rcases Nat.lt_or_ge n l.length with c1|c1;have q:(((n:Nat):Int)<(l.length:Int))=True:=eq_true (by omega);obtain⟨p,hp⟩:∃p,l[n]? =some p:=⟨_,lJ c1⟩;obtain⟨x,o,e2,e3,-,-⟩:=S1.pair hp;have q2:decide (p.k=key)=false:=by simp[hno p hp]
   simp only[lv,q,e2,cM.f0,bT.load,e3,aF5,q2,aL4,g3,cE,reduceIte,cZ,Nat.reduceAdd]
   rotate_left 1
   have q:(((n:Nat):Int)<(l.length:Int))=False:=eq_false (by omega);simp only[lv,q,aL4,g3,cE,reduceIte,cZ,Nat.reduceAdd]
   all_goals
    intro r56 hr56
    try rw[cW]
    refine cC.fill (vs:=[.bool true,.slice none 0 0]) hr56 rfl (by simp[fW]) λh2 X2 u2=>?_;exact tail hr56 X2.known u2 (H1.ext u2) (S1.ext u2) oB.nil X2 (Z1.ext u2) (by simp) (u1.trans u2).upd (λx hx=>hx) hpf.symm
def aQ5{h:PH}{s:Tx}(hs:s.length≤1000000){k:cD}(hk:∀h',dD h h'->k (.string (tx (be s.length 2++s))) h'):aT PG aAV #[.string (tx s)] h k:=by
 apply aCU.call;unfold aCU;have ls:dH PG (Builtin.len_ #[bT] bR #[.string (tx s)])=some (.int .i64 (s.length:Int)):=by rw[lS bT.und,iF]
 have w:IntKind.u64.wrap (s.length:Int)=(s.length:Int):=gO (by omega) (by omega);simp only[ls,aJU,w,cE,reduceIte,cZ,Nat.reduceAdd];refine tH (n:=s.length) (c:=2) (by omega) (by decide) λh1 u1=>?_;have a:dH PG (binOp .add bT (.string (tx (be s.length 2))) (.string (tx s)))=some (.string (tx (be s.length 2++s))):=mG (by rw[jF];omega);simp only[a,cE,reduceIte,cZ,Nat.reduceAdd];exact hk h1 u1
def aSO{ab:Bool}{l:List Lf}(h:¬(l.length≤2∧∀f∈l,f.Ok)):lW ⟨ab,l⟩=([],1):=by
 unfold lW;rw[if_neg];rintro⟨h1,h2⟩;exact h ⟨h1,λf hf=>Lf.ok_iff.1 (aE6.1 h2 f hf)⟩
def aRg{ab:Bool}{l:List Lf}(h1:l.length≤2)(h2:∀f∈l,f.Ok):lW ⟨ab,l⟩=(aEu ⟨ab,l⟩,0):=by
 unfold lW;rw[if_pos ⟨h1,aE6.2 λf hf=>Lf.ok_iff.2 (h2 f hf)⟩]
def aX0{h:PH}{r1 r27:Nat}{y:LV}(X:Bx h r27 (y.1.cells y.2))(P:fZ h 1 y.2 (y.1.path.map jJ))(hm:y.1.path.length≤16){out:Tx}(ho:out.length≤100000){i:Nat}(hi:i≤100){R:cD}{n17:gJ}
  (hbad:¬(∀d∈y.1.path,d.length=32)->R (.tuple #[.string (tx []),.int .i64 1]) h)
  (hk:(∀d∈y.1.path,d.length=32)->n17 [pT r1 0,.string (tx (out++y.1.path.flatten)),.int .i64 ((i+1:Nat):Int)] h):
  iL [1,4,5,6,7] (λn163 ρ h=>aBJ R n17 n163 (ρ 1) (ρ 4) (ρ 5) (ρ 6) (ρ 7) h) [pT r1 0,.string (tx out),.int .i64 (i:Int),pT r27 0,.int .i64 0] h:=by
 refine⟨λvs h'=>∃j:Nat,j≤y.1.path.length∧vs=[pT r1 0,.string (tx (out++(y.1.path.take j).flatten)),.int .i64 (i:Int),pT r27 0,.int .i64 (j:Int)]∧h'=h∧∀d∈y.1.path.take j,d.length=32,gQ y.1.path.length 4,⟨0,by omega,by simp,rfl,λd hd=>by simp at hd⟩,?_⟩;rintro ρ h' ⟨j,hj,hvs,rfl,hal⟩;simp only[iH,jA,lN,and_true] at hvs;obtain⟨v0,v1,v2,v3,v4⟩:=hvs;unfold aBJ;rw[v0,v1,v2,v3,v4];have lp:cG PG h' (loadAt cP (pT r27 4))=some y.2:=by rw[cP.load,X.cell];rfl
 have ll:=aOb P;by_cases hlt:j<y.1.path.length
 ·have g:((j:Int)<(y.1.path.length:Int))=True:=eq_true (by omega);have gj:=qN (i:=j) (by omega);obtain⟨x,hx⟩:∃x,y.1.path[j]? =some x:=⟨_,lJ hlt⟩;obtain⟨pa,ha1,ha2⟩:=P.st hx;have lx:dH PG (Builtin.len_ #[bT] bR #[.string (tx x)])=some (.int .i64 (x.length:Int)):=by rw[lS bT.und,iF]
  by_cases hx32:x.length=32
  ·have q:((x.length:Int) !=32)=false:=by simp[hx32]
   have hfl:=aN6 hal;rw[nI] at hfl;have s1:dH PG (binOp .add bT (.string (tx (out++(y.1.path.take j).flatten))) (.string (tx x)))=some (.string (tx ((out++(y.1.path.take j).flatten)++x))):=mG (by rw[jM,hfl];omega);simp only[cB.f3,fQ,lp,ll,g,ha1,ha2,lx,kW,q,s1,gj,cE,reduceIte,cZ,Nat.reduceAdd];refine⟨⟨j+1,by omega,?_,by trivial,λz hz=>?_⟩,by simp[gQ,v4];omega⟩
   ·rw[zLU,hx,zLG];simp
   ·rw[zLU,hx] at hz;rcases kB.1 hz with hz|hz
    ·exact hal z hz
    ·simp only[Option.toList_some,gB] at hz;rw[hz];exact hx32
  ·have q:((x.length:Int) !=32)=true:=by simp;omega
   simp only[cB.f3,fQ,lp,ll,g,ha1,ha2,lx,kW,q,aBw,cE,reduceIte,cZ,Nat.reduceAdd];exact hbad λhall=>hx32 (hall x (tA hx))
 ·have g:((j:Int)<(y.1.path.length:Int))=False:=eq_false (by omega);have gi:=qN (i:=i) (by omega);rw[lY (by omega)] at hal ⊢;simp only[cB.f3,fQ,lp,ll,g,gi,cE,reduceIte,cZ,Nat.reduceAdd];exact hk hal
def aQK{h:PH}{ab:Bool}{v:Value}{l:List LV}(S:fZ h 5 v (l.map qT))(HS:LfS h l)(hl:l.length≤1000000){k:cD}
  (hk:∀h',dD h h'->k (.tuple #[.string (tx (lW ⟨ab,l.map (·.1)⟩).1),.int .i64 (lW ⟨ab,l.map (·.1)⟩).2]) h'):aT PG uF #[Pf.val ab v] h k:=by
 apply tZ.call;unfold tZ;intro r1 hr1
 try rw[cW]
 have u1:dD h (h.set r1 (.cells (Value.cells (Pf.val ab v)) cC)):=cQ.new hr1;have X1:Bx (h.set r1 (.cells (Value.cells (Pf.val ab v)) cC)) r1 [.bool ab,v]:=Bx.new;generalize h.set r1 (.cells (Value.cells (Pf.val ab v)) cC)=h1 at *;have S1:=S.ext u1;have lv:∀{h'':PH},dD h1 h''->cG PG h'' (loadAt cN (pT r1 1))=some v:=λu=>by rw[cN.load,(X1.ext u).cell];rfl
 have la:cG PG h1 (loadAt gT (pT r1 0))=some (.bool ab):=by rw[gT.load,X1.cell];rfl
 have ll:=aJY S;by_cases c2:2<l.length
 ·have g2:((2:Int)<(l.length:Int))=True:=eq_true (by omega);simp only[cC.f1,fQ,lv cQ.refl,ll,g2,aBw,cE,reduceIte,cZ,Nat.reduceAdd];rw[aSO (λh=>by have:=h.1;rw[iV] at this;omega)] at hk;exact hk h1 u1
 have g2:((2:Int)<(l.length:Int))=False:=eq_false (by omega);have w2:IntKind.u64.wrap (l.length:Int)=(l.length:Int):=gO (by omega) (by omega);have rest:zK k (pT r1 0) (.string (tx (be (if ab then 2 else 1) 1))) h1:=by
  unfold zK;simp only[cC.f1,fQ,lv cQ.refl,ll,aJU,w2,cE,reduceIte,cZ,Nat.reduceAdd];refine tH (n:=l.length) (c:=1) (by omega) (by decide) λh2 u2=>?_;have s1:dH PG (binOp .add bT (.string (tx (be (if ab then 2 else 1) 1))) (.string (tx (be l.length 1))))=some (.string (tx (be (if ab then 2 else 1) 1++be l.length 1))):=mG (by rw[jF,jF];decide);simp only[s1,cE,reduceIte,cZ,Nat.reduceAdd];refine⟨λvs h'=>∃i:Nat,i≤l.length∧vs=[pT r1 0,.string (tx ((be (if ab then 2 else 1) 1++be l.length 1)++lQ ((l.take i).map (·.1)))),.int .i64 (i:Int)]∧dD h1 h'∧∀y∈l.take i,y.1.Ok,gQ l.length 2,⟨0,by omega,by simp[lQ],u2,λy hy=>by simp at hy⟩,?_⟩;rintro ρ h' ⟨i,hi,hvs,u,hal⟩;simp only[iH,jA,lN,and_true] at hvs;obtain⟨v0,v1,v2⟩:=hvs;unfold aFx;rw[v0,v1,v2];by_cases hlt:i<l.length
  ·have g:((i:Int)<(l.length:Int))=True:=eq_true (by omega);obtain⟨y,hy⟩:∃y,l[i]? =some y:=⟨_,lJ hlt⟩;have hym:=tA hy;obtain⟨pa,e1,e2⟩:=((S1.ext u)).lf hy;have P:=((HS y hym).ext u1).ext u;have bad:¬y.1.Ok->∀h2,dD h h2->k (.tuple #[.string (tx []),.int .i64 1]) h2:=λhno h2 u2=>by
    rw[aSO (λh=>hno (h.2 y.1 (zL8 hym)))] at hk;exact hk h2 u2
   simp only[cC.f1,fQ,lv u,ll,g,e1,e2,cE,reduceIte,cZ,Nat.reduceAdd];intro r27 hr27
   try rw[cW]
   refine cB.fill (vs:=y.1.cells y.2) hr27 rfl (Lf.isC _ (HS y hym).isc) λh3 X3 u3=>?_;have e3:=(u1.trans u).trans u3;have P3:=P.ext u3;have lp:=aOb P3;have c0:∀{h'':PH},dD h3 h''->dB h'' ⟨r27,0,none⟩=some (.int .i64 y.1.i):=λu=>(X3.ext u).cell 0;have c1:∀{h'':PH},dD h3 h''->dB h'' ⟨r27,1,none⟩=some (.int .i64 y.1.n):=λu=>(X3.ext u).cell 1;have c2':∀{h'':PH},dD h3 h''->dB h'' ⟨r27,2,none⟩=some (.string (tx y.1.p.k)):=λu=>(X3.ext u).cell 2;have c3:∀{h'':PH},dD h3 h''->dB h'' ⟨r27,3,none⟩=some (.string (tx y.1.p.v)):=λu=>(X3.ext u).cell 3;have c4:∀{h'':PH},dD h3 h''->dB h'' ⟨r27,4,none⟩=some y.2:=λu=>(X3.ext u).cell 4;have lk:dH PG (Builtin.len_ #[bT] bR #[.string (tx y.1.p.k)])=some (.int .i64 (y.1.p.k.length:Int)):=by rw[lS bT.und,iF]
   have lw:dH PG (Builtin.len_ #[bT] bR #[.string (tx y.1.p.v)])=some (.int .i64 (y.1.p.v.length:Int)):=by rw[lS bT.und,iF]
   by_cases d1:y.1.i<0
   ·have g1:=eq_true d1;simp only[cB.f0,bR.load,c0 cQ.refl,g1,aBw,cE,reduceIte,cZ,Nat.reduceAdd];exact bad (λO=>by have:=O.i0;omega) h3 e3
   have g1:=eq_false d1;by_cases d2:4096<y.1.i
   ·have g2:=eq_true d2;simp only[cB.f0,bR.load,c0 cQ.refl,g1,g2,aBw,cE,reduceIte,cZ,Nat.reduceAdd];exact bad (λO=>by have:=O.i1;omega) h3 e3
   have g2:=eq_false d2;by_cases d3:y.1.n<0
   ·have g3:=eq_true d3;simp only[cB.f0,cB.f1,fQ,bR.load,c0 cQ.refl,c1 cQ.refl,g1,g2,g3,aBw,cE,reduceIte,cZ,Nat.reduceAdd];exact bad (λO=>by have:=O.n0;omega) h3 e3
   have g3:=eq_false d3;by_cases d4:4096<y.1.n
   ·have g4:=eq_true d4;simp only[cB.f0,cB.f1,fQ,bR.load,c0 cQ.refl,c1 cQ.refl,g1,g2,g3,g4,aBw,cE,reduceIte,cZ,Nat.reduceAdd];exact bad (λO=>by have:=O.n1;omega) h3 e3
   have g4:=eq_false d4;by_cases d5:16<y.1.p.k.length
   ·have g5:((16:Int)<(y.1.p.k.length:Int))=True:=eq_true (by omega);simp only[cB.f0,cB.f1,cB.f2,cM.f0,fQ,bR.load,bT.load,c0 cQ.refl,c1 cQ.refl,c2' cQ.refl,lk,g1,g2,g3,g4,g5,aBw,cE,reduceIte,cZ,Nat.reduceAdd];exact bad (λO=>by have:=O.k;omega) h3 e3
   have g5:((16:Int)<(y.1.p.k.length:Int))=False:=eq_false (by omega);by_cases d6:64<y.1.p.v.length
   ·have g6:((64:Int)<(y.1.p.v.length:Int))=True:=eq_true (by omega);simp only[cB.f0,cB.f1,cB.f2,cM.f0,cM.f1,fQ,Nat.reduceAdd,bR.load,bT.load,c0 cQ.refl,c1 cQ.refl,c2' cQ.refl,c3 cQ.refl,lk,lw,g1,g2,g3,g4,g5,g6,aBw,cE,reduceIte,cZ,Nat.reduceAdd];exact bad (λO=>by have:=O.v;omega) h3 e3
   have g6:((64:Int)<(y.1.p.v.length:Int))=False:=eq_false (by omega);by_cases d7:16<y.1.path.length
   ·have g7:((16:Int)<(y.1.path.length:Int))=True:=eq_true (by omega);simp only[cB.f0,cB.f1,cB.f2,cB.f3,cM.f0,cM.f1,fQ,Nat.reduceAdd,bR.load,bT.load,cP.load,c0 cQ.refl,c1 cQ.refl,c2' cQ.refl,c3 cQ.refl,c4 cQ.refl,lk,lw,lp,g1,g2,g3,g4,g5,g6,g7,aBw,cE,reduceIte,cZ,Nat.reduceAdd];exact bad (λO=>by have:=O.m;omega) h3 e3
   have g7:((16:Int)<(y.1.path.length:Int))=False:=eq_false (by omega);obtain⟨a,ha⟩:∃a:Nat,y.1.i=(a:Int):=⟨y.1.i.toNat,by omega⟩;obtain⟨c,hc⟩:∃c:Nat,y.1.n=(c:Int):=⟨y.1.n.toNat,by omega⟩;have wa:IntKind.u64.wrap y.1.i=(a:Int):=by rw[ha];exact gO (by omega) (by omega)
   have wc':IntKind.u64.wrap y.1.n=(c:Int):=by rw[hc];exact gO (by omega) (by omega)
   have wm:IntKind.u64.wrap (y.1.path.length:Int)=(y.1.path.length:Int):=gO (by omega) (by omega);obtain⟨out,hout⟩:∃out:Tx,out=(be (if ab then 2 else 1) 1++be l.length 1)++lQ ((l.take i).map (·.1)):=⟨_,rfl⟩;have hol:out.length≤10000:=by
    have:=aMc (l:=(l.take i).map (·.1)) (λf hf=>by
     obtain⟨z,hz,rfl⟩:=mJ.1 hf;exact hal z hz)
    rw[iV,nI] at this;rw[hout,jM,jM,jF,jF];omega
   rw[←hout];simp only[cB.f0,cB.f1,cB.f2,cB.f3,cM.f0,cM.f1,fQ,Nat.reduceAdd,bR.load,bT.load,cP.load,c0 cQ.refl,c1 cQ.refl,c2' cQ.refl,c3 cQ.refl,c4 cQ.refl,lk,lw,lp,g1,g2,g3,g4,g5,g6,g7,aJU,wa,wc',wm,cE,reduceIte,cZ,Nat.reduceAdd];refine tH (n:=a) (c:=8) (by omega) (by decide) λh4 u4=>?_;have s4:dH PG (binOp .add bT (.string (tx out)) (.string (tx (be a 8))))=some (.string (tx (out++be a 8))):=mG (by rw[jF];omega);simp only[c1 u4,c2' u4,c3 u4,c4 u4,s4,true_and,cE,reduceIte,cZ,Nat.reduceAdd];refine tH (n:=c) (c:=8) (by omega) (by decide) λh5 u5=>?_;have u45:=u4.trans u5;have s5:dH PG (binOp .add bT (.string (tx (out++be a 8))) (.string (tx (be c 8))))=some (.string (tx ((out++be a 8)++be c 8))):=mG (by simp only[jM,jF];omega);simp only[c2' u45,c3 u45,c4 u45,s5,true_and,cE,reduceIte,cZ,Nat.reduceAdd];refine aQ5 (by omega) λh6 u6=>?_;have u46:=u45.trans u6;have s6:dH PG (binOp .add bT (.string (tx ((out++be a 8)++be c 8))) (.string (tx (be y.1.p.k.length 2++y.1.p.k))))=some (.string (tx (((out++be a 8)++be c 8)++(be y.1.p.k.length 2++y.1.p.k)))):=mG (by simp only[jM,jF];omega);simp only[c3 u46,c4 u46,s6,true_and,cE,reduceIte,cZ,Nat.reduceAdd];refine aQ5 (by omega) λh7 u7=>?_;have u47:=u46.trans u7;have s7:dH PG (binOp .add bT (.string (tx (((out++be a 8)++be c 8)++(be y.1.p.k.length 2++y.1.p.k)))) (.string (tx (be y.1.p.v.length 2++y.1.p.v))))=some (.string (tx ((((out++be a 8)++be c 8)++(be y.1.p.k.length 2++y.1.p.k))++(be y.1.p.v.length 2++y.1.p.v)))):=mG (by simp only[jM,jF];omega);simp only[c4 u47,s7,true_and,cE,reduceIte,cZ,Nat.reduceAdd];refine tH (n:=y.1.path.length) (c:=1) (by omega) (by decide) λh8 u8=>?_;have u48:=u47.trans u8;have s8:dH PG (binOp .add bT (.string (tx ((((out++be a 8)++be c 8)++(be y.1.p.k.length 2++y.1.p.k))++(be y.1.p.v.length 2++y.1.p.v)))) (.string (tx (be y.1.path.length 1))))=some (.string (tx (((((out++be a 8)++be c 8)++(be y.1.p.k.length 2++y.1.p.k))++(be y.1.p.v.length 2++y.1.p.v))++be y.1.path.length 1))):=mG (by simp only[jM,jF];omega);simp only[s8,cE,reduceIte,cZ,Nat.reduceAdd];refine aX0 (X3.ext u48) (P3.ext u48) (by omega) (by simp only[jM,jF];omega) (by omega) (λhno=>?_) (λhall=>?_)
   ·exact bad (λO=>hno O.d) h8 (e3.trans u48)
   ·have O:y.1.Ok:=⟨by omega,by omega,by omega,by omega,by omega,by omega,by omega,hall⟩;have et:l.take (i+1)=l.take i++[y]:=by rw[zLU,hy];rfl
    refine⟨⟨i+1,by omega,?_,(u.trans u3).trans u48,λz hz=>?_⟩,by simp[gQ,v2];omega⟩
    ·have e1:lQ ((l.take (i+1)).map (·.1))=lQ ((l.take i).map (·.1))++aGg y.1:=by rw[et,pO,List.map_singleton,aPA]
     have e2:(((((out++be a 8)++be c 8)++(be y.1.p.k.length 2++y.1.p.k))++(be y.1.p.v.length 2++y.1.p.v))++be y.1.path.length 1)++y.1.path.flatten=out++aGg y.1:=by
      unfold aGg;rw[ha,hc];simp only[rA,nM]
     rw[e1,e2,hout,nM]
    ·rw[et] at hz;rcases kB.1 hz with hz|hz
     ·exact hal z hz
     ·simp only[gB] at hz;rw[hz];exact O
  ·have g:((i:Int)<(l.length:Int))=False:=eq_false (by omega);rw[lY (by omega)] at hal ⊢;simp only[cC.f1,fQ,lv u,ll,g,cE,reduceIte,cZ,Nat.reduceAdd];rw[aRg (by rw[iV];omega) (λf hf=>by
    obtain⟨z,hz,rfl⟩:=mJ.1 hf;exact hal z hz)] at hk
   have e:aEu ⟨ab,l.map (·.1)⟩=(be (if ab then 2 else 1) 1++be l.length 1)++lQ (l.map (·.1)):=by
    unfold aEu;rw[iV,nM]
   rw[e] at hk;exact hk h' (u1.trans u)
 have tx2':({data:=#[2]}:ByteArray)=tx [2]:=rfl;have tx1':({data:=#[1]}:ByteArray)=tx [1]:=rfl;cases ab with
 | true=>
  simp only[cC.f0,cC.f1,fQ,lv cQ.refl,ll,g2,la,tx2',cE,reduceIte,cZ,Nat.reduceAdd];exact rest
 | false=>
  simp only[cC.f0,cC.f1,fQ,lv cQ.refl,ll,g2,la,tx1',cE,reduceIte,cZ,Nat.reduceAdd];exact rest
end
section
open Go
def aMZ{st:kX}{n:Int}{x:Tx}{r:List UInt8}(h:jY st n=(x,(0,r))):st=(0,x++r)∧(x.length:Int)=n:=by
 obtain⟨e,s⟩:=st;unfold jY at h;split at h
 ·rename_i c;obtain⟨c1,c2,c3⟩:=c;simp only[Prod.mk.injEq,true_and] at h c1 c2 c3;obtain⟨h1,h2⟩:=h;subst h1 h2 c1;refine⟨by rw[aLw],?_⟩;rw[nI];omega
 ·simp only[Prod.mk.injEq] at h;obtain⟨-,h2,-⟩:=h;exfalso;split at h2
  ·cases h2
  ·rename_i c;exact c h2
def aIb{st:kX}{c x:Nat}{r:List UInt8}(h:gV st c=(x,(0,r))):st=(0,be x c++r)∧x<256^c:=by
 unfold gV at h;simp only[Prod.mk.injEq] at h;obtain⟨h1,h2⟩:=h;obtain⟨g1,g2⟩:=aMZ (x:=(jY st (c:Int)).1) (r:=r) (by rw[←h2]);have hl:(jY st (c:Int)).1.length=c:=by omega
 have hb:=aZG (jY st (c:Int)).1;rw[hl,h1] at hb;refine⟨by rw[hb];exact g1,?_⟩;have:=aOw (jY st (c:Int)).1;rw[hl,h1] at this;exact this
def aO0{st:kX}{x:Tx}{r:List UInt8}(h:mW st=(x,(0,r))):st=(0,(be x.length 2++x)++r)∧x.length≤65535:=by
 unfold mW at h;obtain⟨g1,g2⟩:=aMZ h;obtain⟨k1,k2⟩:=aIb (st:=st) (c:=2) (x:=(gV st 2).1) (r:=x++r) (by rw[←g1]);have:(gV st 2).1=x.length:=by omega
 rw[this] at k1 k2;exact⟨by rw[k1,nM],by omega⟩
def aNt{st:kX}{x:Nat}{r:List UInt8}(h:kY st=(x,(0,r))):st=(0,be x 8++r)∧x≤4096:=by
 unfold kY at h;split at h
 ·exfalso;simp only[Prod.mk.injEq] at h;obtain⟨-,h2⟩:=h;unfold aLa at h2;simp only[Prod.mk.injEq] at h2;obtain⟨h3,-⟩:=h2;split at h3
  ·cases h3
  ·rename_i c;exact c h3
 ·rename_i c;have e:(gV st 8).1=x:=by rw[h]
  exact⟨(aIb h).1,by omega⟩
def aOc:∀(n:Nat) (st:kX) (acc l:List Tx) (r:List UInt8),zG n st acc=(l,(0,r))->∃ds,l=acc++ds∧st=(0,ds.flatten++r)∧ds.length=n∧∀d∈ds,d.length=32
 | 0,st,acc,l,r,h=>by
  simp only[zG,Prod.mk.injEq] at h;exact⟨[],by rw[h.1];simp,by rw[h.2];rfl,rfl,λd hd=>by cases hd⟩
 | n+1,st,acc,l,r,h=>by
  rw[zG] at h;split at h
  ·obtain⟨ds,h1,h2,h3,h4⟩:=aOc n _ _ _ _ h;obtain⟨g1,g2⟩:=aMZ (st:=st) (n:=32) (x:=(jY st 32).1) (r:=ds.flatten++r) (by rw[←h2]);refine⟨(jY st 32).1::ds,by rw[h1];simp,by rw[aDE,nM];exact g1,by simp[h3],λd hd=>?_⟩;rcases gU.1 hd with rfl|hd
   ·omega
   ·exact h4 d hd
  ·rename_i c;exfalso;simp only[Prod.mk.injEq] at h;rw[h.2] at c;exact c rfl
def aTX{st:kX}{f:Lf}{r:List UInt8}(h:rH st=(f,(0,r))):st=(0,aGg f++r)∧f.Ok:=by
 unfold rH at h;split at h
 ·rename_i hok;simp only[Prod.mk.injEq] at h;obtain⟨h1,h2⟩:=h;rw[h1] at hok;have O:=Lf.ok_iff.1 hok;refine⟨?_,O⟩;unfold aEQ at h1 h2;simp only at h1 h2;generalize hm:zG (gV (mW (mW (kY (kY st).2).2).2).2 1).1 (gV (mW (mW (kY (kY st).2).2).2).2 1).2 []=M at h1 h2;obtain⟨ml,ms⟩:=M;simp only at h1 h2;subst h2;obtain⟨ds,p1,p2,p3,p4⟩:=aOc _ _ _ _ _ hm;obtain⟨q1,q2⟩:=aIb (Prod.ext rfl p2);obtain⟨k1,k2⟩:=aO0 (Prod.ext rfl q1);obtain⟨m1,m2⟩:=aO0 (Prod.ext rfl k1);obtain⟨n1,n2⟩:=aNt (Prod.ext rfl m1);obtain⟨o1,o2⟩:=aNt (Prod.ext rfl n1);rw[sK] at p1;rw[p1] at h1;rw[o1];subst h1;unfold aGg;simp only[rA,nM,p3]
 ·exfalso;simp only[Prod.mk.injEq] at h;obtain⟨-,h2⟩:=h;unfold aLa at h2;simp only[Prod.mk.injEq] at h2;obtain⟨h3,-⟩:=h2;split at h3
  ·cases h3
  ·rename_i c;exact c h3
def aMd:∀(n:Nat) (st:kX) (acc l:List Lf) (r:List UInt8),pX n st acc=(l,(0,r))->∃fs,l=acc++fs∧st=(0,lQ fs++r)∧fs.length=n∧∀f∈fs,f.Ok
 | 0,st,acc,l,r,h=>by
  simp only[pX,Prod.mk.injEq] at h;exact⟨[],by rw[h.1];simp,by rw[h.2];rfl,rfl,λd hd=>by cases hd⟩
 | n+1,st,acc,l,r,h=>by
  rw[pX] at h;obtain⟨fs,h1,h2,h3,h4⟩:=aMd n _ _ _ _ h;obtain⟨g1,g2⟩:=aTX (Prod.ext rfl h2);refine⟨(rH st).1::fs,by rw[h1];simp,by rw[lQ,nM];exact g1,by simp[h3],λf hf=>?_⟩;rcases gU.1 hf with rfl|hf
  ·exact g2
  ·exact h4 f hf
def aSz{s:Tx}(h:(iI s).2=0):s=aEu (iI s).1∧(iI s).1.lv.length≤2∧∀f∈(iI s).1.lv,f.Ok:=by
 unfold iI at h ⊢;split at h
 ·cases h
 ·rename_i c;rw[if_neg c];split at h
  ·cases h
  ·rename_i d;rw[if_neg d];simp only[ne_eq,Decidable.not_not] at d;generalize hX:pX (gV (gV (0,s) 1).2 1).1 (gV (gV (0,s) 1).2 1).2 []=X at *;obtain⟨l,e,r⟩:=X;unfold aMb at d;simp only at d;have he:e=0∧r=[]:=by
    split at d
    ·cases d
    ·rename_i c2;exact⟨d,by
      cases r with
      | nil=>rfl
      | cons a b=>exact absurd ⟨d,by simp⟩ c2⟩
   obtain⟨rfl,rfl⟩:=he;obtain⟨fs,p1,p2,p3,p4⟩:=aMd _ _ _ _ _ hX;obtain⟨q1,q2⟩:=aIb (Prod.ext rfl p2);obtain⟨k1,k2⟩:=aIb (Prod.ext rfl q1);rw[sK] at p1;subst p1;rw[zLQ] at k1;simp only[Prod.mk.injEq,true_and] at k1;refine⟨?_,by simp only;omega,p4⟩;unfold aEu;simp only;rw[p3];have hk:(if decide ((gV (0,s) 1).1=2)=true then 2 else 1)=(gV (0,s) 1).1:=by
    by_cases h2:(gV (0,s) 1).1=2
    ·simp[h2]
    ·simp[h2];omega
   rw[hk];exact k1
def aDY:Nat->kX->List Tx->List Tx×kX
 | 0,st,acc=>(acc,st)
 | n+1,st,acc=>aDY n (jY st 32).2 (acc++[(jY st 32).1])
def dLf(st:kX):Lf×kX:=
 let a:=gV st 8;let b:=gV a.2 8;let k:=mW b.2;let v:=mW k.2;let c:=gV v.2 1;let m:=aDY (min c.1 17) c.2 []
 (⟨((a.1%1000000:Nat):Int),((b.1%1000000:Nat):Int),⟨k.1,v.1⟩,m.1⟩,m.2)
def aBQ:Nat->kX->List Lf->List Lf×kX
 | 0,st,acc=>(acc,st)
 | n+1,st,acc=>aBQ n (dLf st).2 (acc++[(dLf st).1])
def aFc(s:Tx):Pf:=⟨decide ((gV (0,s) 1).1=2),(aBQ (min (gV (gV (0,s) 1).2 1).1 3) (gV (gV (0,s) 1).2 1).2 []).1⟩
def aPx:∀(path acc:List Tx) (r:Tx),(∀d∈path,d.length=32)->aDY path.length (0,path.flatten++r) acc=(acc++path,(0,r))
 | [],acc,r,_=>by simp[aDY]
 | d::path,acc,r,h=>by
  have hd:=h d (by simp);have e:jY (0,d++(path.flatten++r)) 32=(d,(0,path.flatten++r)):=by
   have:=(aJI d).fwd (path.flatten++r);rw[hd] at this;exact this
  rw[qE,aDE,nM,aDY,e];simp only;rw[aPx path (acc++[d]) r (λx hx=>h x (by simp[hx])),nM];rfl
def aXS{f:Lf}(h:f.Ok)(r:Tx):dLf (0,aGg f++r)=(f,(0,r)):=by
 obtain⟨i,n,p,path⟩:=f;obtain⟨i0,i1,n0,n1,k,v,m,d⟩:=h;simp only at i0 i1 n0 n1 k v m d;obtain⟨i,rfl⟩:=zLn i0;obtain⟨n,rfl⟩:=zLn n0;unfold dLf aGg;simp only[rA,nM];rw[(yC (n:=i) (c:=8) (by omega)).fwd];simp only;rw[(yC (n:=n) (c:=8) (by omega)).fwd];simp only;rw[show be p.k.length 2++(p.k++(be p.v.length 2++(p.v++(be path.length 1++(path.flatten++r)))))=(be p.k.length 2++p.k)++(be p.v.length 2++(p.v++(be path.length 1++(path.flatten++r)))) by rw[nM],
  (aIE (l:=p.k) (by omega)).fwd]
 simp only;rw[show be p.v.length 2++(p.v++(be path.length 1++(path.flatten++r)))=(be p.v.length 2++p.v)++(be path.length 1++(path.flatten++r)) by rw[nM],
  (aIE (l:=p.v) (by omega)).fwd]
 simp only;rw[(yC (n:=path.length) (c:=1) (by omega)).fwd];simp only;rw[aHZ (by omega),aPx path [] r d];simp only[sK];rw[aFn (by omega),aFn (by omega)]
def aNq:∀(l acc:List Lf) (r:Tx),(∀f∈l,f.Ok)->aBQ l.length (0,lQ l++r) acc=(acc++l,(0,r))
 | [],acc,r,_=>by simp[aBQ,lQ]
 | f::l,acc,r,h=>by
  rw[qE,lQ,nM,aBQ,aXS (h f (by simp))];simp only;rw[aNq l (acc++[f]) r (λx hx=>h x (by simp[hx])),nM];rfl
def aV6{p:Pf}(h2:p.lv.length≤2)(h:∀f∈p.lv,f.Ok):aFc (aEu p)=p:=by
 have e1:gV (0,aEu p) 1=((if p.ab then 2 else 1),(0,be p.lv.length 1++lQ p.lv)):=by
  unfold aEu;exact(yC (n:=if p.ab then 2 else 1) (c:=1) (by split<;>decide)).fwd _
 have e2:gV (0,be p.lv.length 1++lQ p.lv) 1=(p.lv.length,(0,lQ p.lv)):=(yC (n:=p.lv.length) (c:=1) (by omega)).fwd _;have e3:aBQ p.lv.length (0,lQ p.lv) []=(p.lv,(0,[])):=by
  have:=aNq p.lv [] [] h;rw[zLQ,sK] at this;exact this
 unfold aFc;rw[e1];simp only;rw[e2];simp only;rw[aHZ (by omega),e3];obtain⟨ab,lv⟩:=p;cases ab<;>rfl
def aVF(s:Tx):(if lW (aFc s)=(s,0) then(aFc s,(0:Int)) else(Pf.zero,5))=if (iI s).2=0 then iI s else(Pf.zero,5):=by
 by_cases c:(iI s).2=0
 ·obtain⟨h1,h2,h3⟩:=aSz c;have e:aFc s=(iI s).1:=by
   conv=>lhs;rw[h1]
   exact aV6 h2 h3
  rw[if_pos c,e,aRg h2 h3,if_pos (by rw[←h1])];exact Prod.ext rfl c.symm
 ·rw[if_neg c,if_neg];intro h;apply c;unfold lW at h;split at h
  ·rename_i hc;simp only[Prod.mk.injEq,and_true] at h;have:=aWF hc.1 (λf hf=>Lf.ok_iff.1 (aE6.1 hc.2 f hf));rw[h] at this;rw[this]
  ·simp at h
def aS6(s:Tx)(h:(iI s).2≠0):iI s=(Pf.zero,5):=by
 unfold iI at h ⊢;split
 ·rfl
 ·rename_i c;rw[if_neg c] at h;split
  ·rfl
  ·rename_i d;rw[if_neg d] at h;exact absurd rfl h
def aPj(n:Int):dH PG (build gK #[(0,.int .i64 n)])=some (.agg #[.int .i64 n,.int .i64 0,.int .u64 0,.string ⟨#[]⟩]):=by kernel_rfl
def aPK{h:PH}{a:Nat}{S:List UInt8}{e:Int}{s:List UInt8}(hR:xF h a S e s)(hS:S.length≤1000000000000){kind:Int}{out:Nat×List UInt8×(Int×List UInt8)}
  (ho:(kind=0∧out=((gV (e,s) 1).1,[],(gV (e,s) 1).2))∨(kind=1∧out=((gV (e,s) 8).1,[],(gV (e,s) 8).2))∨(kind=2∧out=(0,(mW (e,s)).1,(mW (e,s)).2))) {k:cD}
  (hk:∀h',xF h' a S out.2.2.1 out.2.2.2->cQ [a] h h'->k (.tuple #[.int .u64 out.1,.string (tx out.2.1)]) h'):
  aT PG mO #[pT a 0,.agg #[.int .i64 kind,.int .i64 0,.int .u64 0,.string ⟨#[]⟩]] h k:=by
 apply pZ.call;unfold pZ;intro r hr;rw[cW];have u1:dD h (h.set r (.cells (Value.agg #[.int .i64 kind,.int .i64 0,.int .u64 0,.string ⟨#[]⟩]).cells gK)):=cQ.new hr;have c0:dB (h.set r (.cells (Value.agg #[.int .i64 kind,.int .i64 0,.int .u64 0,.string ⟨#[]⟩]).cells gK)) ⟨r,0,none⟩=some (.int .i64 kind):=by simp[dB,PH.set,Value.cells]
 generalize h.set r (.cells (Value.agg #[.int .i64 kind,.int .i64 0,.int .u64 0,.string ⟨#[]⟩]).cells gK)=h1 at *;have hR1:=hR.ext u1;have small:∀c:Nat,c≤8->(jY (e,s) (c:Int)).1.length≤8:=λc hc=>zLE (aJW _ c) hc;rcases ho with⟨rfl,rfl⟩|⟨rfl,rfl⟩|⟨rfl,rfl⟩
 ·have q:((0:Int)==0)=true:=rfl;simp only[gK.f0,bR.load,c0,q,cE,reduceIte];refine aK2 hR1 hS 1 λh2 hR2 u2=>?_;simp only[cE,reduceIte];refine aNx (small 1 (by omega)) ?_;exact hk _ hR2 (u1.upd.trans u2)
 ·have q:((1:Int)==0)=false:=rfl;have q1:((1:Int)==1)=true:=rfl;simp only[gK.f0,bR.load,c0,q,q1,cE,reduceIte];refine aK2 hR1 hS 8 λh2 hR2 u2=>?_;simp only[cE,reduceIte];refine aNx (small 8 (by omega)) ?_;exact hk _ hR2 (u1.upd.trans u2)
 ·have q:((2:Int)==0)=false:=rfl;have q1:((2:Int)==1)=false:=rfl;have q2:((2:Int)==2)=true:=rfl;simp only[gK.f0,bR.load,c0,q,q1,q2,cE,reduceIte];refine aK2 hR1 hS 2 λh2 hR2 u2=>?_;by_cases hc:e=0∧0≤(2:Int)∧(2:Int)≤(s.length:Int)
  ·have hd:decide (e=0∧0≤(2:Int)∧(2:Int)≤(s.length:Int))=true:=by simpa using hc
   simp only[hd,cE,reduceIte];refine aNx (l:=(jY (e,s) 2).1) (small 2 (by omega)) ?_;have hlt:=aH6 (e,s) 2;have e1:IntKind.i64.wrap ((val (jY (e,s) 2).1:Nat):Int)=((gV (e,s) 2).1:Int):=by
    show IntKind.i64.wrap (((gV (e,s) 2).1:Nat):Int)=_;rw[fH (by omega) (by omega)]
   simp only[aJQ,e1,cE,reduceIte];refine aK2 hR2 hS _ λh3 hR3 u3=>?_;simp only[cE,reduceIte];exact hk _ hR3 ((u1.upd.trans u2).trans u3)
  ·have hd:decide (e=0∧0≤(2:Int)∧(2:Int)≤(s.length:Int))=false:=by simpa using hc
   simp only[hd,cE,reduceIte];have hraw:jY (e,s) 2=([],(if e=0 then 6 else e,s)):=by unfold jY;rw[if_neg hc]
   have hne:(if e=0 then 6 else e)≠0:=by split<;>simp_all
   have ht:mW (e,s)=([],(if e=0 then 6 else e,s)):=by
    unfold mW gV;show jY (jY (e,s) 2).2 _=_;rw[hraw];show jY (if e=0 then 6 else e,s) _=_;generalize (if e=0 then(6:Int) else e)=e' at *;unfold jY;rw[if_neg (by rintro⟨h1,_⟩;exact hne h1),if_neg hne]
   have:=hk h2;rw[ht] at this;rw[hraw] at hR2;exact this hR2 (u1.upd.trans u2)
def aWS:dH PG (build gK #[(0,.int .i64 3),(1,.int .i64 32)])=some (.agg #[.int .i64 3,.int .i64 32,.int .u64 0,.string ⟨#[]⟩]):=by kernel_rfl
def aZ2(s:List UInt8):dH PG (build fE #[(0,.string (tx s))])=some (.agg #[.string (tx s),.int .i64 0,.int .i64 0]):=by kernel_rfl
def aWp{h:PH}{a:Nat}{S:List UInt8}{st:kX}(hR:xF h a S st.1 st.2)(hS:S.length≤1000000000000){k:cD}
  (hk:∀h',xF h' a S (jY st 32).2.1 (jY st 32).2.2->cQ [a] h h'->k (.tuple #[.int .u64 0,.string (tx (jY st 32).1)]) h'):
  aT PG mO #[pT a 0,.agg #[.int .i64 3,.int .i64 32,.int .u64 0,.string ⟨#[]⟩]] h k:=by
 apply pZ.call;unfold pZ;intro r hr
 try rw[cW]
 have u1:dD h (h.set r (.cells (Value.agg #[.int .i64 3,.int .i64 32,.int .u64 0,.string ⟨#[]⟩]).cells gK)):=cQ.new hr;have X:Bx (h.set r (.cells (Value.agg #[.int .i64 3,.int .i64 32,.int .u64 0,.string ⟨#[]⟩]).cells gK)) r [.int .i64 3,.int .i64 32,.int .u64 0,.string ⟨#[]⟩]:=Bx.new;generalize h.set r (.cells (Value.agg #[.int .i64 3,.int .i64 32,.int .u64 0,.string ⟨#[]⟩]).cells gK)=h1 at *;have c0:dB h1 ⟨r,0,none⟩=some (.int .i64 3):=X.cell 0;have c1:dB h1 ⟨r,1,none⟩=some (.int .i64 32):=X.cell 1;have q0:((3:Int)==0)=false:=rfl;have q1:((3:Int)==1)=false:=rfl;have q2:((3:Int)==2)=false:=rfl;have q3:((3:Int)==3)=true:=rfl;simp only[gK.f0,gK.f1,fQ,bR.load,c0,c1,iG,q0,q1,q2,q3,cE,reduceIte,cZ,Nat.reduceAdd];refine aK2 (hR.ext u1) hS 32 λh2 hR2 u2=>?_;simp only[cE,reduceIte,cZ,Nat.reduceAdd];exact hk h2 hR2 (u1.upd.trans u2)
def aLn{h:PH}{a:Nat}{S:List UInt8}{st:kX}(hR:xF h a S st.1 st.2)(hS:S.length≤1000000000000){k:cD}
  (hk:∀h',xF h' a S (gV st 1).2.1 (gV st 1).2.2->cQ [a] h h'->k (.int .i64 (((gV st 1).1:Nat):Int)) h'):aT PG sI #[pT a 0] h k:=by
 apply aA8.call;unfold aA8;simp only[aPj,cE,reduceIte,cZ,Nat.reduceAdd];refine aPK hR hS (kind:=0) (.inl ⟨rfl,rfl⟩) λh1 R1 u1=>?_;have hlt:=aH6 st 1;have w:IntKind.i64.wrap (((gV st 1).1:Nat):Int)=(((gV st 1).1:Nat):Int):=fH (by omega) (by omega);simp only[aJQ,w,cE,reduceIte,cZ,Nat.reduceAdd];exact hk h1 R1 u1
def aOX{h:PH}{a:Nat}{S:List UInt8}{st:kX}(hR:xF h a S st.1 st.2)(hS:S.length≤1000000000000){k:cD}
  (hk:∀h',xF h' a S (gV st 8).2.1 (gV st 8).2.2->cQ [a] h h'->k (.int .i64 (((gV st 8).1%1000000:Nat):Int)) h'):aT PG xZ #[pT a 0] h k:=by
 apply aA4.call;unfold aA4;simp only[aPj,cE,reduceIte,cZ,Nat.reduceAdd];refine aPK hR hS (kind:=1) (.inr (.inl ⟨rfl,rfl⟩)) λh1 R1 u1=>?_;have rm:∀{t:TypeId} {n:Nat},dH PG (binOp .rem t (.int .u64 (n:Int)) (.int .u64 1000000))=some (.int .u64 ((n%1000000:Nat):Int)):=fun {t n}=>by
  rw[aHO (by decide)];rfl
 have w:IntKind.i64.wrap (((gV st 8).1%1000000:Nat):Int)=(((gV st 8).1%1000000:Nat):Int):=by
  have:=zLB (gV st 8).1 (show 0<1000000 by decide);exact fH (by omega) (by omega)
 simp only[rm,aJQ,w,cE,reduceIte,cZ,Nat.reduceAdd];exact hk h1 R1 u1
def aOd{h:PH}{a:Nat}{S:List UInt8}{st:kX}(hR:xF h a S st.1 st.2)(hS:S.length≤1000000000000){k:cD}
  (hk:∀h',xF h' a S (mW st).2.1 (mW st).2.2->cQ [a] h h'->k (.string (tx (mW st).1)) h'):aT PG yB #[pT a 0] h k:=by
 apply aA1.call;unfold aA1;simp only[aPj,cE,reduceIte,cZ,Nat.reduceAdd];refine aPK hR hS (kind:=2) (.inr (.inr ⟨rfl,rfl⟩)) λh1 R1 u1=>?_;simp only[cE,reduceIte,cZ,Nat.reduceAdd];exact hk h1 R1 u1
def aYq(a b:Int):dH PG (build cB #[(0,.int .i64 a),(1,.int .i64 b)])=some (Lf.val ⟨a,b,⟨[],[]⟩,[]⟩ (.slice none 0 0)):=by kernel_rfl
def aTK:∀(n:Nat) (st:kX) (acc:List Tx),aDY (n+1) st acc=aDY n (jY st 32).2 (acc++[(jY st 32).1]):=λn st acc=>rfl
def aYX{hI h:PH}{r4 r32:Nat}{s:Tx}{st:kX}(hS:s.length≤1000000000000)(R:xF h r4 s st.1 st.2)(u:cQ [r4] hI h)(n32:hI r32=none)(k4:hI r4≠none){a b:Int}{kk vv:Tx}(X:Bx h r32 (Lf.cells ⟨a,b,⟨kk,vv⟩,[]⟩ (.slice none 0 0))){c:Nat}(hc:c<256){t0 t2 t5 t6 t7:Value}{RR:cD}{n16:gJ}
  (hk:∀h' pv G,xF h' r4 s (aDY (min c 17) st []).2.1 (aDY (min c 17) st []).2.2->cQ [r4] hI h'->Bx h' r32 (Lf.cells ⟨a,b,⟨kk,vv⟩,[]⟩ pv)->eM h' bT 1 pv ((aDY (min c 17) st []).1.map jJ) G->eK hI G->(aDY (min c 17) st []).1.length≤17->
   (dY (dH PG (fieldAt cC t5 1)) λv78=>dY (cG PG h' (loadAt cN v78)) λv79=>dY (cG PG h' (loadAt cB (pT r32 0))) λv80=>
    dY (jV PG (buildSlice cN 1 #[(0,v80)])) λx82=>∀r81,h' r81=none->dY (dH PG (x82.2 r81)) λv83=>eN (PH.set h' r81 x82.1) λh84=>dC PG (Builtin.append_ #[cN,cN] cN #[v79,v83]) h84 λv85 h86=>
    dY (dH PG (fieldAt cC t5 1)) λv87=>dC PG (dT cN v87 v85) h86 λv88 h89=>dY (dH PG (binOp BinOp.add bR t7 (Value.int IntKind.i64 1))) λv90=>n16 [t0,t2,pT r4 0,t5,t6,v90] h89)):
  iL [0,2,4,5,6,7,8,9,10] (λn50 ρ h=>aCI RR n16 n50 (ρ 0) (ρ 2) (ρ 4) (ρ 5) (ρ 6) (ρ 7) (ρ 8) (ρ 9) (ρ 10) h) [t0,t2,pT r4 0,t5,t6,t7,pT r32 0,.int .i64 ((c:Nat):Int),.int .i64 0] h:=by
 refine⟨λvs h'=>∃(j:Nat) (st':kX) (acc:List Tx) (pv:Value) (G:List Nat),j≤min c 17∧vs=[t0,t2,pT r4 0,t5,t6,t7,pT r32 0,.int .i64 ((c:Nat):Int),.int .i64 (j:Int)]∧xF h' r4 s st'.1 st'.2∧cQ [r4] hI h'∧Bx h' r32 (Lf.cells ⟨a,b,⟨kk,vv⟩,[]⟩ pv)∧eM h' bT 1 pv (acc.map jJ) G∧eK hI G∧r32∉G∧acc.length=j∧aDY (min c 17-j) st' acc=aDY (min c 17) st [],gQ (min c 17) 8,⟨0,st,[],_,[],by omega,rfl,R,u,X,eM.nil,(λx hx=>by cases hx),by simp,rfl,rfl⟩,?_⟩;rintro ρ h' ⟨j,st',acc,pv,G,hj,hvs,R',u',X',O',fG,nG,hal,hd⟩;simp only[iH,jA,lN,and_true] at hvs;obtain⟨w0,w1,w2,w3,w4,w5,w6,w7,w8⟩:=hvs;unfold aCI;rw[w0,w1,w2,w3,w4,w5,w6,w7,w8];by_cases hlt:j<min c 17
 ·have g1:((j:Int)<((c:Nat):Int))=True:=eq_true (by omega);have g2:((j:Int)<17)=True:=eq_true (by omega);have gj:=qN (i:=j) (by omega);simp only[g1,g2,aWS,cE,reduceIte,cZ,Nat.reduceAdd];refine aWp R' hS λh2 R2 u2=>?_;have n432:r32≠r4:=λe=>k4 (e▸n32);have X2:=X'.upd u2 (by simp only[gB];exact n432);have l4:cG PG h2 (loadAt cP (pT r32 4))=some pv:=by rw[cP.load,X2.cell];rfl
  have G4:∀x∈G,x∉[r4]:=λx hx hm=>by
   simp only[gB] at hm;subst hm;exact k4 (fG _ hx)
  have O2:=O'.upd u2 G4;simp only[cB.f3,fQ,l4,aNX,cE,reduceIte,cZ,Nat.reduceAdd];intro r68 hr68;refine fP ?_
  try rw[cW]
  have u3:dD h2 (h2.set r68 (.cells #[.string (tx (jY st' 32).1)] bT)):=cQ.new hr68;have s3:fZ (h2.set r68 (.cells #[.string (tx (jY st' 32).1)] bT)) 1 (.slice (some ⟨r68,0,none⟩) 1 1) ([(jY st' 32).1].map jJ):=(eM.lit (n:=1) (rows:=[(jY st' 32).1].map jJ) (λr hr=>by simp only[iH,jA,gB] at hr;subst hr;rfl) dL (by simp) (by decide) rfl).slR;generalize h2.set r68 (.cells #[.string (tx (jY st' 32).1)] bT)=h3 at *;refine jK cP.und cP.und bT.info bT.size bT.bytes bT.zero rfl (by decide) (O2.ext u3) s3 (λr hr u hu=>by
   obtain⟨y,hy,rfl⟩:=mJ.1 hr;exact jJ.isC y u hu) (by simp only[iV,zLT];omega) ?_
  intro v5 h5 F5 O5 u5 k5 _;rw[←pO] at O5;have X5:=(X2.ext u3).upd u5 nG;refine cP.put X5 (o:=4) (by show 4<5;decide) O5.slR.isc λh6 X6 u6=>?_;have X6:Bx h6 r32 (Lf.cells ⟨a,b,⟨kk,vv⟩,[]⟩ v5):=X6;have n12:∀x,h2 x=none->hI x=none:=λx hx=>by
   cases e:hI x with
   | none=>rfl
   | some o=>
    exfalso;by_cases hx4:x=r4
    ·subst hx4;have:=R2.here;rw[hx] at this;cases this
    ·have:=(u'.trans u2) x o e (by simp[hx4]);rw[hx] at this;cases this
  have f5:eK hI F5:=λx hx=>by
   rcases k5 x hx with hx|hx
   ·exact fG x hx
   ·exact n12 x (u3.none hx)
  have n5:r32∉F5:=λhm=>by
   rcases k5 _ hm with hx|hx
   ·exact nG hx
   ·exact(X2.ext u3).known hx
  have U6:cQ [r4] hI h6:=(((u'.trans u2).trans u3.upd).then u5 (λx hx=>.inr (fG x hx))).then u6 (λx hx=>by simp only[gB] at hx;subst hx;exact .inr n32)
  have R6:xF h6 r4 s (jY st' 32).2.1 (jY st' 32).2.2:=((R2.ext u3).upd u5 (λhm=>k4 (fG _ hm))).upd u6 (by simp only[gB];exact n432.symm);simp only[gj,cE,reduceIte,cZ,Nat.reduceAdd];refine⟨⟨j+1,_,acc++[(jY st' 32).1],v5,F5,by omega,rfl,R6,U6,X6,O5.upd u6 (λx hx=>by simp only[gB];rintro rfl;exact n5 hx),f5,n5,by simp[hal],?_⟩,by simp[gQ,w8];omega⟩;rw[←hd,show min c 17-j=(min c 17-(j+1))+1 by omega,aTK]
 ·have hj':j=min c 17:=by omega
  rw[hj',aKu] at hd;have hd':aDY (min c 17) st []=(acc,st'):=hd.symm;rw[hd'] at hk;have hcond:dY (dH PG (binOp BinOp.lss bR (.int .i64 (j:Int)) (.int .i64 ((c:Nat):Int))))=λk=>k (.bool (decide ((j:Int)<(c:Int)))):=by
   funext k;rw[aR3];rfl
  have hk:=hk h' pv G R' u' X' O' fG (by simp only;omega);by_cases hjc:j<c
  ·have g1:((j:Int)<((c:Nat):Int))=True:=eq_true (by omega);have g2:((j:Int)<17)=False:=eq_false (by omega);simp only[g1,g2,cE,reduceIte,cZ,Nat.reduceAdd];simp only[cE,reduceIte,cZ,Nat.reduceAdd] at hk;exact hk
  ·have g1:((j:Int)<((c:Nat):Int))=False:=eq_false (by omega);simp only[g1,cE,reduceIte,cZ,Nat.reduceAdd];simp only[cE,reduceIte,cZ,Nat.reduceAdd] at hk;exact hk
def aQm(n:Nat)(st:kX)(acc:List Lf):aBQ (n+1) st acc=aBQ n (dLf st).2 (acc++[(dLf st).1]):=rfl
def xF.known{h:PH}{a:Nat}{S:List UInt8}{e:Int}{s:List UInt8}(H:xF h a S e s):h a≠none:=by rw[H.here];simp
def cQ.grow1{h h1:PH}{K:List Nat}(u:cQ K h h1)(hK:∀x∈K,h1 x≠none){x:Nat}(hx:h1 x=none):h x=none:=by
 cases e:h x with
 | none=>rfl
 | some o=>
  exfalso;by_cases c:x∈K
  ·exact hK x c hx
  ·have:=u x o e c;rw[hx] at this;cases this
def bAK(b:Bool):dH PG (build cC #[(0,.bool b)])=some (Pf.val b (.slice none 0 0)):=aL4 b
def aQU{h:PH}{s:Tx}(hS:s.length≤1000000000){k:cD}
  (hk:∀h' v,oB h h' v (iI s).1.lv->dD h h'->k (.tuple #[Pf.val (iI s).1.ab v,.int .i64 (iI s).2]) h'):aT PG zX #[.string (tx s)] h k:=by
 have hS12:s.length≤1000000000000:=by omega
 apply tY.call;unfold tY;intro r1 hr1
 try rw[cW]
 have u1:dD h (h.set r1 (.cells (dV PG cC) cC)):=cQ.new hr1;have Z1:Bx (h.set r1 (.cells (dV PG cC) cC)) r1 [.bool false,.slice none 0 0]:=cC.zbox;generalize h.set r1 (.cells (dV PG cC) cC)=h1 at *;simp only[aZ2,cE,reduceIte,cZ,Nat.reduceAdd];intro r4 hr4
 try rw[cW]
 have n14:r1≠r4:=Z1.apart hr4;have u4:dD h1 (h1.set r4 (.cells (Value.cells (.agg #[.string (tx s),.int .i64 0,.int .i64 0])) fE)):=cQ.new hr4;have R4:xF (h1.set r4 (.cells (Value.cells (.agg #[.string (tx s),.int .i64 0,.int .i64 0])) fE)) r4 s ((0,s):kX).1 ((0,s):kX).2:=⟨by rw[dL];simp[Value.cells],by simp,nC _⟩;generalize h1.set r4 (.cells (Value.cells (.agg #[.string (tx s),.int .i64 0,.int .i64 0])) fE)=h4 at *;refine aLn R4 hS12 λh5 R5 u5=>?_;have Z5:=(Z1.ext u4).upd u5 (by simp only[gB];exact n14);obtain⟨ab,hab⟩:∃ab,ab=decide ((gV (0,s) 1).1=2):=⟨_,rfl⟩;have qab:((((gV (0,s) 1).1:Nat):Int)==2)=ab:=by
  rw[hab];by_cases c:(gV (0,s) 1).1=2
  ·simp[c]
  ·have:¬((((gV (0,s) 1).1:Nat):Int)=2):=by omega
   simp[c,this]
 simp only[iG,qab,bAK,cE,reduceIte,cZ,Nat.reduceAdd];intro r10 hr10
 try rw[cW]
 have n110:r1≠r10:=Z5.apart hr10;have n410:r4≠r10:=λe=>R5.known (e▸hr10);refine cC.fill (vs:=[.bool ab,.slice none 0 0]) hr10 rfl (by simp[fW]) λh6 X6 u6=>?_;refine aLn (R5.ext u6) hS12 λhB RB uB=>?_;have XB:=X6.upd uB (by simp only[gB];exact n410.symm);have ZB:=(Z5.ext u6).upd uB (by simp only[gB];exact n14)
 -- what is new since h
 have UB:cQ [] h hB:=((u1.trans u4).upd.then u5 (λx hx=>by simp only[gB] at hx;subst hx;exact .inr (u1.none hr4))).trans u6 |>.then uB (λx hx=>by simp only[gB] at hx;subst hx;exact .inr (u1.none hr4))
 have nB:∀x,hB x=none->h x=none:=λx hx=>cQ.grow1 UB (λy hy=>by cases hy) hx;have k4B:hB r4≠none:=RB.known;have k10B:hB r10≠none:=XB.known;have h10h:h r10=none:=by
  cases e:h r10 with
  | none=>rfl
  | some o=>
   exfalso;have:h5 r10=some o:=(((u1.trans u4).upd (F:=[])).then u5 (λx hx=>by simp only[gB] at hx;subst hx;exact .inr (u1.none hr4))) r10 o e (by simp);rw[hr10] at this;cases this
 obtain⟨n,hn⟩:∃n,n=(gV (gV (0,s) 1).2 1).1:=⟨_,rfl⟩;rw[←hn];obtain⟨st0,hst0⟩:∃st0,st0=(gV (gV (0,s) 1).2 1).2:=⟨_,rfl⟩;have RB:xF hB r4 s st0.1 st0.2:=by rw[hst0];exact RB
 have hdr:aFc s=⟨ab,(aBQ (min n 3) st0 []).1⟩:=by rw[hab,hn,hst0];rfl
 refine⟨λvs h'=>∃(i:Nat) (st:kX) (fs:List Lf) (v:Value),i≤min n 3∧vs=[.string (tx s),pT r1 0,pT r4 0,pT r10 0,.int .i64 ((n:Nat):Int),.int .i64 (i:Int)]∧xF h' r4 s st.1 st.2∧Bx h' r10 [.bool ab,v]∧Bx h' r1 [.bool false,.slice none 0 0]∧oB hB h' v fs∧cQ [r4,r10] hB h'∧fs.length=i∧aBQ (min n 3-i) st fs=aBQ (min n 3) st0 [],gQ (min n 3) 5,⟨0,st0,[],_,by omega,rfl,RB,XB,ZB,oB.nil,cQ.refl,rfl,rfl⟩,?_⟩;rintro ρ h' ⟨i,st,fs,v,hi,hvs,R,X,Z,L,U,hfl,hd⟩;simp only[iH,jA,lN,and_true] at hvs;obtain⟨w0,w1,w2,w3,w4,w5⟩:=hvs;unfold aFu;rw[w0,w1,w2,w3,w4,w5];have nB':∀x,h' x=none->hB x=none:=λx hx=>U.grow1 (λy hy=>by
  simp only[gU,lH,or_false] at hy;rcases hy with rfl|rfl
  ·exact R.known
  ·exact X.known) hx
 by_cases hlt:i<min n 3
 ·have g1:((i:Int)<((n:Nat):Int))=True:=eq_true (by omega);have g2:((i:Int)<3)=True:=eq_true (by omega);have gi:=qN (i:=i) (by omega);simp only[g1,g2,cE,reduceIte,cZ,Nat.reduceAdd];obtain⟨a,ha⟩:∃a,a=gV st 8:=⟨_,rfl⟩;refine aOX R hS12 λh2 R2 u2=>?_;rw[←ha] at R2 ⊢;obtain⟨b,hb⟩:∃b,b=gV a.2 8:=⟨_,rfl⟩;refine aOX R2 hS12 λh3 R3 u3=>?_;rw[←hb] at R3 ⊢;have u23:=u2.trans u3;simp only[aYq,cE,reduceIte,cZ,Nat.reduceAdd];intro r32 hr32
  try rw[cW]
  have n432:r32≠r4:=λe=>R3.known (e▸hr32);have n32':h' r32=none:=u23.grow1 (λy hy=>by simp only[gB] at hy;subst hy;exact R3.known) hr32;refine cB.fill (vs:=Lf.cells ⟨((a.1%1000000:Nat):Int),((b.1%1000000:Nat):Int),⟨[],[]⟩,[]⟩ (.slice none 0 0)) hr32 rfl (Lf.isC _ rfl) λh5' X5 u5'=>?_;obtain⟨kk,hkk⟩:∃kk,kk=mW b.2:=⟨_,rfl⟩;refine aOd (R3.ext u5') hS12 λh7 R7 u7=>?_;rw[←hkk] at R7 ⊢;have X7:=X5.upd u7 (by simp only[gB];exact n432);simp only[cB.f2,cM.f0,fQ,cE,reduceIte,cZ,Nat.reduceAdd];refine bT.put X7 (o:=2) (by show 2<5;decide) rfl λh8 X8 u8=>?_;have X8:Bx h8 r32 (Lf.cells ⟨((a.1%1000000:Nat):Int),((b.1%1000000:Nat):Int),⟨kk.1,[]⟩,[]⟩ (.slice none 0 0)):=X8;have R8:=R7.upd u8 (by simp only[gB];exact n432.symm);obtain⟨vv,hvv⟩:∃vv,vv=mW kk.2:=⟨_,rfl⟩;refine aOd R8 hS12 λh9 R9 u9=>?_;rw[←hvv] at R9 ⊢;have X9:=X8.upd u9 (by simp only[gB];exact n432);simp only[cB.f2,cM.f1,fQ,Nat.reduceAdd,cE,reduceIte,cZ,Nat.reduceAdd];refine bT.put X9 (o:=3) (by show 3<5;decide) rfl λh10 X10 u10=>?_;have X10:Bx h10 r32 (Lf.cells ⟨((a.1%1000000:Nat):Int),((b.1%1000000:Nat):Int),⟨kk.1,vv.1⟩,[]⟩ (.slice none 0 0)):=X10;have R10':=R9.upd u10 (by simp only[gB];exact n432.symm);obtain⟨c,hc⟩:∃c,c=gV vv.2 1:=⟨_,rfl⟩;refine aLn R10' hS12 λh11 R11 u11=>?_;rw[←hc] at R11 ⊢;have hc256:c.1<256:=by rw[hc];exact aH6 vv.2 1
  have X11:=X10.upd u11 (by simp only[gB];exact n432);have s32:∀x∈[r32],x∈[r4]∨h' x=none:=λx hx=>by simp only[gB] at hx;subst hx;exact .inr n32'
  have U11:cQ [r4] h' h11:=(((((u23.trans u5'.upd).trans u7).then u8 s32).trans u9).then u10 s32).trans u11;refine aYX hS12 R11 U11 n32' R.known X11 hc256 λh12 pv G R12 U12 X12 O12 f12 hl12=>?_;generalize hm:aDY (min c.1 17) c.2 []=mm at R12 O12 hl12;have hdl:dLf st=(⟨((a.1%1000000:Nat):Int),((b.1%1000000:Nat):Int),⟨kk.1,vv.1⟩,mm.1⟩,mm.2):=by
   rw[ha] at *;rw[←hm,hc,hvv,hkk,hb];rfl
  have n1032:r10≠r4:=n410.symm;have X12':Bx h12 r10 [.bool ab,v]:=X.upd U12 (by simp only[gB];exact n1032);have Z12:=Z.upd U12 (by simp only[gB];exact n14);have l10:cG PG h12 (loadAt cN (pT r10 1))=some v:=by rw[cN.load,X12'.cell];rfl
  have l32:cG PG h12 (loadAt cB (pT r32 0))=some (Lf.val ⟨((a.1%1000000:Nat):Int),((b.1%1000000:Nat):Int),⟨kk.1,vv.1⟩,mm.1⟩ pv):=Lf.boxC (f:=⟨((a.1%1000000:Nat):Int),((b.1%1000000:Nat):Int),⟨kk.1,vv.1⟩,mm.1⟩) X12;simp only[cC.f1,fQ,l10,l32,cE,reduceIte,cZ,Nat.reduceAdd];have n12B:∀x,h12 x=none->hB x=none:=λx hx=>nB' x (U12.grow1 (λy hy=>by simp only[gB] at hy;subst hy;exact R12.known) hx);refine oB.push (b:=r4) (m:=r4) (h1:=h') (f:=⟨((a.1%1000000:Nat):Int),((b.1%1000000:Nat):Int),⟨kk.1,vv.1⟩,mm.1⟩) L k4B k4B (U12.mono λx hx=>.inl (by simp only[gB] at hx;simp[hx])) nB' n12B O12 f12 (by omega) λh13 v13 F13 L13 f13 u13=>?_;have q10:r10∉F13:=λhm'=>k10B (f13 _ hm');have q4:r4∉F13:=λhm'=>k4B (f13 _ hm');have q1:r1∉F13:=λhm'=>ZB.known (f13 _ hm');have X13:=X12'.upd u13 q10;refine cN.put X13 (o:=1) (by show 1<2;decide) L13.isc λh14 X14 u14=>?_;have X14:Bx h14 r10 [.bool ab,v13]:=X14;simp only[gi,cE,reduceIte,cZ,Nat.reduceAdd];refine⟨⟨i+1,mm.2,fs++[(⟨((a.1%1000000:Nat):Int),((b.1%1000000:Nat):Int),⟨kk.1,vv.1⟩,mm.1⟩:Lf)],v13,by omega,rfl,((R12.upd u13 q4).upd u14 (by simp only[gB];exact n410)),X14,(Z12.upd u13 q1).upd u14 (by simp only[gB];exact n110),L13.upd u14 (λx hx=>by simp only[gB] at hx;subst hx;exact k10B),?_,by simp[hfl],?_⟩,by simp[gQ,w5];omega⟩
  ·exact((U.trans (U12.mono λx hx=>.inl (by simp only[gB] at hx;simp[hx]))).then u13 (λx hx=>.inr (f13 x hx))).trans (u14.mono λx hx=>.inl (by simp only[gB] at hx;simp[hx]))
  ·rw[←hd,show min n 3-i=(min n 3-(i+1))+1 by omega,aQm,hdl]
 ·have hi':i=min n 3:=by omega
  rw[hi',aKu] at hd;have hfs:(aBQ (min n 3) st0 []).1=fs:=by rw[←hd];rfl
  have hdr:aFc s=⟨ab,fs⟩:=by rw[hdr,hfs]
  have EX:∀{h'':PH},cQ [r4,r10,r1] hB h''->dD h h'':=fun {h''} w=>UB.then w (λx hx=>by
   simp only[gU,lH,or_false] at hx;rcases hx with rfl|rfl|rfl
   ·exact .inr (u1.none hr4)
   ·exact .inr h10h
   ·exact .inr hr1)
  have fin:dY (cG PG h' (loadAt cC (pT r10 0))) λv91=>aT PG uF #[v91] h' λv92 h93=>dY (dH PG (extract v92 0)) λv94=>dY (dH PG (extract v92 1)) λv95=>dY (cG PG h93 (jT BinOp.neq bR (.tmp 80) (.const (Value.int IntKind.i64 0)) v95 (Value.int IntKind.i64 0))) λv96=>
    mZ (yV v96) false (λk99=>k99 v94 h93) h93 λv97 h98=>mZ (yV v96) false (λk102=>k102 (.string (tx s)) h98) h98 λv100 h101=>mZ (yV v96) false (λk105=>dY (cG PG h101 (jT BinOp.neq bT (.tmp 83) (.tmp 84) v97 v100)) λv106=>k105 v106 h101) h101 λv103 h104=>dY (fK v96 (Value.bool true) v103) λv107=>
    dK v107 (dY (dH PG (build cC #[])) λv108=>dC PG (dT cC (pT r1 0) v108) h104 λv109 h110=>dY (cG PG h110 (loadAt cC (pT r1 0))) λv111=>k (Value.tuple #[v111,(Value.int IntKind.i64 5)]) h110)
    (dY (cG PG h104 (loadAt cC (pT r10 0))) λv112=>dC PG (dT cC (pT r1 0) v112) h104 λv113 h114=>dY (cG PG h114 (loadAt cC (pT r1 0))) λv115=>k (Value.tuple #[v115,(Value.int IntKind.i64 0)]) h114):=by
   obtain⟨l,F,el,OL,fF,LL⟩:=L.here;have hll:l.length≤1000000:=by
    have:l.length=fs.length:=by rw[←el,iV]
    omega
   simp only[Pf.boxC X,cE,reduceIte,cZ,Nat.reduceAdd];refine aQK (ab:=ab) OL.slR LL.lfs hll λh2 u2=>?_;rw[el,←hdr];have hpe:=aVF s;have U2:cQ [r4,r10,r1] hB h2:=(U.trans u2.upd).mono λx hx=>.inl (by simp only[gU,lH,or_false] at hx;rcases hx with rfl|rfl<;>simp);have L2:oB hB h2 v fs:=L.upd u2 (by simp);by_cases cp:lW (aFc s)=(s,0)
   ·rw[if_pos cp] at hpe;have h0:(iI s).2=0:=by
     by_cases c:(iI s).2=0
     ·exact c
     ·rw[if_neg c] at hpe;exact absurd (show(0:Int)=5 from congrArg Prod.snd hpe) (by decide)
    rw[if_pos h0] at hpe;rw[←hpe,hdr] at hk;rw[cp];have q1:((0:Int) !=0)=false:=rfl;have q2:(!decide (s=s))=false:=by simp
    simp only[kW,q1,aGC,q2,Pf.boxC (X.ext u2),cE,reduceIte,cZ,Nat.reduceAdd];refine cC.put (vs:=[.bool ab,v]) (Z.ext u2) (o:=0) rfl (by show 0+2≤2;decide) (by
     have:=L.isc;simp[fW];exact this) λh3 Z3 u3=>?_
    have Z3:Bx h3 r1 [.bool ab,v]:=Z3;simp only[Pf.boxC Z3,cE,reduceIte,cZ,Nat.reduceAdd];refine hk h3 v ?_ (EX (U2.trans (u3.mono λx hx=>.inl (by simp only[gB] at hx;simp[hx]))));have L3:oB hB h3 v fs:=L2.upd u3 (λx hx=>by simp only[gB] at hx;subst hx;exact ZB.known);obtain⟨l',F',e',O',f',L'⟩:=L3.here;exact⟨l',F',e',O',λx hx=>nB x (f' x hx),λy hy=>by
     obtain⟨G,a1,a2,a3⟩:=L' y hy;exact⟨G,a1,λx hx=>nB x (a2 x hx),a3⟩⟩
   ·rw[if_neg cp] at hpe;have h0:(iI s).2≠0:=λc=>by
     rw[if_pos c] at hpe;have:=congrArg Prod.snd hpe;rw[c] at this;cases this
    rw[aS6 s h0] at hk;have bad:dY (dH PG (build cC #[])) λv108=>dC PG (dT cC (pT r1 0) v108) h2 λv109 h110=>dY (cG PG h110 (loadAt cC (pT r1 0))) λv111=>k (Value.tuple #[v111,(Value.int IntKind.i64 5)]) h110:=by
     simp only[aHI,cE,reduceIte,cZ,Nat.reduceAdd];refine cC.put (vs:=[.bool false,.slice none 0 0]) (Z.ext u2) (o:=0) rfl (by show 0+2≤2;decide) (by simp[fW]) λh3 Z3 u3=>?_;have Z3:Bx h3 r1 [.bool false,.slice none 0 0]:=Z3;simp only[Pf.boxC Z3,cE,reduceIte,cZ,Nat.reduceAdd];exact hk h3 _ oB.nil (EX (U2.trans (u3.mono λx hx=>.inl (by simp only[gB] at hx;simp[hx]))))
    by_cases c0:(lW (aFc s)).2=0
    ·have q1:((lW (aFc s)).2 !=0)=false:=by simp[c0]
     have q2:(!decide ((lW (aFc s)).1=s))=true:=by
      have:¬(lW (aFc s)).1=s:=λe=>cp (Prod.ext e c0);simp[this]
     simp only[kW,q1,aGC,q2,cE,reduceIte,cZ,Nat.reduceAdd]
     try simp only[cE,reduceIte,cZ,Nat.reduceAdd] at bad
     exact bad
    ·have q1:((lW (aFc s)).2 !=0)=true:=by simpa using c0
     simp only[kW,q1,cE,reduceIte,cZ,Nat.reduceAdd]
     try simp only[cE,reduceIte,cZ,Nat.reduceAdd] at bad
     exact bad
  by_cases hin:i<n
  ·have g1:((i:Int)<((n:Nat):Int))=True:=eq_true (by omega);have g2:((i:Int)<3)=False:=eq_false (by omega);simp only[g1,g2,cE,reduceIte,cZ,Nat.reduceAdd]
   try simp only[cE,reduceIte,cZ,Nat.reduceAdd] at fin
   exact fin
  ·have g1:((i:Int)<((n:Nat):Int))=False:=eq_false (by omega);simp only[g1,cE,reduceIte,cZ,Nat.reduceAdd]
   try simp only[cE,reduceIte,cZ,Nat.reduceAdd] at fin
   exact fin
end
end Go.Proofs.YtppgkeodaejgcaaGreatDoor
