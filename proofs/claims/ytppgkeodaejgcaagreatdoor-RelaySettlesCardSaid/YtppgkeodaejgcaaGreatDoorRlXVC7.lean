/- The texts of this claim, put together. -/
import Derived.Test.YtppgkeodaejgcaaGreatDoorRlXVC6
set_option linter.all false
set_option maxRecDepth 100000
open Go.Instr (loadAt fieldAt indexAt extract buildSlice build)
namespace Go.Proofs.YtppgkeodaejgcaaGreatDoor
section
open Go
theorem aXn(f0 f1 f2 f3 f4 f5:Value)(e0 e1 e2 e3 e4 e5:Int):jK PG (buildSlice jD 6 #[(0,.agg #[f0,.int .i64 e0]),(1,.agg #[f1,.int .i64 e1]),(2,.agg #[f2,.int .i64 e2]),(3,.agg #[f3,.int .i64 e3]),(4,.agg #[f4,.int .i64 e4]),(5,.agg #[f5,.int .i64 e5])])=some (.cells #[f0,.int .i64 e0,f1,.int .i64 e1,f2,.int .i64 e2,f3,.int .i64 e3,f4,.int .i64 e4,f5,.int .i64 e5] cK,λr=>pure (.slice (some ⟨r,0,none⟩) 6 6)):=by kernel_rfl
theorem aJd(L:List Pr)(p:Pr):(nH L p).length≤L.length+1:=by
 have:∀L:List Pr,(L.filter λq=>decide (q.k<p.k)).length+(L.filter λq=>decide (p.k<q.k)).length≤L.length:=by
  intro L;induction L with
  | nil=>simp
  | cons a L ih=>
   by_cases h1:a.k<p.k
   ·have h2:¬p.k<a.k:=λh=>zL0 _ (List.lt_trans h1 h);rw[List.filter_cons_of_pos (by simpa using h1),List.filter_cons_of_neg (by simpa using h2),rN,rN];omega
   ·by_cases h2:p.k<a.k
    ·rw[List.filter_cons_of_neg (by simpa using h1),List.filter_cons_of_pos (by simpa using h2),rN,rN];omega
    ·rw[List.filter_cons_of_neg (by simpa using h1),List.filter_cons_of_neg (by simpa using h2),rN];omega
 have h:=this L;unfold nH;rw[jP,rN];omega
theorem aQA(p:Pk):(aBs p).length≤64:=by
 unfold aBs aHA;split
 ·exact zLD (Nat.le_of_eq rfl) (show 32≤64 by decide)
 ·simp
noncomputable def tO(s:Ch)(p:Pk)(pf:Tx)(x:Int):List (Int×Bool):=[(1,p.right&&(p.f==1-s.id)),(10,decide (IntKind.u64.wrap ((s.st.height:Int)+1)<p.t)),(4,!(gG s.st.now (fS 114 p.s.toNat)).isSome),(11,(kO s.cl x).isSome),(9,aCd (pX s.cl x) pf (fS 99 p.s.toNat) (mN p)),(2,decide (s.st.now.length+2≤4096))]
def Ch.received(s:Ch)(p:Pk):Ch:=((s.put (fS 114 p.s.toNat) [1]).put (fS 97 p.s.toNat) (aBs p)).add ⟨2,p⟩
theorem aUy{h:PH}{c:Nat}{s:Ch}{F:List Nat}(hK:mU h)(H:iF c s h F)(h0F:0∉F){p:Pk}(w:p.wf){pf:Tx}{x:Int}(hl:s.nts.length<1000000){kk:cE}
  (hbad:rB s (tO s p pf x)≠0->∀h',iF c s h' F->cZ h h'->kk (.int .i64 (rB s (tO s p pf x))) h')
  (hk:rB s (tO s p pf x)=0->∀h' F',iF c (s.received p) h' F'->iX h F h' F'->kk (.int .i64 0) h'):
  aT PG aD0 #[pT c 0,p.v,.string (tx pf),.int .u64 x] h kk:=by
 apply wN.call;unfold wN;obtain⟨n,hn⟩:=zLn w.1;have hn2:n<18446744073709551616:=by have:=w.2.1;omega
 intro r1 hr1
 try rw[cW]
 have u1:cZ h (h.set r1 (.cells (Value.cells (pT c 0)) dE)):=cU.new hr1;have B1:Bx (h.set r1 (.cells (Value.cells (pT c 0)) dE)) r1 [pT c 0]:=Bx.new;generalize h.set r1 (.cells (Value.cells (pT c 0)) dE)=h1 at *;intro r3 hr3
 try rw[cW]
 have u3:cZ h1 (h1.set r3 (.cells (Value.cells p.v) aR)):=cU.new hr3;have B3:Bx (h1.set r3 (.cells (Value.cells p.v) aR)) r3 p.cells:=Bx.new;generalize h1.set r3 (.cells (Value.cells p.v) aR)=h3 at *;intro r5 hr5
 try rw[cW]
 have u5:cZ h3 (h3.set r5 (.cells (Value.cells (.string (tx pf))) bR)):=cU.new hr5;have B5:Bx (h3.set r5 (.cells (Value.cells (.string (tx pf))) bR)) r5 [.string (tx pf)]:=Bx.new;generalize h3.set r5 (.cells (Value.cells (.string (tx pf))) bR)=h5 at *;have e5:=(u1.trans u3).trans u5;have C1:=(B1.ext u3).ext u5;have C3:=B3.ext u5;have H5:=(iF.good c s).ext H e5;have k1:h r1=none:=hr1;have k3:h r3=none:=u1.none hr3;have lc:∀{h'':PH},cZ h5 h''->cD PG h'' (loadAt dE (pT r1 0))=some (pT c 0):=λv=>by rw[dE.load,(C1.ext v).cell];rfl
 have lpk:∀{h'':PH},cZ h5 h''->cD PG h'' (loadAt aR (pT r3 0))=some p.v:=λv=>(C3.ext v).pk rfl;have ls:∀{h'':PH},cZ h5 h''->cD PG h'' (loadAt cA (pT r3 1))=some (.int .u64 (n:Int)):=λv=>by rw[cA.load,(C3.ext v).cell,←hn];rfl
 have lt:∀{h'':PH},cZ h5 h''->cD PG h'' (loadAt cA (pT r3 2))=some (.int .u64 p.t):=λv=>by rw[cA.load,(C3.ext v).cell];rfl
 have lpf:∀{h'':PH},cZ h5 h''->cD PG h'' (loadAt bR (pT r5 0))=some (.string (tx pf)):=λv=>by rw[bR.load,(B5.ext v).cell];rfl
 simp only[lc cU.refl,mV,cG,reduceIte,cT,Nat.reduceAdd];refine aLx (f:=λroot=>aCd root pf (fS 99 p.s.toNat) (mN p)) H5 rfl (λh' u root k' hk'=>?_) λh4 f1 f2 c1 c2 R1 R2 u4=>?_
 ·show aT PG aCR #[.string (tx root),pT r5 0,pT r3 0] h' k';apply tD.call;unfold tD;simp only[lpf u,lpk u,aR.f1,fE,ls u,cG,reduceIte,cT,Nat.reduceAdd];refine aIf hn2 λh6 u6=>?_;refine⟨lpk (u.trans u6),lpf (u.trans u6),?_⟩;refine aFd w (hK.ext ((e5.trans u).trans u6)) λh7 u7=>?_;refine⟨lpf ((u.trans u6).trans u7),?_⟩;refine aUC (hK.ext (((e5.trans u).trans u6).trans u7)) λh8 u8=>?_;have:=hk' h8 ((u6.trans u7).trans u8);rw[hn] at this;exact this
 have e4:=e5.trans u4;simp only[cG,reduceIte,cT,Nat.reduceAdd];intro r13 hr13
 try rw[cW]
 have u6:cZ h4 (h4.set r13 (.cells (dP PG cK) cK)):=cU.new hr13;have Z13:=cK.zbox (h:=h4) (r:=r13);generalize h4.set r13 (.cells (dP PG cK) cK)=h6 at *;intro r15 hr15
 try rw[cW]
 have u7:cZ h6 (h6.set r15 (.cells (dP PG cK) cK)):=cU.new hr15;have Z15:=cK.zbox (h:=h6) (r:=r15);have n1315:r13≠r15:=Z13.apart hr15;have Y13:=Z13.ext u7;generalize h6.set r15 (.cells (dP PG cK) cK)=h7 at *;have k13:h4 r13=none:=hr13;have k15:h4 r15=none:=u6.none hr15;refine cK.put (vs:=[f1,.int .i64 11]) Y13 (o:=0) rfl (by show 0+2≤2;decide) (by simp only[gP,kL,or_false];rintro z (rfl|rfl);exact c1;rfl) λh8 B8 u8=>?_;refine cK.put (vs:=[f2,.int .i64 9]) (Z15.upd u8 (by simpa using n1315.symm)) (o:=0) rfl (by show 0+2≤2;decide) (by simp only[gP,kL,or_false];rintro z (rfl|rfl);exact c2;rfl) λh9 B9 u9=>?_;have e49:cZ h4 h9:=((u6.trans u7).fresh u8 (eD.one k13)).fresh u9 (eD.one k15);have D13:=B8.upd u9 (by simpa using n1315);have v59:cZ h5 h9:=u4.trans e49;have H9:=(iF.good c s).ext H5 v59;obtain⟨sp,m,cp,nv,bv,lk,P,perm,ok⟩:=H9;have H9:iF c s h9 F:=⟨sp,m,cp,nv,bv,lk,P,perm,ok⟩;have hid:=ok.id;have w1:IntKind.i64.wrap (1-s.id)=1-s.id:=eV (by omega) (by omega);have l13:∀{h'':PH},cZ h9 h''->cD PG h'' (loadAt cK (pT r13 0))=some (.agg #[f1,.int .i64 11]):=λv=>cK.agg (D13.ext v) (by show 0+2≤2;decide);have l15:∀{h'':PH},cZ h9 h''->cD PG h'' (loadAt cK (pT r15 0))=some (.agg #[f2,.int .i64 9]):=λv=>cK.agg (B9.ext v) (by show 0+2≤2;decide);simp only[lc v59,lpk v59,dX.f1,fE,Ch.load5 P.cell,w1,mV,aJ8,l13 cU.refl,l15 cU.refl,cG,reduceIte,cT,Nat.reduceAdd];refine aP0 λh10 f0 c0 R0 u10=>?_;have v510:=v59.trans u10;refine⟨l15 u10,l13 u10,lc v510,?_⟩;simp only[aXn,cG,reduceIte,cT,Nat.reduceAdd];intro r38 hr38;refine fI ?_
 try rw[cW]
 obtain⟨rs,hrs⟩:∃rs:List RuV,rs=[(f0,1,p.right&&(p.f==1-s.id)),(.func (.func tL) #[] #[pT r3 0,pT r1 0],10,decide (IntKind.u64.wrap ((s.st.height:Int)+1)<p.t)),(.func (.func sX) #[] #[pT r1 0,pT r3 0],4,!(gG s.st.now (fS 114 p.s.toNat)).isSome),(f1,11,(kO s.cl x).isSome),(f2,9,aCd (pX s.cl x) pf (fS 99 p.s.toNat) (mN p)),(.func (.func sJ) #[] #[pT r1 0],2,decide (s.st.now.length+2≤4096))]:=⟨_,rfl⟩;have ecells:(#[f0,.int .i64 1,.func (.func tL) #[] #[pT r3 0,pT r1 0],.int .i64 10,.func (.func sX) #[] #[pT r1 0,pT r3 0],.int .i64 4,f1,.int .i64 11,f2,.int .i64 9,.func (.func sJ) #[] #[pT r1 0],.int .i64 2]:Array Value)=(rs.map mF).flatten.toArray:=by rw[hrs];rfl
 have ers:aMz s rs=rB s (tO s p pf x):=by rw[aOi,hrs];rfl
 rw[ecells];have u11:cZ h10 (h10.set r38 (.cells (rs.map mF).flatten.toArray cK)):=cU.new hr38;have S11:fR (h10.set r38 (.cells (rs.map mF).flatten.toArray cK)) 2 (.slice (some ⟨r38,0,none⟩) 6 6) (rs.map mF):=(dZ.lit (mF.rows rs) dL (by rw[hrs];simp) (by decide) (by simp)).slR;generalize h10.set r38 (.cells (rs.map mF).flatten.toArray cK)=h11 at *;have v511:=v510.trans u11;have e411:=(e49.trans u10).trans u11;have H11:=(iF.good c s).ext H5 v511;have hrules:aHY h11 rs:=λy hy=>by
  rw[hrs] at hy;simp only[gP,kL,or_false] at hy;rcases hy with rfl|rfl|rfl|rfl|rfl|rfl
  ·exact⟨c0,R0.ext u11⟩
  ·refine⟨rfl,λh' u k' hk'=>?_⟩;show aT PG tL #[pT r3 0,pT r1 0] h' k';apply tJ.call;unfold tJ;obtain⟨sp,m,cp,nv,bv,lk,P,perm,ok⟩:=(iF.good c s).ext H11 u;obtain⟨Fs,St,-,-⟩:=P.fSt;simp only[lt (v511.trans u),lc (v511.trans u),dX.f0,eZ.f0,aR.f2,fE,Ch.load0 P.cell,cG,reduceIte,cT,Nat.reduceAdd];refine aJN St ?_;refine⟨lt (v511.trans u),?_⟩;simp only[cG,reduceIte,cT,Nat.reduceAdd];exact hk' h' cU.refl
  ·refine⟨rfl,λh' u k' hk'=>?_⟩;show aT PG sX #[pT r1 0,pT r3 0] h' k';apply sI.call;unfold sI;obtain⟨sp,m,cp,nv,bv,lk,P,perm,ok⟩:=(iF.good c s).ext H11 u;simp only[lc (v511.trans u),dX.f0,eZ.f0,aR.f1,fE,Ch.load0 P.cell,ls (v511.trans u),cG,reduceIte,cT,Nat.reduceAdd];refine aDg hn2 λh12 u12=>?_;have P12:=jE.good.ext P u12;refine⟨Ch.load0 P12.cell,lc ((v511.trans u).trans u12),?_⟩;obtain⟨Fs,St,-,-⟩:=P12.fSt;refine aML St _ ?_;simp only[cG,reduceIte,cT,Nat.reduceAdd];have:=hk' h12 u12;rw[hn] at this;exact this
  ·exact⟨c1,R1.ext e411⟩
  ·exact⟨c2,R2.ext e411⟩
  ·refine⟨rfl,λh' u k' hk'=>?_⟩;show aT PG sJ #[pT r1 0] h' k';apply aBb.call;unfold aBb;simp only[lc (v511.trans u),dX.f0,cG,reduceIte,cT,Nat.reduceAdd];exact aQ3 (n:=2) ((iF.good c s).ext H11 u) (by decide) (hk' h' cU.refl)
 refine aON H11 S11 hrules (by rw[hrs];simp) λh12 u12=>?_;rw[ers];have H12:=(iF.good c s).ext H11 u12;have v512:=v511.trans u12;have e12:=e5.trans v512;unfold aDO;by_cases he:rB s (tO s p pf x)=0
 case neg=>
  have q:(rB s (tO s p pf x)==0)=false:=by simpa using he
  simp only[hQ,q,cG,reduceIte,cT,Nat.reduceAdd];exact hbad he h12 H12 e12
 obtain⟨-,hall⟩:=aLg he (by
  intro y hy;simp only[tO,gP,kL,or_false] at hy;rcases hy with rfl|rfl|rfl|rfl|rfl|rfl<;>simp)
 have broom:s.st.now.length+2≤4096:=by
  have:=hall (2,decide (s.st.now.length+2≤4096)) (by simp[tO]);simpa using this
 have q1:({data:=#[1]}:ByteArray)=tx [1]:=rfl;simp only[he,hQ,lc v512,dX.f0,aR.f1,fE,ls v512,q1,cG,reduceIte,cT,Nat.reduceAdd];refine aDg hn2 λh13 u13=>?_;refine⟨lc (v512.trans u13),?_⟩;have H13:=(iF.good c s).ext H12 u13;have v513:=v512.trans u13;refine aOd H13 (by rw[wJ];decide) (by rw[wJ];decide) (by decide) (aNJ (n:=2) (by decide) broom) λh14 F14 H14 s14=>?_;have nF:∀{r:Nat},h r=none->r∉F:=λhr hm=>(iF.good c s).known H _ hm hr;have D1:=(C1.ext v513).upd s14.upd (nF k1);have D3:=(C3.ext v513).upd s14.upd (nF k3);have m1:r1∉F14:=λhm=>by
  rcases s14.grow _ hm with hx|hx
  ·exact nF k1 hx
  ·exact(C1.ext v513).known hx
 have m3:r3∉F14:=λhm=>by
  rcases s14.grow _ hm with hx|hx
  ·exact nF k3 hx
  ·exact(C3.ext v513).known hx
 have lc14:∀{h'':PH},cZ h14 h''->cD PG h'' (loadAt dE (pT r1 0))=some (pT c 0):=λv=>by rw[dE.load,(D1.ext v).cell];rfl
 have lp14:∀{h'':PH},cZ h14 h''->cD PG h'' (loadAt aR (pT r3 0))=some p.v:=λv=>(D3.ext v).pk rfl;have ls14:cD PG h14 (loadAt cA (pT r3 1))=some (.int .u64 (n:Int)):=by rw[cA.load,D3.cell,←hn];rfl
 simp only[lc14 cU.refl,dX.f0,aR.f1,fE,ls14,lp14 cU.refl,cG,reduceIte,cT,Nat.reduceAdd];refine aJt hn2 λh15 u15=>?_;refine⟨lp14 u15,lc14 u15,?_⟩;have K14:mU h14:=by
  obtain⟨tt,fr,h0⟩:=hK.ext (e5.trans v513);exact⟨tt,fr,s14.upd.get h0 h0F⟩
 refine aOp w (K14.ext u15) λh16 u16=>?_;have u1416:=u15.trans u16;refine⟨lc14 u1416,?_⟩;have H16:=(iF.good c _).ext H14 u1416;have hlen:=aJd s.st.now ⟨fS 114 n,[1]⟩;refine aOd H16 (by rw[wJ];decide) (by rw[wJ];decide) (aQA _) (λ⟨_,hx⟩=>by
  have:4096≤(nH s.st.now ⟨fS 114 n,[1]⟩).length:=hx;omega) λh17 F17 H17 s17=>?_
 have E1:=(D1.ext u1416).upd s17.upd m1;have E3:=(D3.ext u1416).upd s17.upd m3;have lc17:cD PG h17 (loadAt dE (pT r1 0))=some (pT c 0):=by rw[dE.load,E1.cell];rfl
 have lp17:cD PG h17 (loadAt aR (pT r3 0))=some p.v:=E3.pk rfl;simp only[lc17,lp17,cG,reduceIte,cT,Nat.reduceAdd];refine aM0 H17 2 w hl λh18 F18 H18 s18=>?_;have es:((s.put (fS 114 n) [1]).put (fS 97 n) (aBs p)).add ⟨2,p⟩=s.received p:=by unfold Ch.received;rw[hn];rfl
 rw[es] at H18;exact hk he h18 F18 H18 (((((iX.ext (e5.trans v513)).trans s14).trans (iX.ext u1416)).trans s17).trans s18)
def Ch.told(s:Ch)(x:Int)(root:Tx):Ch:={s with cl:=(aAa s.cl ⟨x,tx root⟩).2}
theorem aSN{h:PH}{c:Nat}{s:Ch}{F:List Nat}(H:iF c s h F)(x:Int)(root:Tx){kk:cE}
  (hk:∀h' F',iF c (s.told x root) h' F'->iX h F h' F'->kk (.int .i64 (aAa s.cl ⟨x,tx root⟩).1) h'):aT PG aCe #[pT c 0,.int .u64 x,.string (tx root)] h kk:=by
 apply aBM.call;unfold aBM;obtain⟨sp,m,cp,nv,bv,lk,P,perm,ok⟩:=H;simp only[dX.f2,fE,Ch.load6 P.cell,cG,reduceIte,cT,Nat.reduceAdd];obtain⟨Fc,⟨hs,C⟩,hFc,back⟩:=P.fCli;refine aYZ C ⟨x,tx root⟩ λh1 hs1 F1 C1 u1 g1=>?_;obtain⟨F2,P2,s2⟩:=back (aDX cp (aAa s.cl ⟨x,tx root⟩).2) h1 F1 ⟨hs1,C1⟩ ⟨u1,g1⟩;exact hk h1 F2 ⟨sp,m,cp,nv,bv,lk,P2,perm,⟨ok.id,ok.len,ok.first,ok.seq,ok.seq1,ok.nts,ok.wf,ok.bwf⟩⟩ s2
def uE(s:St)(key:Tx)(x:Nat):Tx×Int:=match oK s x with
 | none=>([],3)
 | some b=>if (gG b key).isSome then kZ (jN b key) else if 1≤key.length∧key.length≤16 then kZ (jN b key) else([],1)
theorem St.Ok.mok{s:St}(H:s.Ok){x:Nat}{b:List Pr}(hb:oK s x=some b):MOk b:=by
 have hm:b∈s.blocks:=rC (aJ0 hb).2;obtain⟨h1,h2,h3⟩:=H.blk b hm;exact⟨h1,h3,λp hp=>by have:=h2 p hp;unfold aN3 at this;omega,λp hp=>by have:=h2 p hp;unfold aN3 at this;omega⟩
theorem aJK{h:PH}{c:Nat}{s:Ch}{F:List Nat}(hK:mU h)(H:iF c s h F)(key:Tx){x:Nat}(hx:x<18446744073709551616){kk:cE}
  (hk:∀h',cZ h h'->kk (.tuple #[.string (tx (uE s.st key x).1),.int .i64 (uE s.st key x).2]) h'):aT PG uL #[pT c 0,.string (tx key),.int .u64 (x:Int)] h kk:=by
 apply aB6.call;unfold aB6;obtain⟨sp,m,cp,nv,bv,lk,P,perm,ok⟩:=H;have hst:=P.okst;simp only[dX.f0,eZ.f0,Ch.load0 P.cell,cG,reduceIte,cT,Nat.reduceAdd];obtain⟨Fs,S,-,-⟩:=P.fSt;have q0:({data:=#[]}:ByteArray)=tx []:=rfl;unfold uE at hk;refine aZH S x hx (λe v h1 F1 O1 f1 u1=>?_) (λb v h1 F1 e O1 f1 u1=>?_)
 ·rw[e] at hk;have q:((3:Int) !=0)=true:=by decide
  simp only[kE,q,q0,cG,reduceIte,cT,Nat.reduceAdd];exact hk h1 u1
 ·rw[e] at hk;simp only at hk;have M:=hst.mok e;have B1:=O1.slR;simp only[kE,cG,reduceIte,cT,Nat.reduceAdd]
  -- the end
  have fin:∀{h4:PH} {ab:Bool} {v4:Value} {r:Nat},cZ h1 h4->Bx h4 r [.bool ab,v4]->nL h1 h4 v4 (jN b key).lv->ab=(jN b key).ab->(∀h',cZ h h'->kk (.tuple #[.string (tx (kZ (jN b key)).1),.int .i64 (kZ (jN b key)).2]) h')->pU kk (.int .i64 0) (pT r 0) h4:=by
   intro h4 ab v4 r u4 B4 L4 eab hk;unfold pU;have l4:cD PG h4 (loadAt cC (pT r 0))=some (Pf.val ab v4):=cC.agg B4 (by show 0+2≤2;decide);simp only[kE,l4,cG,reduceIte,cT,Nat.reduceAdd];obtain⟨l,F',el,O,-,L⟩:=L4.here;have epf:(⟨ab,l.map (·.1)⟩:Pf)=jN b key:=by rw[el,eab]
   have hpf:=aLs M key;refine aUO O.slR L.lfs (by
    have:l.length=(jN b key).lv.length:=by rw[←el];simp
    have:=hpf.1;omega) (λy hy=>by
    have hm:y.1∈(jN b key).lv:=by rw[←el];exact zL6 hy
    obtain⟨j,hj,ej⟩:=hpf.2 _ hm;have:=(aO3 M hj).m;rw[ej];omega) λh5 u5=>?_
   rw[epf];simp only[cG,reduceIte,cT,Nat.reduceAdd];exact hk h5 ((u1.trans u4).trans u5)
  refine aS5 M (hK.ext u1) B1 (λhno h2 u2=>?_) (λhyes h2 v2 L2 u2=>?_)
  ·have hns:(gG b key).isSome=false:=by rw[hno];rfl
   rw[hns] at hk;simp only[zLt,if_false] at hk;simp only[cG,reduceIte,cT,Nat.reduceAdd];intro r14 hr14
   try rw[cW]
   refine cC.fill (vs:=[.bool false,.slice none 0 0]) hr14 rfl (by simp[fP]) λh3 B3 u3=>?_;have q:((3:Int) !=0)=true:=by decide
   have e3:=u2.trans u3;simp only[kE,q,cG,reduceIte,cT,Nat.reduceAdd];have bad:∀{h4:PH} {e:Int},cZ h3 h4->e≠0->(∀h',cZ h h'->kk (.tuple #[.string (tx []),.int .i64 e]) h')->cY PG (dN cC (pT r14 0) (Pf.val false (.slice none 0 0))) h4 λv23 h24=>pU kk (.int .i64 e) (pT r14 0) h24:=by
    intro h4 e u4 hne hk;refine cC.put (vs:=[.bool false,.slice none 0 0]) (B3.ext u4) (o:=0) rfl (by show 0+2≤2;decide) (by simp[fP]) λh5 B5 u5=>?_;unfold pU;have q:(e !=0)=true:=by simpa using hne
    simp only[kE,q,q0,cG,reduceIte,cT,Nat.reduceAdd];exact hk h5 (((u1.trans e3).trans u4).fresh u5 (eD.one ((u1.trans u2).none hr14)))
   refine aUT M ((hK.ext u1).ext e3) (B1.ext e3) (λhb h4 u4=>?_) (λhs h4 u4=>?_) (λh1' h2' _ h4 v4 L4 u4=>?_)
   ·rw[if_neg hb] at hk;simp only[cG,reduceIte,cT,Nat.reduceAdd];exact bad u4 (by decide) hk
   ·rw[hns] at hs;cases hs
   ·rw[if_pos ⟨h1',h2'⟩] at hk;simp only[cG,reduceIte,cT,Nat.reduceAdd];refine cC.put (vs:=[.bool true,v4]) (B3.ext u4) (o:=0) rfl (by show 0+2≤2;decide) (by
     have:=L4.isc;simp[fP];exact this) λh5 B5 u5=>?_
    have hab:(jN b key).ab=true:=by
     unfold jN;rw[if_neg (by rw[hns];decide)];split
     ·rfl
     ·split
      ·rfl
      ·split<;>rfl
    have L5:nL h3 h5 v4 (jN b key).lv:=L4.upd u5 (λb hb=>by simp only[fV] at hb;rw[hb];exact B3.known);exact fin ((e3.trans u4).fresh u5 (eD.one (u2.none hr14))) B5 (L5.of e3) hab.symm hk
  ·rw[hyes] at hk;simp only[if_true] at hk;simp only[cG,reduceIte,cT,Nat.reduceAdd];intro r14 hr14
   try rw[cW]
   refine cC.fill (vs:=[.bool false,v2]) hr14 rfl (by
    have:=L2.isc;simp[fP];exact this) λh3 B3 u3=>?_
   have epf:jN b key=⟨false,[kG b (gV b key)]⟩:=by unfold jN;rw[if_pos hyes]
   exact fin (u2.trans u3) B3 (by rw[epf];exact L2.upd u3 (λb hb=>by cases hb)) (by rw[epf]) hk
def Ch.committed(s:Ch):Ch:=if (jW s.st).2.2=0 then {s with st:=(jW s.st).1,blk:=s.blk++[s.nts],nts:=[]} else s
theorem aR6(a:Option Addr)(n c:Nat):jK PG (buildSlice eQ 1 #[(0,.slice a n c)])=some (.cells #[.slice a n c] dQ,λr=>pure (.slice (some ⟨r,0,none⟩) 1 1)):=by kernel_rfl
theorem aBx{s:St}(h:(jW s).2.2≠0):(jW s).1=s:=by
 unfold jW at h ⊢;split
 ·rfl
 ·rename_i h1;rw[if_neg h1] at h;split
  ·rfl
  ·rename_i h2;rw[if_neg h2] at h;exact absurd rfl h
theorem aCt{s:St}(h:(jW s).2.2=0):(jW s).1= {s with blocks:=s.blocks++[s.now],height:=s.height+1}∧(jW s).2.1=s.height+1:=by
 unfold jW at h ⊢;split
 ·rename_i h1;rw[if_pos h1] at h;cases h
 ·rename_i h1;rw[if_neg h1] at h;split
  ·rename_i h2;rw[if_pos h2] at h;cases h
  ·exact⟨rfl,rfl⟩
theorem aSV{h:PH}{c:Nat}{s:Ch}{F:List Nat}(hK:mU h)(H:iF c s h F){kk:cE}
  (hk:∀h' F',iF c s.committed h' F'->iX h F h' F'->kk (.tuple #[.int .u64 ((jW s.st).2.1:Int),.int .i64 (jW s.st).2.2]) h'):aT PG aCP #[pT c 0] h kk:=by
 apply tG.call;unfold tG aBv;obtain⟨sp,m,cp,nv,bv,lk,P,perm,ok⟩:=H;have hst:=P.okst;simp only[dX.f0,eZ.f0,Ch.load0 P.cell,cG,reduceIte,cT,Nat.reduceAdd];obtain⟨Fs,S,hFs,back⟩:=P.fSt;refine aTq hK S λh1 F1 S1 u1 g1=>?_;obtain⟨F2,P2,s2⟩:=back (stA sp (jW s.st).1) h1 F1 S1 ⟨u1,g1⟩;unfold Ch.committed at hk;by_cases he:(jW s.st).2.2=0
 case neg=>
  have q:((jW s.st).2.2==0)=false:=by simpa using he
  rw[if_neg he] at hk;simp only[hQ,q,cG,reduceIte,cT,Nat.reduceAdd];refine hk h1 F2 ⟨sp,m,cp,nv,bv,lk,?_,perm,ok⟩ s2;rw[aBx he] at P2;exact P2
 have q:((jW s.st).2.2==0)=true:=by simpa using he
 rw[if_pos he] at hk;obtain⟨ec,-⟩:=aCt he;have P2:jE c (s.cells sp bv nv m cp) sp (jW s.st).1 m lk cp s.cl nv s.nts bv s.blk h1 F2:=P2;obtain⟨Ft,⟨Fn,Fb',rfl,On,⟨bl,Fb,G,Ob,Sb,ebl,rfl,hG⟩,hd⟩,hFt,back2⟩:=P2.fTwo;have On:dZ h1 fZ 5 nv (s.nts.map Nt.cells) Fn:=On;obtain⟨na,nc,env,-⟩:=On.slR.here;rw[iS] at env;have e2:=P2.cell;simp only[hQ,q,dX.f0,eZ.f2,eZ.f3,fE,Ch.load2 P2.cell,Ch.load3 P2.cell,cG,reduceIte,cT,Nat.reduceAdd];rw[env];simp only[aR6,cG,reduceIte,cT,Nat.reduceAdd];rw[←env];intro r18 hr18;refine fI ?_
 try rw[cW]
 have u3:cZ h1 (h1.set r18 (.cells #[nv] dQ)):=cU.new hr18;have s3:fR (h1.set r18 (.cells #[nv] dQ)) 1 (.slice (some ⟨r18,0,none⟩) 1 1) ([(nv,s.nts)].map aKq):=(dZ.lit (aKq.rows [(nv,s.nts)]) dL (by simp) (by decide) (by simp[aKq])).slR;generalize h1.set r18 (.cells #[nv] dQ)=h3 at *;have hbl:bl.length≤4096:=by
  have h1:=hst.h2;have h2:=ok.len;have h3:bl.length=s.blk.length:=by rw[←ebl];simp
  omega
 refine jF eQ.und eQ.und dQ.info dQ.size dQ.bytes dQ.zero rfl (by decide) (Ob.ext u3) s3 (λr hr u hu=>by
  obtain⟨y,hy,rfl⟩:=lO.1 hr;simp only[fV] at hy;subst hy;simp only[aKq,fV] at hu;subst hu;exact On.slR.isc) (by simp;omega) ?_
 intro v4 h4 F4 O4 u4 g4 _;rw[←qI] at O4;have nFb:∀b∈Fn,b∉Fb:=λb hb hb'=>hd b hb (by simp[hb']);have On4:dZ h4 fZ 5 nv (s.nts.map Nt.cells) Fn:=(On.ext u3).upd u4 nFb;have A4:aA0 v4 (s.blk++[s.nts]) h4 (F4++(Fn++G)):=by
  refine⟨bl++[(nv,s.nts)],F4,Fn++G,O4,λx hx=>?_,by rw[qI,ebl];rfl,rfl,λg hg=>?_⟩
  ·rcases jG.1 hx with hx|hx
   ·refine⟨((Sb x hx).1.ext u3).upd u4 λa n c ev=>(hG _ ((Sb x hx).2 a n c ev)).1,λa n c ev=>?_⟩;have:=(Sb x hx).2 a n c ev;simp[this]
   ·simp only[fV] at hx;subst hx;refine⟨On4.slR,λa n c ev=>?_⟩;have:=aF8 On a n c ev;simp[this]
  ·rcases jG.1 hg with hg|hg
   ·refine⟨λhx=>?_,On4.known g hg⟩;rcases g4 g hx with hx|hx
    ·exact nFb g hg hx
    ·exact(On.ext u3).known g hg hx
   ·obtain⟨y1,y2⟩:=hG g hg;obtain⟨o,ho⟩:=aHO.1 y2;have h3g:=u3.get ho;refine⟨λhx=>?_,by rw[u4.get h3g y1];simp⟩;rcases g4 g hx with hx|hx
    ·exact y1 hx
    ·rw[hx] at h3g;cases h3g
 have st4:iX h1 (Fn++(Fb++G)) h4 (F4++(Fn++G)):=by
  refine⟨λb o hb hn=>u4 b o (u3.get hb) (λhm=>hn (by simp[hm])),λb hb=>?_⟩;rcases jG.1 hb with hb|hb
  ·rcases g4 b hb with hx|hx
   ·exact .inl (by simp[hx])
   ·exact .inr (u3.none hx)
  ·rcases jG.1 hb with hb|hb
   ·exact .inl (by simp[hb])
   ·exact .inl (by simp[hb])
 have T4:(eO (xD fZ 5 (.slice none 0 0) (([]:List Nt).map Nt.cells)) (aA0 v4 (s.blk++[s.nts]))) h4 ([]++(F4++(Fn++G))):=eO.mk (dZ.nil) A4 (λb hb=>by cases hb);rw[yF] at T4;obtain⟨F5,P5,s5⟩:=back2 _ h4 _ T4 st4;have P5:jE c (s.cells sp bv nv m cp) sp (jW s.st).1 m lk cp s.cl (.slice none 0 0) [] v4 (s.blk++[s.nts]) h4 F5:=P5
 try simp only[dX.f0,eZ.f2,fE,cG,reduceIte,cT,Nat.reduceAdd]
 obtain⟨Fb6,⟨rfl,B6⟩,hF6,back3⟩:=P5.fBox;refine eQ.put B6 (o:=2) (by show 2<8;decide) O4.slR.isc λh6 B6' u6=>?_
 try simp only[dX.f0,eZ.f3,fE,cG,reduceIte,cT,Nat.reduceAdd]
 refine dQ.put B6' (o:=3) (by show 3<8;decide) rfl λh7 B7 u7=>?_;have u67:cU [c] h4 h7:=u6.trans u7;obtain⟨F7,P7,s7⟩:=back3 (wD c (s.cells sp v4 (.slice none 0 0) m cp)) h7 [c] ⟨rfl,B7⟩ ⟨u67,λb hb=>.inl hb⟩;refine hk h7 F7 ⟨sp,m,cp,.slice none 0 0,v4,lk,P7,?_,⟨ok.id,?_,?_,ok.seq,ok.seq1,by simp,by simp,?_⟩⟩ ((s2.trans s5).trans s7)
 ·show lk.Perm (jW s.st).1.now;rw[ec];exact perm
 ·show(s.blk++[s.nts]).length=(jW s.st).1.blocks.length;rw[ec,jP,jP,ok.len];rfl
 ·show s.first+((s.blk++[s.nts]).length-1)=(jW s.st).1.height;have h1:=ok.len;have h2:=ok.first;have h3:=hst.h1;rw[ec,jP];show s.first+(s.blk.length+1-1)=s.st.height+1;omega
 ·intro b hb;rcases jG.1 hb with hb|hb
  ·exact ok.bwf b hb
  ·simp only[fV] at hb;subst hb;exact⟨ok.nts,ok.wf⟩
def Ch.new(id:Int)(n seq:Nat):Ch:=⟨id,⟨[],[[]],n⟩,n,[[]],[],[],seq⟩
theorem aZy(sp r m n:Nat):dA PG (build eZ #[(0,pT sp 0),(1,.int .u64 (n:Int)),(2,.slice (some ⟨r,0,none⟩) 1 1),(4,.map (some m))])=some (.agg #[pT sp 0,.int .u64 (n:Int),.slice (some ⟨r,0,none⟩) 1 1,.slice none 0 0,.map (some m)]):=by kernel_rfl
theorem aZw(sp r m cp n seq:Nat)(id:Int):dA PG (build dX #[(0,.agg #[pT sp 0,.int .u64 (n:Int),.slice (some ⟨r,0,none⟩) 1 1,.slice none 0 0,.map (some m)]),(1,.int .i64 id),(2,pT cp 0),(3,.int .u64 (seq:Int))])=some (.agg ((Ch.new id n seq).cells sp (.slice (some ⟨r,0,none⟩) 1 1) (.slice none 0 0) m cp).toArray):=by kernel_rfl
theorem ms1:∃zs:Array Value,jK PG (Instr.makeSlice eQ (.int .i64 1) (.int .i64 1))=some (.cells zs dQ (0,0),λr=>pure (.slice (some ⟨r,0,none⟩) 1 1))∧zs.toList=[.slice none 0 0]:=by
 obtain⟨zs,h1,h2⟩:=aET (P:=PG) (n:=1) eQ.und dQ.info dQ.size dQ.bytes dQ.zero rfl (by decide) (by decide) (by decide);exact⟨zs,h1,by rw[h2];rfl⟩
theorem aOn{h:PH}(hK:mU h)(id:Int){n seq:Nat}(hn:n<18446744073709551616)(hs:seq<18446744073709551616){kk:cE}
  (hbad:(id<0∨1<id∨seq=0)->kk (.tuple #[.pointer none,.int .i64 1]) h)
  (hk:¬(id<0∨1<id∨seq=0)->∀h' c F,iF c (Ch.new id n seq) h' F->eD h F->cZ h h'->kk (.tuple #[pT c 0,.int .i64 0]) h'):
  aT PG aI8 #[.int .i64 id,.int .u64 (n:Int),.int .u64 (seq:Int)] h kk:=by
 apply aGF.call;unfold aGF;by_cases c1:id<0
 ·have g1:=eq_true c1;simp only[g1,cG,reduceIte,cT,Nat.reduceAdd];exact hbad (.inl c1)
 have g1:=eq_false c1;by_cases c2:1<id
 ·have g2:=eq_true c2;simp only[g1,g2,cG,reduceIte,cT,Nat.reduceAdd];exact hbad (.inr (.inl c2))
 have g2:=eq_false c2;by_cases c3:seq=0
 ·have g3:((seq:Int)==0)=true:=by rw[c3];rfl
  simp only[g1,g2,hQ,g3,cG,reduceIte,cT,Nat.reduceAdd];exact hbad (.inr (.inr c3))
 have g3:((seq:Int)==0)=false:=by rw[beq_eq_false_iff_ne];omega
 have hk:=hk (by omega);simp only[g1,g2,hQ,g3,cG,reduceIte,cT,Nat.reduceAdd];refine aVg n hn hK λsp h1 F1 S1 f1 u1=>?_;refine aXg λcp h2 F2 C2 u2 f2=>?_;obtain⟨zs,m1,m2⟩:=ms1;simp only[m1,aGh,cG,reduceIte,cT,Nat.reduceAdd];intro r22 hr22;refine fI ?_
 try rw[cW]
 have u3:cZ h2 (h2.set r22 (.cells zs dQ (0,0))):=cU.new hr22;have O3:dZ (h2.set r22 (.cells zs dQ (0,0))) dQ 1 (.slice (some ⟨r22,0,none⟩) 1 1) ([(Value.slice none 0 0,([]:List Nt))].map aKq) [r22]:=dZ.lit (aKq.rows _) dL (by simp) (by decide) (by rw[m2];rfl);generalize h2.set r22 (.cells zs dQ (0,0))=h3 at *
 try simp only[aGh,cG,reduceIte,cT,Nat.reduceAdd]
 intro r26 hr26;refine fI ?_
 try rw[cW]
 have u4:cZ h3 (h3.set r26 (.map #[] 0)):=cU.new hr26;have M4:aOh (h3.set r26 (.map #[] 0)) r26 []:=kB.new;generalize h3.set r26 (.map #[] 0)=h4 at *;simp only[aZy,aZw,cG,reduceIte,cT,Nat.reduceAdd];intro r32 hr32
 try rw[cW]
 have u5:cZ h4 (h4.set r32 (.cells (Value.cells (.agg ((Ch.new id n seq).cells sp (.slice (some ⟨r22,0,none⟩) 1 1) (.slice none 0 0) r26 cp).toArray)) dX)):=cU.new hr32;have B5:Bx (h4.set r32 (.cells (Value.cells (.agg ((Ch.new id n seq).cells sp (.slice (some ⟨r22,0,none⟩) 1 1) (.slice none 0 0) r26 cp).toArray)) dX)) r32 ((Ch.new id n seq).cells sp (.slice (some ⟨r22,0,none⟩) 1 1) (.slice none 0 0) r26 cp):=Bx.new;generalize h4.set r32 (.cells (Value.cells (.agg ((Ch.new id n seq).cells sp (.slice (some ⟨r22,0,none⟩) 1 1) (.slice none 0 0) r26 cp).toArray)) dX)=h5 at *;have e25:=(u3.trans u4).trans u5;have A:aA0 (.slice (some ⟨r22,0,none⟩) 1 1) [[]] h5 [r22]:=by
  refine⟨[(Value.slice none 0 0,[])],[r22],[],(O3.ext u4).ext u5,λx hx=>?_,rfl,rfl,λg hg=>by cases hg⟩;simp only[fV] at hx;subst hx;exact⟨(dZ.nil (e:=fZ) (size:=5)).slR,λa n c e=>by cases e⟩
 have k22:∀b∈F2,b≠r22:=λb hb e=>C2.known b hb (e▸hr22);have k22':∀b∈F1,b≠r22:=λb hb e=>by
  have:=sF.known (S1.ext u2) b hb;rw[e] at this;exact this hr22
 have k12:∀b∈F1,b∉F2:=λb hb hb'=>S1.known b hb (f2 b hb');have k26a:∀b∈F1,b≠r26:=λb hb e=>by
  have:=sF.known ((S1.ext u2).ext u3) b hb;rw[e] at this;exact this hr26
 have k26b:∀b∈F2,b≠r26:=λb hb e=>(C2.ext u3).known b hb (e▸hr26);have k26c:r22≠r26:=λe=>by
  have:=O3.known r22 (by simp);rw[e] at this;exact this hr26
 have k32a:∀b∈F1,b≠r32:=λb hb e=>by
  have:=sF.known (((S1.ext u2).ext u3).ext u4) b hb;rw[e] at this;exact this hr32
 have k32b:∀b∈F2,b≠r32:=λb hb e=>((C2.ext u3).ext u4).known b hb (e▸hr32);have k32c:r22≠r32:=λe=>by
  have:=(O3.ext u4).known r22 (by simp);rw[e] at this;exact this hr32
 have k32d:r26≠r32:=λe=>by
  have:=kB.known M4;rw[e] at this;exact this hr32
 have T5:(eO (xD fZ 5 (.slice none 0 0) (([]:List Nt).map Nt.cells)) (aA0 (.slice (some ⟨r22,0,none⟩) 1 1) [[]])) h5 ([]++[r22]):=eO.mk dZ.nil A (λb hb=>by cases hb);have T4:(eO (aDX cp []) (eO (xD fZ 5 (.slice none 0 0) (([]:List Nt).map Nt.cells)) (aA0 (.slice (some ⟨r22,0,none⟩) 1 1) [[]]))) h5 (F2++([]++[r22])):=eO.mk ⟨[],C2.ext e25⟩ T5 (λb hb=>by simpa using k22 b hb);have T3:(eO (aDI r26 []) (eO (aDX cp []) (eO (xD fZ 5 (.slice none 0 0) (([]:List Nt).map Nt.cells)) (aA0 (.slice (some ⟨r22,0,none⟩) 1 1) [[]])))) h5 ([r26]++(F2++([]++[r22]))):=eO.mk ⟨rfl,kB.ext M4 u5⟩ T4 (λb hb=>by
  simp only[fV] at hb;subst hb;simp only[yF,jG,fV,not_or];exact⟨λhx=>k26b b hx rfl,λe=>k26c e.symm⟩)
 have T2:(eO (stA sp ⟨[],[[]],n⟩) (eO (aDI r26 []) (eO (aDX cp []) (eO (xD fZ 5 (.slice none 0 0) (([]:List Nt).map Nt.cells)) (aA0 (.slice (some ⟨r22,0,none⟩) 1 1) [[]]))))) h5 (F1++([r26]++(F2++([]++[r22])))):=eO.mk ((S1.ext u2).ext e25) T3 (λb hb=>by
  simp only[yF,jG,fV,not_or];exact⟨k26a b hb,k12 b hb,k22' b hb⟩)
 have T1:jE r32 ((Ch.new id n seq).cells sp (.slice (some ⟨r22,0,none⟩) 1 1) (.slice none 0 0) r26 cp) sp ⟨[],[[]],n⟩ r26 [] cp [] (.slice none 0 0) [] (.slice (some ⟨r22,0,none⟩) 1 1) [[]] h5 ([r32]++(F1++([r26]++(F2++([]++[r22]))))):=eO.mk ⟨rfl,B5⟩ T2 (λb hb=>by
  simp only[fV] at hb;subst hb;simp only[yF,jG,fV,not_or];exact⟨λhx=>k32a b hx rfl,λe=>k32d e.symm,λhx=>k32b b hx rfl,λe=>k32c e.symm⟩)
 refine hk h5 r32 _ ⟨sp,r26,cp,.slice none 0 0,_,[],T1,List.Perm.refl _,⟨by show id=0∨id=1;omega,rfl,rfl,hs,by show 1≤seq;omega,by show 0≤_;omega,(λx hx=>by cases hx),(λb hb=>?_)⟩⟩ ?_ ((u1.trans u2).trans e25)
 ·have:b=[]:=by simpa[Ch.new] using hb
  subst this;exact⟨by simp,by simp⟩
 ·intro b hb;simp only[yF,jG,fV] at hb;rcases hb with rfl|hb|rfl|hb|rfl
  ·exact((u1.trans u2).trans (u3.trans u4)).none hr32
  ·exact f1 b hb
  ·exact((u1.trans u2).trans u3).none hr26
  ·exact u1.none (f2 b hb)
  ·exact(u1.trans u2).none hr22
end
section
open Go Go.Sort Go.Shelf
def Pl.v(q:Pl):Value:=.agg q.cells.toArray
theorem Pl.isC(q:Pl):∀v∈q.cells,fP v=true:=by
 intro v hv;simp only[Pl.cells,gP,kL,or_false] at hv;rcases hv with rfl|rfl<;>rfl
theorem aO5{h:PH}{c:Nat}{s:Ch}{F:List Nat}(H:iF c s h F){kk:cE}(hk:∀h' hs v F',qY hs s.cl->dZ h' cA 1 v (hs.map vS) F'->cZ h h'->eD h F'->kk v h'):aT PG aAC #[pT c 0] h kk:=by
 apply aCA.call;unfold aCA;obtain⟨sp,m,cp,nv,bv,lk,P,perm,ok⟩:=H;obtain⟨Fc,⟨hs,C⟩,hFc,back⟩:=P.fCli;simp only[dX.f2,fE,Ch.load6 P.cell,cG,reduceIte,cT,Nat.reduceAdd];exact aSx C λv h' F' O u f=>hk h' hs v F' C.rank O u f
end
section
open Go
theorem Ch.Ok.pos{s:Ch}(ok:s.Ok)(h1:1≤s.st.blocks.length):s.st.height+1=s.first+s.blk.length:=by
 have:=ok.len;have:=ok.first;omega
end
section
open Go Bld
structure Cut(L:List Pr)(k:Tx)(A M B:List Pr):Prop where
 eq:L=A++(M++B)
 lo:∀p∈A,p.k<k
 hi:∀p∈B,k<p.k
 mid:M=[]∨∃p,M=[p]∧p.k=k
theorem rM.cut(k:Tx):∀{L:List Pr},rM L->∃A M B,Cut L k A M B
 | [],_=>⟨[],[],[],rfl,by simp,by simp,.inl rfl⟩
 | p::L,h=>by
  unfold rM at h;rw[List.pairwise_cons] at h;obtain⟨h1,h2⟩:=h;rcases aHH p.k k with e|e|e
  ·obtain⟨A,M,B,c⟩:=rM.cut k h2;refine⟨p::A,M,B,by rw[c.eq];rfl,λq hq=>?_,c.hi,c.mid⟩;rcases gP.1 hq with rfl|hq
   ·exact e
   ·exact c.lo q hq
  ·exact⟨[],[p],L,rfl,by simp,λq hq=>by rw[←e];exact h1 q hq,.inr ⟨p,rfl,e⟩⟩
  ·refine⟨[],[],p::L,rfl,by simp,λq hq=>?_,.inl rfl⟩;rcases gP.1 hq with rfl|hq
   ·exact e
   ·exact List.lt_trans e (h1 q hq)
theorem Cut.set{L A M B:List Pr}{k v:Tx}(c:Cut L k A M B)(h:rM L):nH L ⟨k,v⟩=A++⟨k,v⟩::B:=by
 unfold nH;have fA:A.filter (λq=>decide (q.k<k))=A:=aMs.2 λp hp=>by simpa using c.lo p hp
 have fA2:A.filter (λq=>decide (k<q.k))=[]:=List.filter_eq_nil_iff.2 λp hp=>by simpa using List.lt_asymm (c.lo p hp)
 have fB:B.filter (λq=>decide (k<q.k))=B:=aMs.2 λp hp=>by simpa using c.hi p hp
 have fB2:B.filter (λq=>decide (q.k<k))=[]:=List.filter_eq_nil_iff.2 λp hp=>by simpa using List.lt_asymm (c.hi p hp)
 have fM:M.filter (λq=>decide (q.k<k))=[]:=List.filter_eq_nil_iff.2 λp hp=>by
  rcases c.mid with e|⟨q,e,e2⟩
  ·rw[e] at hp;cases hp
  ·rw[e] at hp;simp only[fV] at hp;subst hp;rw[e2];simp[zL0]
 have fM2:M.filter (λq=>decide (k<q.k))=[]:=List.filter_eq_nil_iff.2 λp hp=>by
  rcases c.mid with e|⟨q,e,e2⟩
  ·rw[e] at hp;cases hp
  ·rw[e] at hp;simp only[fV] at hp;subst hp;rw[e2];simp[zL0]
 rw[c.eq,aHK,aHK,aHK,aHK];simp only[fA,fA2,fB,fB2,fM,fM2,zLP,yF]
theorem Cut.del{L A M B:List Pr}{k:Tx}(c:Cut L k A M B):tU L k=A++B:=by
 unfold tU;have fA:A.filter (λq=>decide (q.k≠k))=A:=aMs.2 λp hp=>by
  have:=c.lo p hp;simp only[decide_eq_true_eq];intro e;rw[e] at this;exact zL0 _ this
 have fB:B.filter (λq=>decide (q.k≠k))=B:=aMs.2 λp hp=>by
  have:=c.hi p hp;simp only[decide_eq_true_eq];intro e;rw[e] at this;exact zL0 _ this
 have fM:M.filter (λq=>decide (q.k≠k))=[]:=List.filter_eq_nil_iff.2 λp hp=>by
  rcases c.mid with e|⟨q,e,e2⟩
  ·rw[e] at hp;cases hp
  ·rw[e] at hp;simp only[fV] at hp;subst hp;simp[e2]
 rw[c.eq,aHK,aHK,fA,fB,fM,yF]
theorem Cut.get{L A M B:List Pr}{k:Tx}(c:Cut L k A M B)(h:rM L):(gG L k).isSome=decide (M≠[]):=by
 rcases c.mid with e|⟨q,e,e2⟩
 ·subst e;have:gG L k=none:=aEl.2 λp hp e=>by
   rw[c.eq,yF,jG] at hp;rcases hp with hp|hp
   ·have:=c.lo p hp;rw[e] at this;exact zL0 _ this
   ·have:=c.hi p hp;rw[e] at this;exact zL0 _ this
  rw[this];rfl
 ·subst e;have:gG L k=some q:=(zX h).2 ⟨by rw[c.eq];simp,e2⟩;rw[this];rfl
def aEj(x:Value×List Pr):List Value:=[x.1]
theorem aEj.rows(l:List (Value×List Pr)):Rows 1 (l.map aEj):=λr hr=>by
 obtain⟨p,-,rfl⟩:=lO.1 hr;rfl
structure uR(h:PH)(b:Nat)(s:St)(G:List Nat):Prop where
 here:∃(nv bv:Value) (bl:List (Value×List Pr)),h b=some (.cells #[nv,.int .u64 ((s.height-(s.blocks.length-1):Nat):Int),bv] dM (0,0))∧fR h 2 nv (s.now.map Pr.cells)∧fR h 1 bv (bl.map aEj)∧
  (∀x∈bl,fR h 2 x.1 (x.2.map Pr.cells)∧aC9 x.1 G)∧bl.map (·.2)=s.blocks∧aC9 nv G∧aC9 bv G∧b∉G∧∀g∈G,h g≠none
 ok:s.Ok
theorem uR.upd{h h':PH}{b:Nat}{s:St}{G K:List Nat}(H:uR h b s G)(u:cU K h h')(hb:b∉K)(hd:∀g∈G,g∉K):uR h' b s G:=by
 obtain⟨nv,bv,bl,h1,h2,h3,h4,h5,h6,h7,h8,h9⟩:=H.here;refine⟨⟨nv,bv,bl,u.get h1 hb,h2.upd u λa n c e=>hd _ (h6 a n c e),h3.upd u λa n c e=>hd _ (h7 a n c e),λx hx=>⟨(h4 x hx).1.upd u λa n c e=>hd _ ((h4 x hx).2 a n c e),(h4 x hx).2⟩,h5,h6,h7,h8,λg hg=>?_⟩,H.ok⟩;obtain⟨o,ho⟩:=aHO.1 (h9 g hg);rw[u.get ho (hd g hg)];simp
theorem uR.ext{h h':PH}{b:Nat}{s:St}{G:List Nat}(H:uR h b s G)(u:cZ h h'):uR h' b s G:=H.upd u (by simp) (by simp)
theorem uR.known{h:PH}{b:Nat}{s:St}{G:List Nat}(H:uR h b s G):∀g∈b::G,h g≠none:=by
 obtain⟨nv,bv,bl,h1,h2,h3,h4,h5,h6,h7,h8,h9⟩:=H.here;intro g hg;rcases gP.1 hg with rfl|hg
 ·rw[h1];simp
 ·exact h9 g hg
theorem aXD{h:PH}(n:Nat)(hn:n<18446744073709551616){k:cE}(hk:∀b h' G,uR h' b ⟨[],[[]],n⟩ G->eD h (b::G)->cZ h h'->k (pT b 0) h'):aT PG aDu #[.int .u64 (n:Int)] h k:=by
 apply aC2.call;unfold aC2;have b1:jK PG (buildSlice fC 1 #[(0,(Value.slice none 0 0))])=some (.cells #[.slice none 0 0] cJ,λr=>pure (.slice (some ⟨r,0,none⟩) 1 1)):=by kernel_rfl
 simp only[b1,cG,reduceIte];intro r hr;refine fI ?_
 try rw[cW]
 have u1:cZ h (h.set r (.cells #[.slice none 0 0] cJ)):=cU.new hr;have O1:dZ (h.set r (.cells #[.slice none 0 0] cJ)) cJ 1 (.slice (some ⟨r,0,none⟩) 1 1) ([((.slice none 0 0:Value),([]:List Pr))].map aEj) [r]:=dZ.lit (n:=1) (aEj.rows [((.slice none 0 0:Value),([]:List Pr))]) dL (by simp) (by decide) rfl;generalize h.set r (.cells #[.slice none 0 0] cJ)=h1 at *;have b2:dA PG (build dM #[(1,.int .u64 (n:Int)),(2,.slice (some ⟨r,0,none⟩) 1 1)])=some (.agg #[.slice none 0 0,.int .u64 (n:Int),.slice (some ⟨r,0,none⟩) 1 1]):=by kernel_rfl
 simp only[b2,cG,reduceIte];intro b hb
 try rw[cW]
 have u2:cZ h1 (h1.set b (.cells (Value.cells (.agg #[.slice none 0 0,.int .u64 (n:Int),.slice (some ⟨r,0,none⟩) 1 1])) dM)):=cU.new hb;have hrb:b≠r:=by rintro rfl;exact O1.known _ (by simp) hb
 refine hk b _ [r] ⟨⟨.slice none 0 0,.slice (some ⟨r,0,none⟩) 1 1,[(.slice none 0 0,[])],dL,(dZ.nil (e:=cM)).slR,(O1.ext u2).slR,?_,rfl,(λy m c e=>by cases e),aF8 O1,by simpa using hrb,?_⟩,St.Ok.new n hn⟩ (λg hg=>?_) (u1.trans u2)
 ·intro x hx;simp only[fV] at hx;subst hx;exact⟨(dZ.nil (e:=cM)).slR,λx n c e=>by cases e⟩
 ·intro g hg;exact(O1.ext u2).known g hg
 ·simp only[gP,kL,or_false] at hg;rcases hg with rfl|rfl
  ·exact u1.none hb
  ·exact hr
theorem aOE{h:PH}{b:Nat}{s:St}{G:List Nat}(H:uR h b s G){key:Tx}{A M B:List Pr}(c:Cut s.now key A M B){k:cE}(hk:k (.tuple #[.int .i64 (A.length:Int),.bool (decide (M≠[]))]) h):
  aT PG oO #[pT b 0,.string (tx key)] h k:=by
 apply oH.call;unfold oH;have hfew:=H.ok.few;obtain⟨nv,bv,bl,h1,h2,h3,h4,h5,h6,h7,h8,h9⟩:=H.here;have c0:dD h ⟨b,0,none⟩=some nv:=by simp[dD,h1]
 have ln:=h2.len (t':=bT) cJ.und;rw[iS] at ln;have hlen:s.now.length=A.length+(M.length+B.length):=by rw[c.eq];simp
 refine⟨λvs h'=>∃i,i≤A.length∧vs=[pT b 0,.string (tx key),.int .i64 (i:Int)]∧h'=h,gU A.length 2,⟨0,by omega,rfl,rfl⟩,?_⟩;rintro ρ h' ⟨i,hi,hvs,rfl⟩;simp only[iH,iT,kV,and_true] at hvs;obtain⟨v0,v1,v6⟩:=hvs;simp only[v0,v1,v6,iH,iT];unfold aDc;by_cases hl:i<s.now.length
 ·have g1:((i:Int)<(s.now.length:Int))=True:=eq_true (by omega);have gi:=pR (i:=i) (by omega);obtain⟨p,hp⟩:∃p,s.now[i]? =some p:=⟨s.now[i],lQ hl⟩;obtain⟨pb,po,e1,e2,-,-⟩:=h2.pair (j:=i) (p:=p) hp;by_cases hiA:i<A.length
  ·have hpA:p∈A:=by
    rw[c.eq,List.getElem?_append_left hiA] at hp;exact rC hp
   have hlt:=c.lo p hpA;simp only[dM.f0,cJ.load,c0,ln,g1,e1,cM.f0,bR.load,e2,xZ,hlt,gi,cG,reduceIte];refine⟨⟨i+1,by omega,rfl,(by trivial)⟩,?_⟩;simp only[gU,sA,pK];omega
  ·have hiE:i=A.length:=by omega
   have hp2:(M++B)[0]? =some p:=by
    rw[c.eq,List.getElem?_append_right (by omega),hiE,Nat.sub_self] at hp;exact hp
   have hnl:¬p.k<key:=by
    rcases c.mid with e|⟨q,e,e3⟩
    ·rw[e,yF] at hp2;exact List.lt_asymm (c.hi p (rC hp2))
    ·rw[e] at hp2;simp only[zLV,pK,zL8] at hp2;rw[←hp2,e3];exact zL0 _
   have heq:decide (p.k=key)=decide (M≠[]):=by
    rcases c.mid with e|⟨q,e,e3⟩
    ·rw[e,yF] at hp2;have:=c.hi p (rC hp2);have hne:p.k≠key:=λe=>by rw[e] at this;exact zL0 _ this
     simp[e,hne]
    ·rw[e] at hp2;simp only[zLV,pK,zL8] at hp2;rw[←hp2];simp[e,e3]
   simp only[dM.f0,cJ.load,c0,ln,g1,e1,cM.f0,bR.load,e2,xZ,hnl,aCQ,heq,cG,reduceIte];rw[hiE];exact hk
 ·have g1:((i:Int)<(s.now.length:Int))=False:=eq_false (by omega);have hiE:i=A.length:=by omega
  have hM:M=[]:=zLN (by omega);simp only[dM.f0,cJ.load,c0,ln,g1,cG,reduceIte];have:decide (M≠[])=false:=by simp[hM]
  rw[this] at hk;rw[hiE];exact hk
end
section
open Go
theorem aXi:jK PG (buildSlice eQ 1 #[(0,.slice none 0 0)])=some (.cells #[.slice none 0 0] dQ,λr=>pure (.slice (some ⟨r,0,none⟩) 1 1)):=by kernel_rfl
theorem aOA{r o i:Nat}(hi:i<2):dA PG (indexAt eK (pT r o) (.int .i64 (i:Int)))=some (pT r (o+i)):=by
 have ix:=vB (P:=PG) (t:=eK) (b:=r) (o:=o) (k:=.i64) (j:=(i:Int)) eK.und cA.info cA.size (by omega) (by omega);rw[ix,pQ,zL7]
theorem aMD{r o i:Nat}(hi:i<2):dA PG (indexAt dB (pT r o) (.int .i64 (i:Int)))=some (pT r (o+i)):=by
 have ix:=vB (P:=PG) (t:=dB) (b:=r) (o:=o) (k:=.i64) (j:=(i:Int)) dB.und dE.info dE.size (by omega) (by omega);rw[ix,pQ,zL7]
def vC(a b:Nat):Value:=.agg #[.int .u64 (a:Int),.int .u64 (b:Int)]
def u2c(a b:Nat):List Value:=[.int .u64 (a:Int),.int .u64 (b:Int)]
def aYi(t:Nat)(a b:Ch):mC:=λh F=>∃(c0 c1 m:Nat),(eO (wD t [pT c0 0,pT c1 0,pT m 0]) (eO (iF c0 a) (iF c1 b))) h F
theorem aYi.good(t:Nat)(a b:Ch):lX (aYi t a b) where
 known:=λ⟨_,_,_,H⟩=>((wD.good _ _).star ((iF.good _ _).star (iF.good _ _))).known H
 upd:=λ⟨c0,c1,m,H⟩ u hK=>⟨c0,c1,m,((wD.good _ _).star ((iF.good _ _).star (iF.good _ _))).upd H u hK⟩
structure jL where
 kind:Int
 id:Int
 h:Nat
 d:Tx
 p:Pk
 sp:Bool
def jL.cells(a:jL):List Value:=[.int .i64 a.kind,.int .i64 a.id,.int .u64 (a.h:Int),.string (tx a.d),.int .i64 a.p.f,.int .u64 a.p.s,.int .u64 a.p.t,.string a.p.d,.bool a.sp]
def jL.v(a:jL):Value:=.agg a.cells.toArray
structure jL.wf(a:jL):Prop where
 h:a.h<18446744073709551616
 p:a.p.wf
def aI7(a:jL):Tx:=if a.kind=2 then fS 99 a.p.s.toNat else if a.kind=3 then fS 97 a.p.s.toNat else fS 114 a.p.s.toNat
def lG(id:Int):Nat:=if id=1 then 1 else 0
def lS(o:Ch)(a:jL):Tx:=if a.sp=false∧2≤a.kind∧a.kind≤4 then(uE o.st (aI7 a) a.h).1 else a.d
noncomputable def kF(c o:Ch)(a:jL):Ch×(Pk×Nat×Int):=
 if a.kind=0 then(if rD c a.d a.h=0 then(c.sent (jX c a.d a.h),(jX c a.d a.h,0,0)) else(c,(default,0,rD c a.d a.h)))
 else if a.kind=1 then(match oK o.st a.h with
  | none=>(c,(default,0,3))
  | some b=>(c.told (a.h:Int) (lB b),(default,0,(aAa c.cl ⟨(a.h:Int),tx (lB b)⟩).1)))
 else if a.kind=2 then(if rB c (tO c a.p (lS o a) (a.h:Int))=0 then(c.received a.p,(default,0,0)) else(c,(default,0,rB c (tO c a.p (lS o a) (a.h:Int)))))
 else if a.kind=3 then(if jI c a.p (xS c a.p (lS o a) (a.h:Int))=0 then(c.settled 3 a.p,(default,0,0)) else(c,(default,0,jI c a.p (xS c a.p (lS o a) (a.h:Int)))))
 else if a.kind=4 then(if jI c a.p (qQ c a.p (lS o a) (a.h:Int))=0 then(c.settled 4 a.p,(default,0,0)) else(c,(default,0,jI c a.p (qQ c a.p (lS o a) (a.h:Int)))))
 else if a.kind=5 then(c.committed,(default,(jW c.st).2.1,(jW c.st).2.2))
 else(c,(default,0,0))
theorem aMJ{h:PH}(id:Int){k:cE}(hk:k (.int .i64 ((lG id:Nat):Int)) h):aT PG qO #[.int .i64 id] h k:=by
 apply aB4.call;unfold aB4;unfold lG at hk;by_cases e:id=1
 ·have q:(id==1)=true:=by simp[e]
  rw[if_pos e] at hk;simp only[hQ,q,cG,reduceIte,cT,Nat.reduceAdd];exact hk
 ·have q:(id==1)=false:=by simp[e]
  rw[if_neg e] at hk;simp only[hQ,q,cG,reduceIte,cT,Nat.reduceAdd];exact hk
theorem aPN{h:PH}{a:jL}(w:a.wf){k:cE}(hk:∀h',cZ h h'->k (.string (tx (aI7 a))) h'):aT PG vQ #[a.v] h k:=by
 apply zV.call;unfold zV;obtain⟨n,hn⟩:=zLn w.p.1;have hn2:n<18446744073709551616:=by have:=w.p.2.1;omega
 intro r1 hr1
 try rw[cW]
 have u1:cZ h (h.set r1 (.cells (Value.cells a.v) cH)):=cU.new hr1;have B1:Bx (h.set r1 (.cells (Value.cells a.v) cH)) r1 a.cells:=Bx.new;generalize h.set r1 (.cells (Value.cells a.v) cH)=h1 at *;have lk:cD PG h1 (loadAt bT (pT r1 0))=some (.int .i64 a.kind):=by rw[bT.load,B1.cell];rfl
 have ls:cD PG h1 (loadAt cA (pT r1 5))=some (.int .u64 (n:Int)):=by rw[cA.load,B1.cell,←hn];rfl
 have q99:({data:=#[99]}:ByteArray)=tx [99]:=rfl;have q97:({data:=#[97]}:ByteArray)=tx [97]:=rfl;have q114:({data:=#[114]}:ByteArray)=tx [114]:=rfl;unfold aI7 at hk;rw[hn,pQ] at hk;by_cases e2:a.kind=2
 ·have q:(a.kind==2)=true:=by simp[e2]
  rw[if_pos e2] at hk;simp only[cH.f0,cH.f4,aR.f1,fE,Nat.reduceAdd,lk,hQ,q,ls,q99,cG,reduceIte,cT,Nat.reduceAdd];exact aAL hn2 λh2 u2=>hk h2 (u1.trans u2)
 have q2:(a.kind==2)=false:=by simp[e2]
 rw[if_neg e2] at hk;by_cases e3:a.kind=3
 ·have q:(a.kind==3)=true:=by simp[e3]
  rw[if_pos e3] at hk;simp only[cH.f0,cH.f4,aR.f1,fE,Nat.reduceAdd,lk,hQ,q2,q,ls,q97,cG,reduceIte,cT,Nat.reduceAdd];exact aAL hn2 λh2 u2=>hk h2 (u1.trans u2)
 have q3:(a.kind==3)=false:=by simp[e3]
 rw[if_neg e3] at hk;simp only[cH.f0,cH.f4,aR.f1,fE,Nat.reduceAdd,lk,hQ,q2,q3,ls,q114,cG,reduceIte,cT,Nat.reduceAdd];exact aAL hn2 λh2 u2=>hk h2 (u1.trans u2)
noncomputable def iZ(a b:Ch)(x:jL):(Ch×Ch)×(Pk×Nat×Int):=if x.id=1 then((a,(kF b a x).1),(kF b a x).2) else(((kF a b x).1,b),(kF a b x).2)
def aWo(c0 c1 m:Nat):List Value:=[pT c0 0,pT c1 0,pT m 0]
def aQ6(t c0 c1 m:Nat)(a b:Ch):mC:=eO (wD t (aWo c0 c1 m)) (eO (iF c0 a) (iF c1 b))
theorem aQ6.good(t c0 c1 m:Nat)(a b:Ch):lX (aQ6 t c0 c1 m a b):=(wD.good _ _).star ((iF.good _ _).star (iF.good _ _))
theorem aRj(id:Int):lG id<2:=by unfold lG;split<;>decide
def xa:Ch:=Ch.new 0 5 1
theorem aUv:aJu []=0:=by
 rw[aOB (hs:=[]) ⟨List.Perm.refl _,List.Pairwise.nil⟩];rfl
structure Now(h0 h:PH)(F:List Nat):Prop where
 ext:cZ h0 h
 fr:eD h0 F
theorem Now.step{h0 h h':PH}{F F':List Nat}(N:Now h0 h F)(s:iX h F h' F'):Now h0 h' F':=⟨N.ext.fresh s.upd N.fr,N.fr.grow N.ext s.grow⟩
theorem Now.more{h0 h h':PH}{F:List Nat}(N:Now h0 h F)(u:cZ h h'):Now h0 h' F:=⟨N.ext.trans u,N.fr⟩
theorem Now.k{h0 h:PH}{F:List Nat}(N:Now h0 h F)(K:mU h0):mU h:=K.ext N.ext
theorem Now.z{h0 h:PH}{F:List Nat}(N:Now h0 h F)(K:mU h0):0∉F:=λhm=>by
 obtain⟨t,fr,hb⟩:=K;rw[N.fr 0 hm] at hb;cases hb
theorem zK{h h':PH}{F F':List Nat}{r:Nat}{cs:List Value}(B:Bx h r cs)(n:r∉F)(s:iX h F h' F'):Bx h' r cs∧r∉F':=⟨B.upd s.upd n,λhm=>by
 rcases s.grow _ hm with hx|hx
 ·exact n hx
 ·exact B.known hx⟩
theorem jL.rows(l:List jL):Rows 9 (l.map jL.cells):=λr hr=>by obtain⟨m,_,rfl⟩:=lO.1 hr;rfl
theorem fR.tac{h:PH}{v:Value}{l:List jL}(S:fR h 9 v (l.map jL.cells)){j:Nat}{x:jL}(hx:l[j]? =some x):
  ∃b o,dA PG (indexAt iI v (.int .i64 (j:Int)))=some (pT b o)∧dD h ⟨b,o+3,none⟩=some (.string (tx x.d))∧dD h ⟨b,o+7,none⟩=some (.string x.p.d)∧cD PG h (loadAt cH (pT b o))=some x.v:=by
 obtain⟨b,o,h1,h2,h3⟩:=S.fields iI.und cH.info cH.size (k:=.i64) (j:=j) (r:=x.cells) (by rw[vD,hx];rfl);exact⟨b,o,h1,h2 3 _ rfl,h2 7 _ rfl,h3 _ cH.und rfl⟩
theorem aOV{h:PH}{v:Value}{l:List jL}(S:fR h 9 v (l.map jL.cells)):dA PG (Builtin.len_ #[iI] bT #[v])=some (.int .i64 l.length):=by
 have:=S.len (t':=bT) iI.und;rw[iS] at this;exact this
theorem aRq(c o:Ch)(a:jL):(kF c o a).1.nts.length≤c.nts.length+1:=by
 have put:∀(s:Ch) (n:Nt),(s.add n).nts.length≤s.nts.length+1:=λs n=>by
  show(s.nts++[n]).length≤_;rw[jP];simp
 unfold kF;split
 ·split
  ·exact put _ _
  ·exact vL _
 ·split
  ·split
   ·exact vL _
   ·exact vL _
  ·split
   ·split
    ·exact put _ _
    ·exact vL _
   ·split
    ·split
     ·exact put _ _
     ·exact vL _
    ·split
     ·split
      ·exact put _ _
      ·exact vL _
     ·split
      ·show(Ch.committed c).nts.length≤_;unfold Ch.committed;split
       ·exact Nat.zero_le _
       ·exact vL _
      ·exact vL _
theorem aSw(a b:Ch)(x:jL){n:Nat}(ha:a.nts.length≤n)(hb:b.nts.length≤n):(iZ a b x).1.1.nts.length≤n+1∧(iZ a b x).1.2.nts.length≤n+1:=by
 unfold iZ;split
 ·have:=aRq b a x;exact⟨by show a.nts.length≤_;omega,by show(kF b a x).1.nts.length≤_;omega⟩
 ·have:=aRq a b x;exact⟨by show(kF a b x).1.nts.length≤_;omega,by show b.nts.length≤_;omega⟩
theorem aZU{h:PH}{x y:Operand}(a b:Bool):cD PG h (jS .neq fU x y (.bool a) (.bool b))=some (.bool (a !=b)):=by
 show cD PG h (Op.equalIn (9999+1) fU (.bool a) (.bool b) >>= λb=>(pure (Value.bool (!b)):Sem Value))=_;rw[jQ,aTg fU.und];rfl
structure aYk(s:Ch)(q:Pl)(p:Nat):Prop where
 here:∃d i:Nat,q=⟨((s.first+d:Nat):Int),((i:Nat):Int)⟩∧d<s.blk.length∧i≤((s.blk.drop d).head?.getD []).length∧((s.blk.take d).flatten).length+i=p
theorem aYk.first{s:Ch}(h:s.blk≠[]):aYk s ⟨(s.first:Int),0⟩ 0:=⟨⟨0,0,rfl,aHN.2 h,Nat.zero_le _,by simp⟩⟩
def Ch.tot(s:Ch):Nat:=s.blk.flatten.length+s.nts.length
theorem aXo(s:Ch)(n:Nt):(s.add n).tot=s.tot+1:=by
 unfold Ch.tot Ch.add;simp only[jP,rN,zLM];omega
theorem aXm(s:Ch):s.committed.tot=s.tot:=by
 unfold Ch.tot Ch.committed;split
 ·simp only[zLF,jP,aJk,List.flatten_nil,zLP,zLM];omega
 ·rfl
theorem aVF{l:List gY}{x:gY}(h:(aAa l x).1≠0):(aAa l x).2=l:=by
 unfold aAa at h ⊢;split
 ·rfl
 ·rename_i h1;rw[if_neg h1] at h;split
  ·rfl
  ·rename_i h2;rw[if_neg h2] at h;split
   ·rfl
   ·rename_i h3;rw[if_neg h3] at h;exact absurd rfl h
def aDe(x:jL):Prop:=x.kind=0∨(2≤x.kind∧x.kind≤4)
instance (x:jL):Decidable (aDe x):=by unfold aDe;infer_instance
theorem aPG(c o:Ch)(x:jL):((kF c o x).2.2.2≠0->(kF c o x).1=c)∧(kF c o x).1.tot=c.tot+(if (kF c o x).2.2.2=0∧aDe x then 1 else 0):=by
 have t1:∀(s:Ch) (e:Int),s.tot=c.tot->e≠0->s.tot=c.tot+(if e=0∧aDe x then 1 else 0):=λs e h he=>by rw[if_neg (λhh=>he hh.1),h];rfl
 have t2:∀(s:Ch) (e:Int),s.tot=c.tot->¬aDe x->s.tot=c.tot+(if e=0∧aDe x then 1 else 0):=λs e h he=>by rw[if_neg (λhh=>he hh.2),h];rfl
 have t3:∀(s:Ch) (n:Nt),s.tot=c.tot->aDe x->(s.add n).tot=c.tot+(if (0:Int)=0∧aDe x then 1 else 0):=λs n h he=>by rw[if_pos ⟨rfl,he⟩,aXo,h]
 unfold kF;by_cases k0:x.kind=0
 ·rw[if_pos k0];by_cases e:rD c x.d x.h=0
  ·rw[if_pos e];exact⟨λh=>absurd rfl h,t3 ((c.put _ _).next) _ rfl (.inl k0)⟩
  ·rw[if_neg e];exact⟨λ_=>rfl,t1 c _ rfl e⟩
 rw[if_neg k0];by_cases k1:x.kind=1
 ·rw[if_pos k1];have nc:¬aDe x:=by unfold aDe;omega
  cases oK o.st x.h with
  | none=>exact⟨λ_=>rfl,t2 c _ rfl nc⟩
  | some b=>
   refine⟨λh=>?_,t2 _ _ rfl nc⟩;show c.told _ _=c;unfold Ch.told;rw[aVF h]
 rw[if_neg k1];by_cases k2:x.kind=2
 ·rw[if_pos k2];split
  ·exact⟨λh=>absurd rfl h,t3 ((c.put _ _).put _ _) _ rfl (.inr (by omega))⟩
  ·rename_i e;exact⟨λ_=>rfl,t1 c _ rfl e⟩
 rw[if_neg k2];by_cases k3:x.kind=3
 ·rw[if_pos k3];split
  ·exact⟨λh=>absurd rfl h,t3 (c.del _) _ rfl (.inr (by omega))⟩
  ·rename_i e;exact⟨λ_=>rfl,t1 c _ rfl e⟩
 rw[if_neg k3];by_cases k4:x.kind=4
 ·rw[if_pos k4];split
  ·exact⟨λh=>absurd rfl h,t3 (c.del _) _ rfl (.inr (by omega))⟩
  ·rename_i e;exact⟨λ_=>rfl,t1 c _ rfl e⟩
 rw[if_neg k4];have nc:¬aDe x:=by unfold aDe;omega
 by_cases k5:x.kind=5
 ·rw[if_pos k5];refine⟨λh=>?_,t2 _ _ (aXm c) nc⟩;show c.committed=c;unfold Ch.committed;rw[if_neg h]
 ·rw[if_neg k5];exact⟨λ_=>rfl,t2 c _ rfl nc⟩
def wc(a b:Ch):List Value:=[.int .i64 ((a.tot:Nat):Int),.int .i64 ((b.tot:Nat):Int)]
structure tP(s:Ch):Prop where
 blk:∀b∈s.blk,∀n∈b,n.right=true
 nts:∀n∈s.nts,n.right=true
theorem aMa:∀{l:List (Int×Bool)},(∀x∈l,x.1≠0)->zL l=0->∀x∈l,x.2=true
 | [],_,_,x,hx=>by cases hx
 | y::l,hz,h,x,hx=>by
  rw[zL] at h;cases hy:y.2 with
  | true=>
   rw[hy,if_pos rfl] at h;rcases gP.1 hx with rfl|hx
   ·exact hy
   ·exact aMa (λz hz'=>hz z (by simp[hz'])) h x hx
  | false=>
   rw[hy,if_neg (by decide)] at h;exact absurd h (hz y (by simp))
theorem aLe{s:Ch}{l:List (Int×Bool)}(hz:∀x∈l,x.1≠0)(h:rB s l=0):(∀x∈l,x.2=true)∧s.st.height≠18446744073709551615:=by
 unfold rB at h;by_cases c:s.st.height=18446744073709551615
 ·rw[if_pos c] at h;cases h
 ·rw[if_neg c] at h;exact⟨aMa hz h,c⟩
theorem aOo{s:Ch}{d:Tx}{t:Nat}(h:rD s d t=0):s.seq<18446744073709551615∧(jX s d t).right=true∧aJu s.cl<(t:Int)∧s.st.now.length+1≤4096∧s.st.height≠18446744073709551615:=by
 obtain⟨h1,h2⟩:=aLe (by simp) h;simp only[gP,kL,or_false,forall_eq_or_imp,forall_eq,decide_eq_true_eq] at h1;exact⟨h1.1,h1.2.1,h1.2.2.1,h1.2.2.2,h2⟩
theorem aL4{s:Ch}{p:Pk}{pf:Tx}{x:Int}(h:rB s (tO s p pf x)=0):p.right=true∧p.f=1-s.id∧IntKind.u64.wrap ((s.st.height:Int)+1)<p.t∧(gG s.st.now (fS 114 p.s.toNat)).isSome=false∧(kO s.cl x).isSome=true∧aCd (pX s.cl x) pf (fS 99 p.s.toNat) (mN p)=true∧s.st.height≠18446744073709551615:=by
 obtain⟨h1,h2⟩:=aLe (by unfold tO;simp) h;unfold tO at h1;simp only[gP,kL,or_false,forall_eq_or_imp,forall_eq,yE,beq_iff_eq,decide_eq_true_eq,Bool.not_eq_true'] at h1;obtain⟨⟨a,b⟩,c,d,e,f,-⟩:=h1;exact⟨a,b,c,d,e,f,h2⟩
theorem aDh{s:Ch}{p:Pk}{l:List (Int×Bool)}(hz:∀x∈l,x.1≠0)(h:jI s p l=0):p.right=true∧p.f=s.id∧oV s p=true∧(∀x∈l,x.2=true)∧s.st.height≠18446744073709551615:=by
 obtain⟨h1,h2⟩:=aLe (by
  intro x hx;simp only[zLV,yF,gP] at hx;rcases hx with rfl|rfl|hx
  ·show(1:Int)≠0;decide
  ·show(3:Int)≠0;decide
  ·exact hz x hx) h
 have a:=h1 (1,p.right&&(p.f==s.id)) (by simp);have b:=h1 (3,oV s p) (by simp);simp only[yE,beq_iff_eq] at a;exact⟨a.1,a.2,b,λx hx=>h1 x (by simp[hx]),h2⟩
theorem tP.add{s:Ch}(H:tP s){n:Nt}(h:n.right=true):tP (s.add n):=⟨H.blk,λm hm=>by
 rcases jG.1 hm with hm|hm
 ·exact H.nts m hm
 ·simp only[fV] at hm;subst hm;exact h⟩
theorem tP.com{s:Ch}(H:tP s):tP s.committed:=by
 unfold Ch.committed;split
 ·refine⟨λb hb=>?_,λn hn=>by cases hn⟩;rcases jG.1 hb with hb|hb
  ·exact H.blk b hb
  ·simp only[fV] at hb;subst hb;exact H.nts
 ·exact H
theorem tP.new{id:Int}{n seq:Nat}:tP (Ch.new id n seq):=by
 refine⟨λb hb n hn=>?_,λn hn=>by cases hn⟩;simp only[Ch.new,fV] at hb;subst hb;cases hn
theorem aKu{k:Int}{p:Pk}(h1:1≤k)(h2:k≤4)(h:p.right=true):Nt.right ⟨k,p⟩=true:=by
 unfold Nt.right;simp[h1,h2,h]
theorem tP.doP{c:Ch}(H:tP c)(o:Ch)(x:jL):tP (kF c o x).1:=by
 unfold kF;by_cases k0:x.kind=0
 ·rw[if_pos k0];split
  ·rename_i e;exact tP.add (s:=(c.put _ _).next) ⟨H.blk,H.nts⟩ (aKu (by decide) (by decide) (aOo e).2.1)
  ·exact H
 rw[if_neg k0];by_cases k1:x.kind=1
 ·rw[if_pos k1];split
  ·exact H
  ·exact⟨H.blk,H.nts⟩
 rw[if_neg k1];by_cases k2:x.kind=2
 ·rw[if_pos k2];split
  ·rename_i e;exact tP.add (s:=(c.put _ _).put _ _) ⟨H.blk,H.nts⟩ (aKu (by decide) (by decide) (aL4 e).1)
  ·exact H
 rw[if_neg k2];by_cases k3:x.kind=3
 ·rw[if_pos k3];split
  ·rename_i e;exact tP.add (s:=c.del _) ⟨H.blk,H.nts⟩ (aKu (by decide) (by decide) (aDh (by unfold xS;simp) e).1)
  ·exact H
 rw[if_neg k3];by_cases k4:x.kind=4
 ·rw[if_pos k4];split
  ·rename_i e;exact tP.add (s:=c.del _) ⟨H.blk,H.nts⟩ (aKu (by decide) (by decide) (aDh (by unfold qQ;simp) e).1)
  ·exact H
 rw[if_neg k4];by_cases k5:x.kind=5
 ·rw[if_pos k5];exact H.com
 ·rw[if_neg k5];exact H
theorem tP.step{a b:Ch}(A:tP a)(B:tP b)(x:jL):tP (iZ a b x).1.1∧tP (iZ a b x).1.2:=by
 unfold iZ;split
 ·exact⟨A,B.doP a x⟩
 ·exact⟨A.doP b x,B⟩
end
section
open Go Bld
theorem aBX:({data:=#[]}:ByteArray)=tx []:=rfl
theorem aHE(p:Pr)(i n:Nat)(path:List Tx):(oM p i n path).length=32:=by
 rw[oM];split
 ·split<;>rfl
 ·rfl
theorem Lf.boxC{h:PH}{r:Nat}{f:Lf}{fv:Value}(B:Bx h r (f.cells fv)):cD PG h (loadAt cB (pT r 0))=some (f.val fv):=cB.agg B (by show 0+5≤5;decide)
theorem Lf.boxP{h:PH}{r:Nat}{f:Lf}{fv:Value}(B:Bx h r (f.cells fv)):cD PG h (loadAt cM (pT r 2))=some f.p.val:=cM.agg B (by show 2+2≤5;decide)
theorem aPz:∀(d:Nat) {h:PH} {f:Lf} {fv:Value} {i n:Nat} {b m:Nat} {A:List Tx} {K:List Nat},n≤2^d->1≤n->n≤4096->i<n->gF i n≤f.path.length->(∀x∈f.path,x.length=32)->f.p.k.length+f.p.v.length≤10000000->Bk b m A K h->fR h 1 fv (f.path.map iY)->Off b m fv->∀{k:cE},
  (∀h',Bk b m (upA f.p i n f.path++A) K h'->cU [b,m] h h'->k (.string (tx (oM f.p i n f.path))) h')->aT PG xT #[pT b 0,f.val fv,.int .i64 (i:Int),.int .i64 (n:Int)] h k
 | d,h,f,fv,i,n,b,m,A,K,hd,h1,hn,hi,hdp,hall,hsm,H,S,hv,k,hk=>by
  apply yT.call;unfold yT;intro r1 hr1
  try rw[cW]
  have u1:cZ h (h.set r1 (.cells (Value.cells (f.val fv)) cB)):=cU.new hr1;have B1:Bx (h.set r1 (.cells (Value.cells (f.val fv)) cB)) r1 (f.cells fv):=Bx.new;generalize h.set r1 (.cells (Value.cells (f.val fv)) cB)=h1' at *;have H1:=H.ext u1;have S1:=S.ext u1;by_cases e1:n=1
  ·have q:((n:Int)==1)=true:=by simp[e1]
   have hA:upA f.p i n f.path=[aAn f.p]:=by rw[upA,dif_neg (by omega)]
   have hD:oM f.p i n f.path=aFi f.p:=by rw[oM,dif_neg (by omega)]
   simp only[hQ,q,cB.f2,fE,Lf.boxP B1,cG,reduceIte,cT,Nat.reduceAdd];refine aUa H1 hsm λh2 B2 u2=>?_;rw[hA,hD] at hk;exact hk h2 B2 (u1.upd.trans u2)
  ·have q:((n:Int)==1)=false:=by simp;omega
   have h2:2≤n:=by omega
   obtain⟨m1,m2⟩:=lK h2;cases d with
   | zero=>simp at hd;omega
   | succ d=>
    obtain⟨a,b'⟩:=aEk h2 hd;have lp:cD PG h1' (loadAt cP (pT r1 4))=some fv:=by rw[cP.load,B1.cell];rfl
    simp only[hQ,q,cG,reduceIte,cT,Nat.reduceAdd];refine aJH h2 (by omega) ?_;simp only[cB.f3,fE,lp,cG,reduceIte,cT,Nat.reduceAdd];have hpos:1≤gF i n:=by
     rw[gF,dif_pos h2];split<;>omega
    have hdl:=aJJ 12 i n (by omega);refine aJc 12 (by omega) h1 hn hi ?_;refine⟨lp,?_⟩;have w1:IntKind.i64.wrap (((gF i n:Nat):Int)-1)=((gF i n-1:Nat):Int):=by rw[eV (by omega) (by omega)];omega
    obtain⟨x,hx⟩:∃x,f.path[gF i n-1]? =some x:=⟨_,lQ (by omega)⟩;obtain⟨pa,ha1,ha2⟩:=S1.st hx;have hgx:f.path.getD (gF i n-1) []=x:=by rw[aAX,hx];rfl
    have hxl:=hall x (rC hx);by_cases c:i<dT n
    ·have g:((i:Int)<((dT n:Nat):Int))=True:=eq_true (by omega);have he:gF i n=1+gF i (dT n):=by rw[gF,dif_pos h2,if_pos c]
     have hA:upA f.p i n f.path=rS (oM f.p i (dT n) f.path) x::upA f.p i (dT n) f.path:=by rw[upA,dif_pos h2,if_pos c,hgx]
     have hD:oM f.p i n f.path=aAh (oM f.p i (dT n) f.path) x:=by rw[oM,dif_pos h2,if_pos c,hgx]
     simp only[w1,ha1,ha2,g,Lf.boxC B1,cG,reduceIte,cT,Nat.reduceAdd];refine aPz d a (by omega) (by omega) c (by omega) hall hsm H1 S1 hv λh3 B3 u3=>?_;have s1:dA PG (binOp .add bR (.string (tx [1])) (.string (tx (oM f.p i (dT n) f.path))))=some (.string (tx ([1]++oM f.p i (dT n) f.path))):=lJ (by rw[aHE];decide);have s2:dA PG (binOp .add bR (.string (tx ([1]++oM f.p i (dT n) f.path))) (.string (tx x)))=some (.string (tx (rS (oM f.p i (dT n) f.path) x))):=by
      rw[lJ (by rw[jP,aHE,hxl];decide)];rfl
     simp only[tx1,s1,s2,cG,reduceIte,cT,Nat.reduceAdd];refine aMN B3 (by simp[rS,aHE,hxl]) λh4 B4 u4=>?_;rw[hA,hD,aM3] at hk;exact hk h4 B4 ((u1.upd.trans u3).trans u4)
    ·have g:((i:Int)<((dT n:Nat):Int))=False:=eq_false (by omega);have he:gF i n=1+gF (i-dT n) (n-dT n):=by rw[gF,dif_pos h2,if_neg c]
     have hA:upA f.p i n f.path=rS x (oM f.p (i-dT n) (n-dT n) f.path)::upA f.p (i-dT n) (n-dT n) f.path:=by rw[upA,dif_pos h2,if_neg c,hgx]
     have hD:oM f.p i n f.path=aAh x (oM f.p (i-dT n) (n-dT n) f.path):=by rw[oM,dif_pos h2,if_neg c,hgx]
     have w3:IntKind.i64.wrap ((i:Int)-((dT n:Nat):Int))=((i-dT n:Nat):Int):=by rw[eV (by omega) (by omega)];omega
     have w4:IntKind.i64.wrap ((n:Int)-((dT n:Nat):Int))=((n-dT n:Nat):Int):=by rw[eV (by omega) (by omega)];omega
     have s1:dA PG (binOp .add bR (.string (tx [1])) (.string (tx x)))=some (.string (tx ([1]++x))):=lJ (by rw[hxl];decide);simp only[w1,ha1,ha2,g,w3,w4,tx1,s1,Lf.boxC B1,cG,reduceIte,cT,Nat.reduceAdd];refine aPz d b' (by omega) (by omega) (by omega) (by omega) hall hsm H1 S1 hv λh3 B3 u3=>?_;have s2:dA PG (binOp .add bR (.string (tx ([1]++x))) (.string (tx (oM f.p (i-dT n) (n-dT n) f.path))))=some (.string (tx (rS x (oM f.p (i-dT n) (n-dT n) f.path)))):=by
      rw[lJ (by rw[jP,aHE,hxl];decide)];rfl
     simp only[s2,cG,reduceIte,cT,Nat.reduceAdd];refine aMN B3 (by simp[rS,aHE,hxl]) λh4 B4 u4=>?_;rw[hA,hD,aM3] at hk;exact hk h4 B4 ((u1.upd.trans u3).trans u4)
theorem aTy{h:PH}{f:Lf}{fv:Value}{b m:Nat}{A:List Tx}{K:List Nat}(H:Bk b m A K h)(S:fR h 1 fv (f.path.map iY))(hv:Off b m fv)(hpl:f.path.length≤1000000)(hsm:f.p.k.length+f.p.v.length≤10000000){k:cE}
  (hbad:¬OkC f->∀h',Bk b m A K h'->cU [b,m] h h'->k (.tuple #[.string (tx []),.bool false]) h')
  (hk:OkC f->∀h',Bk b m (aGl f++A) K h'->cU [b,m] h h'->k (.tuple #[.string (tx (aI2 f.n.toNat (aLk f))),.bool true]) h'):
  aT PG aCb #[pT b 0,f.val fv] h k:=by
 apply tC.call;unfold tC;intro r1 hr1
 try rw[cW]
 have u1:cZ h (h.set r1 (.cells (Value.cells (f.val fv)) cB)):=cU.new hr1;have B1:Bx (h.set r1 (.cells (Value.cells (f.val fv)) cB)) r1 (f.cells fv):=Bx.new;generalize h.set r1 (.cells (Value.cells (f.val fv)) cB)=h1 at *;have H1:=H.ext u1;have S1:=S.ext u1;have c0:dD h1 ⟨r1,0,none⟩=some (.int .i64 f.i):=B1.cell 0;have c1:dD h1 ⟨r1,1,none⟩=some (.int .i64 f.n):=B1.cell 1;have c4:dD h1 ⟨r1,4,none⟩=some fv:=B1.cell 4;have lp:=aNj S1;have no:¬OkC f->k (.tuple #[.string (tx []),.bool false]) h1:=λhn=>hbad hn h1 H1 u1.upd;by_cases d1:f.n<1
 ·have g1:=eq_true d1;simp only[cB.f1,fE,bT.load,c1,g1,aBX,cG,reduceIte,cT,Nat.reduceAdd];exact⟨λh=>by simp at h,no λO=>by have:=O.n1;omega⟩
 have g1:=eq_false d1;by_cases d2:4096<f.n
 ·have g2:=eq_true d2;simp only[cB.f1,fE,bT.load,c1,g1,g2,aBX,cG,reduceIte,cT,Nat.reduceAdd];exact⟨λh=>by simp at h,no λO=>by have:=O.n2;omega⟩
 have g2:=eq_false d2;by_cases d3:f.i<0
 ·have g3:=eq_true d3;simp only[cB.f0,cB.f1,fE,bT.load,c0,c1,g1,g2,g3,aBX,cG,reduceIte,cT,Nat.reduceAdd];exact⟨λh=>by simp at h,no λO=>by have:=O.i1;omega⟩
 have g3:=eq_false d3;by_cases d4:f.n≤f.i
 ·have g4:=eq_true d4;simp only[cB.f0,cB.f1,fE,bT.load,c0,c1,g1,g2,g3,g4,aBX,cG,reduceIte,cT,Nat.reduceAdd];exact⟨λh=>by simp at h,no λO=>by have:=O.i2;omega⟩
 have g4:=eq_false d4;obtain⟨i,hi⟩:∃i:Nat,f.i=(i:Int):=⟨f.i.toNat,by omega⟩;obtain⟨n,hn⟩:∃n:Nat,f.n=(n:Int):=⟨f.n.toNat,by omega⟩;have lpath:cD PG h1 (loadAt cP (pT r1 4))=some fv:=by rw[cP.load];exact c4
 simp only[cB.f0,cB.f1,cB.f3,fE,bT.load,lpath,c0,c1,g1,g2,g3,g4,lp,cG,reduceIte,cT,Nat.reduceAdd];rw[hi,hn];refine aJc 12 (by omega) (by omega) (by omega) (by omega) ?_;refine⟨λ_=>lpath,?_⟩;by_cases d5:f.path.length=gF i n
 case neg=>
  have g5:((f.path.length:Int) !=((gF i n:Nat):Int))=true:=by simp;omega
  simp only[kE,g5,aBX,cG,reduceIte,cT,Nat.reduceAdd];exact no λO=>d5 (by have:=O.len;rw[hi,hn] at this;exact this)
 have g5:((f.path.length:Int) !=((gF i n:Nat):Int))=false:=by simp;omega
 simp only[kE,g5,cG,reduceIte,cT,Nat.reduceAdd];refine⟨λvs h'=>∃j:Nat,j≤f.path.length∧vs=[pT b 0,pT r1 0,.int .i64 (j:Int)]∧h'=h1∧∀x∈f.path.take j,x.length=32,gU f.path.length 2,⟨0,by omega,rfl,rfl,λx hx=>by simp at hx⟩,?_⟩;rintro ρ h' ⟨j,hj,hvs,rfl,hal⟩;simp only[iH,iT,kV,and_true] at hvs;obtain⟨v0,v1,v2⟩:=hvs;unfold aFI;rw[v0,v1,v2];by_cases hlt:j<f.path.length
 ·have g:((j:Int)<(f.path.length:Int))=True:=eq_true (by omega);have gj:=pR (i:=j) (by omega);obtain⟨x,hx⟩:∃x,f.path[j]? =some x:=⟨_,lQ hlt⟩;obtain⟨pa,ha1,ha2⟩:=S1.st hx;have lx:dA PG (Builtin.len_ #[bR] bT #[.string (tx x)])=some (.int .i64 (x.length:Int)):=by rw[lP bR.und,iB]
  by_cases hx32:x.length=32
  ·have q:((x.length:Int) !=32)=false:=by simp[hx32]
   simp only[cB.f3,fE,lpath,lp,g,ha1,ha2,lx,kE,q,gj,cG,reduceIte,cT,Nat.reduceAdd];refine⟨⟨j+1,by omega,rfl,by trivial,λy hy=>?_⟩,by simp[gU,v2];omega⟩;rw[zLT,hx] at hy;rcases jG.1 hy with hy|hy
   ·exact hal y hy
   ·simp only[Option.toList_some,fV] at hy;rw[hy];exact hx32
  ·have q:((x.length:Int) !=32)=true:=by simp;omega
   simp only[cB.f3,fE,lpath,lp,g,ha1,ha2,lx,kE,q,aBX,cG,reduceIte,cT,Nat.reduceAdd];exact no λO=>hx32 (O.all x (rC hx))
 ·have g:((j:Int)<(f.path.length:Int))=False:=eq_false (by omega);rw[mW (by omega)] at hal;have O:OkC f:=⟨by omega,by omega,by omega,by omega,by rw[hi,hn];exact d5,hal⟩;simp only[cB.f0,cB.f1,cB.f3,fE,bT.load,lpath,lp,g,c0,c1,Lf.boxC B1,cG,reduceIte,cT,Nat.reduceAdd];rw[hi,hn];refine aPz 12 (by omega) (by omega) (by omega) (by omega) (by omega) hal hsm H1 S1 hv λh2 B2 u2=>?_;have k1b:=H1.known b (by simp);have hr1b:r1∉[b,m]:=λhm'=>by
   simp only[gP,kL,or_false] at hm';rcases hm' with rfl|rfl
   ·exact H.known _ (by simp) hr1
   ·exact H.known _ (by simp) hr1
  have B1':=B1.upd u2 hr1b;have c1':dD h2 ⟨r1,1,none⟩=some (.int .i64 (n:Int)):=by rw[←hn];exact B1'.cell 1
  refine⟨c1',?_⟩;refine aXZ B2 (by omega) (by rw[aHE];decide) λh3 B3 u3=>?_;have hk:=hk O;unfold aGl aLk at hk;rw[hi,hn] at hk;exact hk h3 B3 ((u1.upd.trans u2).trans u3)
theorem aPc{h:PH}{v:Value}{l:List Pr}(S:fR h 2 v (l.map Pr.cells))(hl:l.length≤1000000)(key:Tx){k:cE}(hk:k (.int .i64 ((gV l key:Nat):Int)) h):aT PG yQ #[v,.string (tx key)] h k:=by
 apply aBc.call;unfold aBc;have lv:=S.len (t':=bT) cJ.und;rw[iS] at lv;refine⟨λvs h'=>∃j:Nat,j≤l.length∧vs=[v,.string (tx key),.int .i64 ((gV (l.take j) key:Nat):Int),.int .i64 (j:Int)]∧h'=h,gU l.length 3,⟨0,by omega,rfl,rfl⟩,?_⟩;rintro ρ h' ⟨j,hj,hvs,rfl⟩;simp only[iH,iT,kV,and_true] at hvs;obtain⟨v0,v1,v2,v3⟩:=hvs;unfold aF6 aBp aFU;rw[v0,v1,v2,v3];by_cases hlt:j<l.length
 ·have g:((j:Int)<(l.length:Int))=True:=eq_true (by omega);have gj:=pR (i:=j) (by omega);obtain⟨p,hp⟩:∃p,l[j]? =some p:=⟨_,lQ hlt⟩;obtain⟨x,o,e2,e3,-,-⟩:=S.pair hp;have hpl:gV (l.take j) key≤j:=zLD (aLy _ _) (by rw[uF];omega);have gp:IntKind.i64.wrap (((gV (l.take j) key:Nat):Int)+1)=((gV (l.take j) key+1:Nat):Int):=by rw[eV (by omega) (by omega)];omega
  have et:l.take (j+1)=l.take j++[p]:=by rw[zLT,hp];rfl
  by_cases c:p.k<key
  ·simp only[lv,g,e2,cM.f0,bR.load,e3,xZ,c,gp,gj,cG,reduceIte,cT,Nat.reduceAdd];refine⟨⟨j+1,by omega,?_,by trivial⟩,by simp[gU,v3];omega⟩;rw[et];unfold gV;rw[aHK];simp[c]
  ·simp only[lv,g,e2,cM.f0,bR.load,e3,xZ,c,gj,cG,reduceIte,cT,Nat.reduceAdd];refine⟨⟨j+1,by omega,?_,by trivial⟩,by simp[gU,v3];omega⟩;rw[et];unfold gV;rw[aHK];simp[c]
 ·have g:((j:Int)<(l.length:Int))=False:=eq_false (by omega);rw[mW (by omega)];simp only[lv,g,cG,reduceIte,cT,Nat.reduceAdd];exact hk
theorem aKR{h:PH}{v:Value}{l:List Pr}{j b m:Nat}{A:List Tx}{K:List Nat}(H:Bk b m A K h)(S:fR h 2 v (l.map Pr.cells))(hv:Off b m v)(hs:aAb l)(hl:l.length≤4096)(hj:j<l.length){k:cE}
  (hk:∀h' pv F,Bk b m A K h'->dZ h' bR 1 pv ((kG l j).path.map iY) F->eD h F->cU [b,m] h h'->k ((kG l j).val pv) h'):
  aT PG qN #[pT b 0,v,.int .i64 (j:Int)] h k:=by
 apply uW.call;unfold uW;intro r1 hr1
 try rw[cW]
 have hr1b:r1∉[b,m]:=λhm'=>by
  simp only[gP,kL,or_false] at hm';rcases hm' with rfl|rfl
  ·exact H.known _ (by simp) hr1
  ·exact H.known _ (by simp) hr1
 have u1:cZ h (h.set r1 (.cells (dP PG cB) cB)):=cU.new hr1;have Z1:=cB.zbox (h:=h) (r:=r1);generalize h.set r1 (.cells (dP PG cB) cB)=h1 at *;have lv:=S.len (t':=bT) cJ.und;rw[iS] at lv;obtain⟨p,hp⟩:∃p,l[j]? =some p:=⟨_,lQ hj⟩;obtain⟨x,o,e2,-,-,e3⟩:=(S.ext u1).pair hp;simp only[lv,e2,e3,cG,reduceIte,cT,Nat.reduceAdd];refine aM4 l.length (oL _) hj (by omega) (H.ext u1) (S.ext u1) hv hs λh2 pv F B2 O2 f2 u2=>?_;have e3':cD PG h2 (loadAt cM (pT x o))=some p.val:=by
  obtain⟨x',o',e2',-,-,e3'⟩:=((S.ext u1).upd u2 hv).pair hp;have e:(some (pT x o))=some (pT x' o'):=e2.symm.trans e2';simp only[zL8,Value.pointer.injEq,Addr.mk.injEq,and_true] at e;rw[e.1,e.2];exact e3'
 refine⟨e3',?_⟩;obtain⟨pa,pc,epv,-⟩:=O2.slR.here;have elf:kG l j=⟨(j:Int),(l.length:Int),p,nV l j⟩:=aLl hp;have hb:dA PG (build cB #[(0,.int .i64 (j:Int)),(1,.int .i64 (l.length:Int)),(2,p.val),(3,pv)])=some ((kG l j).val pv):=by
  rw[epv,elf];exact aWR _ _ _ _ _ _
 have F1:r1∉F:=λhm=>Z1.known (f2 _ hm);have Z2:=Z1.upd u2 hr1b;simp only[hb,cG,reduceIte,cT,Nat.reduceAdd];refine cB.put Z2 (o:=0) (vs:=(kG l j).cells pv) rfl (by show 0+5≤5;decide) (Lf.isC _ O2.slR.isc) λh3 B3 u3=>?_;have B3:Bx h3 r1 ((kG l j).cells pv):=B3;simp only[Lf.boxC B3,cG,reduceIte,cT,Nat.reduceAdd];refine hk h3 pv F (B2.upd u3 (λx hx hm=>?_)) ?_ (λx hx=>u1.none (f2 x hx)) ((u1.upd.trans u2).then u3 (λx hx=>?_))
 ·simp only[fV] at hm;subst hm;exact H.known _ hx hr1
 ·rw[elf];exact O2.upd u3 (λx hx=>by simp only[fV];rintro rfl;exact F1 hx)
 ·simp only[fV] at hx;subst hx;exact .inr hr1
theorem nL.push{h0 h1 h2:PH}{v:Value}{fs:List Lf}{b m:Nat}(H:nL h0 h1 v fs)(kb:h0 b≠none)(km:h0 m≠none)(u:cU [b,m] h1 h2)(n01:∀x,h1 x=none->h0 x=none)(n02:∀x,h2 x=none->h0 x=none){f:Lf}{pv:Value}{G:List Nat}(O:dZ h2 bR 1 pv (f.path.map iY) G)(fG:eD h1 G)(hl:fs.length≤1000){R:cE}
  (hR:∀h3 v' F',nL h0 h3 v' (fs++[f])->eD h0 F'->cU F' h2 h3->R v' h3):
  dY (jK PG (buildSlice cN 1 #[(0,f.val pv)])) λx40=>∀r39,h2 r39=none->dY (dA PG (x40.2 r39)) λv41=>cY PG (Builtin.append_ #[cN,cN] cN #[v,v41]) (PH.set h2 r39 x40.1) R:=by
 obtain⟨l,F,e,OL,fF,L⟩:=H.here;simp only[aMV,cG,reduceIte,cT,Nat.reduceAdd];intro r hr;refine fI ?_
 try rw[cW]
 have u4:cZ h2 (h2.set r (.cells (f.cells pv).toArray cB)):=cU.new hr;have s4:fR (h2.set r (.cells (f.cells pv).toArray cB)) 5 (.slice (some ⟨r,0,none⟩) 1 1) ([((f,pv):LV)].map qE):=(dZ.lit (n:=1) (qE.rows [(f,pv)]) dL (by simp) (by decide) (by simp[qE])).slR;generalize h2.set r (.cells (f.cells pv).toArray cB)=h4 at *;have hF2:∀x∈F,x∉[b,m]:=fF.off kb km;have hlen:l.length=fs.length:=by rw[←e,iS]
 refine jF cN.und cN.und cB.info cB.size cB.bytes cB.zero rfl (by decide) ((OL.upd u hF2).ext u4) s4 (λr hr u hu=>by
  obtain⟨y,hy,rfl⟩:=lO.1 hr;simp only[fV] at hy;subst hy;exact Lf.isC _ O.slR.isc u hu) (by simp only[iS,zLS];omega) ?_
 intro v5 h5 F5 O5 u5 k5 _;rw[←qI] at O5;have hFk:∀x∈F,h1 x≠none:=OL.known;have GF:∀x∈G,x∉F:=λx hx hx'=>hFk x hx' (fG x hx);have f5:eD h0 F5:=λx hx=>by
  rcases k5 x hx with hx|hx
  ·exact fF x hx
  ·exact n02 x (u4.none hx)
 refine hR h5 v5 F ⟨⟨l++[(f,pv)],F5,by rw[qI,e];rfl,O5,f5,λy hy=>?_⟩⟩ fF (u4.upd.trans u5);rcases jG.1 hy with hy|hy
 ·obtain⟨G',O',f',d'⟩:=L y hy;have k1:∀x∈G',h1 x≠none:=O'.known;refine⟨G',((O'.upd u (f'.off kb km)).ext u4).upd u5 (λx hx=>d' x hx),f',λx hx hx5=>?_⟩;rcases k5 x hx5 with h|h
  ·exact d' x hx h
  ·exact((O'.upd u (f'.off kb km)).ext u4).known x hx h
 ·simp only[fV] at hy;subst hy;refine⟨G,(O.ext u4).upd u5 GF,λx hx=>n01 x (fG x hx),λx hx hx5=>?_⟩;rcases k5 x hx5 with h|h
  ·exact GF x hx h
  ·exact(O.ext u4).known x hx h
theorem nL.one{h0 h2:PH}{f:Lf}{pv:Value}{G:List Nat}(O:dZ h2 bR 1 pv (f.path.map iY) G)(fG:eD h0 G)(n02:∀x,h2 x=none->h0 x=none){r:Nat}(hr:h2 r=none):
  nL h0 (h2.set r (.cells (f.cells pv).toArray cB)) (.slice (some ⟨r,0,none⟩) 1 1) [f]∧cZ h2 (h2.set r (.cells (f.cells pv).toArray cB)):=by
 have u4:cZ h2 (h2.set r (.cells (f.cells pv).toArray cB)):=cU.new hr;have O4:dZ (h2.set r (.cells (f.cells pv).toArray cB)) cB 5 (.slice (some ⟨r,0,none⟩) 1 1) ([((f,pv):LV)].map qE) [r]:=dZ.lit (n:=1) (qE.rows [(f,pv)]) dL (by simp) (by decide) (by simp[qE]);generalize h2.set r (.cells (f.cells pv).toArray cB)=h4 at *;refine⟨⟨⟨[(f,pv)],[r],rfl,O4,λx hx=>?_,λy hy=>?_⟩⟩,u4⟩
 ·simp only[fV] at hx;subst hx;exact n02 _ hr
 ·simp only[fV] at hy;subst hy;refine⟨G,O.ext u4,fG,λx hx hx5=>?_⟩;simp only[fV] at hx5;subst hx5;exact O.known _ hx hr
theorem Pf.boxC{h:PH}{r:Nat}{ab:Bool}{v:Value}(B:Bx h r [.bool ab,v]):cD PG h (loadAt cC (pT r 0))=some (Pf.val ab v):=cC.agg B (by show 0+2≤2;decide)
theorem aHo{l:List Pr}(H:rM l){key:Tx}:(gG l key).isSome=true↔∃p,l[gV l key]? =some p∧p.k=key:=by
 constructor
 ·intro h;obtain⟨p,hp⟩:=Option.isSome_iff_exists.1 h;exact⟨p,aLK H hp,((zX H).1 hp).2⟩
 ·rintro⟨p,h1,h2⟩;rw[(zX H).2 ⟨rC h1,h2⟩];rfl
theorem aRF{h:PH}{v:Value}{l:List Pr}{key:Tx}{b m:Nat}{A:List Tx}{K:List Nat}(H:Bk b m A K h)(M:MOk l)(S:fR h 2 v (l.map Pr.cells))(hv:Off b m v){k:cE}
  (hno:gG l key=none->∀h',Bk b m A K h'->cU [b,m] h h'->k (.tuple #[Pf.val false (.slice none 0 0),.int .i64 3]) h')
  (hyes:(gG l key).isSome=true->∀h' v',Bk b m A K h'->nL h h' v' [kG l (gV l key)]->cU [b,m] h h'->k (.tuple #[Pf.val false v',.int .i64 0]) h'):
  aT PG aA5 #[pT b 0,v,.string (tx key)] h k:=by
 apply aAA.call;unfold aAA;have hl:=M.len;have kb:=H.known b (by simp);have km:=H.known m (by simp);intro r1 hr1
 try rw[cW]
 have hr1b:r1∉[b,m]:=(eD.one hr1).off kb km r1 (by simp);have u1:cZ h (h.set r1 (.cells (dP PG cC) cC)):=cU.new hr1;have Z1:=cC.zbox (h:=h) (r:=r1);generalize h.set r1 (.cells (dP PG cC) cC)=h1 at *;have H1:=H.ext u1;have S1:=S.ext u1;have lv:=S.len (t':=bT) cJ.und;rw[iS] at lv;have hple:=aIp l key;have no:gG l key=none->dY (dA PG (build cC #[])) λv33=>cY PG (dN cC (pT r1 0) v33) h1 λv34 h35=>dY (cD PG h35 (loadAt cC (pT r1 0))) λv36=>k (Value.tuple #[v36,(Value.int IntKind.i64 3)]) h35:=λhn=>by
  simp only[aGk,cG,reduceIte,cT,Nat.reduceAdd];refine cC.put (vs:=[.bool false,.slice none 0 0]) Z1 (o:=0) rfl (by show 0+2≤2;decide) (by simp[fP]) λh6 B6 u6=>?_;have B6:Bx h6 r1 [.bool false,.slice none 0 0]:=B6;simp only[Pf.boxC B6,cG,reduceIte,cT,Nat.reduceAdd];exact hno hn h6 (H1.upd u6 (λx hx hm=>by simp only[fV] at hm;subst hm;exact H.known _ hx hr1)) ((u1.upd (F:=[b,m])).then u6 (λx hx=>by simp only[fV] at hx;subst hx;exact .inr hr1))
 refine aPc S1 (by omega) key ?_;by_cases c1:gV l key=l.length
 ·have q:(((gV l key:Nat):Int)==(l.length:Int))=true:=by rw[beq_iff_eq];omega
  simp only[lv,hQ,q,cG,reduceIte,cT,Nat.reduceAdd];refine no ?_;have:¬(gG l key).isSome=true:=λh=>by
   obtain⟨p,h1,-⟩:=(aHo M.up).1 h;have:=(zLz.1 h1).1;omega
  simpa using this
 ·have q:(((gV l key:Nat):Int)==(l.length:Int))=false:=by rw[beq_eq_false_iff_ne];omega
  obtain⟨p,hp⟩:∃p,l[gV l key]? =some p:=⟨_,lQ (by omega)⟩;obtain⟨x,o,e2,e3,-,-⟩:=S1.pair hp;by_cases c2:p.k=key
  ·have q2:(!decide (p.k=key))=false:=by simp[c2]
   simp only[lv,hQ,q,e2,cM.f0,bR.load,e3,aDY,q2,cG,reduceIte,cT,Nat.reduceAdd];refine aKR H1 S1 hv M.small hl (by omega) λh2 pv F B2 O2 f2 u2=>?_;have n02:∀x,h2 x=none->h1 x=none:=λx hx=>u2.grow2 (B2.known b (by simp)) (B2.known m (by simp)) hx;simp only[aMV,cG,reduceIte,cT,Nat.reduceAdd];intro r9 hr9;refine fI ?_
   try rw[cW]
   obtain⟨L3,u3⟩:=nL.one O2 f2 n02 hr9;generalize h2.set r9 (.cells ((kG l (gV l key)).cells pv).toArray cB)=h3 at *;simp only[aWU,cG,reduceIte,cT,Nat.reduceAdd];obtain⟨v3,ev3⟩:∃v3:Value,v3= .slice (some ⟨r9,0,none⟩) 1 1:=⟨_,rfl⟩;rw[←ev3] at L3 ⊢;refine cC.put (vs:=[.bool false,v3]) ((Z1.upd u2 hr1b).ext u3) (o:=0) rfl (by show 0+2≤2;decide) (by
    have:=L3.isc;simp[fP];exact this) λh6 B6 u6=>?_
   have B6:Bx h6 r1 [.bool false,v3]:=B6;simp only[Pf.boxC B6,cG,reduceIte,cT,Nat.reduceAdd];refine hyes ((aHo M.up).2 ⟨p,hp,c2⟩) h6 v3 ((B2.ext u3).upd u6 (λx hx hm=>by simp only[fV] at hm;subst hm;exact H.known _ hx hr1)) ((L3.upd u6 (λx hx=>by simp only[fV] at hx;subst hx;exact Z1.known)).of u1) (((u1.upd.trans u2).trans u3.upd).then u6 (λx hx=>by simp only[fV] at hx;subst hx;exact .inr hr1))
  ·have q2:(!decide (p.k=key))=true:=by simp[c2]
   simp only[lv,hQ,q,e2,cM.f0,bR.load,e3,aDY,q2,cG,reduceIte,cT,Nat.reduceAdd];refine no ?_;have:¬(gG l key).isSome=true:=λh=>by
    obtain⟨p',h1,h2⟩:=(aHo M.up).1 h;rw[hp] at h1;obtain rfl:=aKh h1;exact c2 h2
   simpa using this
theorem aSl{h:PH}{v:Value}{l:List Pr}{key:Tx}{b m:Nat}{A:List Tx}{K:List Nat}(H:Bk b m A K h)(M:MOk l)(S:fR h 2 v (l.map Pr.cells))(hv:Off b m v){k:cE}
  (hbad:¬(1≤key.length∧key.length≤16)->∀h',Bk b m A K h'->cU [b,m] h h'->k (.tuple #[Pf.val false (.slice none 0 0),.int .i64 1]) h')
  (hyes:(1≤key.length∧key.length≤16)->(gG l key).isSome=true->∀h',Bk b m A K h'->cU [b,m] h h'->k (.tuple #[Pf.val false (.slice none 0 0),.int .i64 4]) h')
  (hk:(1≤key.length∧key.length≤16)->gG l key=none->∀h' v',Bk b m A K h'->nL h h' v' (jN l key).lv->cU [b,m] h h'->k (.tuple #[Pf.val true v',.int .i64 0]) h'):
  aT PG aBw #[pT b 0,v,.string (tx key)] h k:=by
 apply rG.call;unfold rG;have hl:=M.len;have kb:=H.known b (by simp);have km:=H.known m (by simp);intro r1 hr1
 try rw[cW]
 have hr1b:r1∉[b,m]:=(eD.one hr1).off kb km r1 (by simp);have u1:cZ h (h.set r1 (.cells (dP PG cC) cC)):=cU.new hr1;have Z1:=cC.zbox (h:=h) (r:=r1);generalize h.set r1 (.cells (dP PG cC) cC)=h1 at *;have H1:=H.ext u1;have S1:=S.ext u1;have lk:dA PG (Builtin.len_ #[bR] bT #[.string (tx key)])=some (.int .i64 (key.length:Int)):=by rw[lP bR.und,iB]
 have lv:=S.len (t':=bT) cJ.und;rw[iS] at lv;have hple:=aIp l key;have no:∀e:Int,(∀h',Bk b m A K h'->cU [b,m] h h'->k (.tuple #[Pf.val false (.slice none 0 0),.int .i64 e]) h')->dY (dA PG (build cC #[])) λv33=>cY PG (dN cC (pT r1 0) v33) h1 λv34 h35=>dY (cD PG h35 (loadAt cC (pT r1 0))) λv36=>k (Value.tuple #[v36,(Value.int IntKind.i64 e)]) h35:=λe hn=>by
  simp only[aGk,cG,reduceIte,cT,Nat.reduceAdd];refine cC.put (vs:=[.bool false,.slice none 0 0]) Z1 (o:=0) rfl (by show 0+2≤2;decide) (by simp[fP]) λh6 B6 u6=>?_;have B6:Bx h6 r1 [.bool false,.slice none 0 0]:=B6;simp only[Pf.boxC B6,cG,reduceIte,cT,Nat.reduceAdd];exact hn h6 (H1.upd u6 (λx hx hm=>by simp only[fV] at hm;subst hm;exact H.known _ hx hr1)) ((u1.upd (F:=[b,m])).then u6 (λx hx=>by simp only[fV] at hx;subst hx;exact .inr hr1))
 by_cases d1:key.length<1
 ·have g1:((key.length:Int)<1)=True:=eq_true (by omega);simp only[lk,g1,cG,reduceIte,cT,Nat.reduceAdd];exact no 1 (hbad (by omega))
 have g1:((key.length:Int)<1)=False:=eq_false (by omega);by_cases d2:16<key.length
 ·have g2:((16:Int)<(key.length:Int))=True:=eq_true (by omega);simp only[lk,g1,g2,cG,reduceIte,cT,Nat.reduceAdd];exact no 1 (hbad (by omega))
 have g2:((16:Int)<(key.length:Int))=False:=eq_false (by omega);have hkl:1≤key.length∧key.length≤16:=by omega
 simp only[lk,g1,g2,cG,reduceIte,cT,Nat.reduceAdd];refine aPc S1 (by omega) key ?_;obtain⟨n,hn⟩:∃n,n=gV l key:=⟨_,rfl⟩;rw[←hn] at hple;rw[←hn];have lvS:∀{t':TypeId},dA PG (Builtin.len_ #[cJ] t' #[v])=some (.int .i64 (l.length:Int)):=fun {t'}=>by
  have:=S.len (t':=t') cJ.und;rw[iS] at this;exact this
 cases hg:(gG l key).isSome with
 | true=>
  obtain⟨p,hp,c2⟩:=(aHo M.up).1 hg;rw[←hn] at hp;have hnl:=(zLz.1 hp).1;have q:(((n:Nat):Int)<(l.length:Int))=True:=eq_true (by omega);obtain⟨x,o,e2,e3,-,-⟩:=S1.pair hp;have q2:decide (p.k=key)=true:=by simp[c2]
  simp only[lv,q,e2,cM.f0,bR.load,e3,aCQ,q2,cG,reduceIte,cT,Nat.reduceAdd];exact no 4 (hyes hkl hg)
 | false=>
  have hg':gG l key=none:=by simpa using hg
  have hno:∀p,l[n]? =some p->p.k≠key:=λp hp e=>by
   have:=(aHo M.up).2 ⟨p,by rw[←hn];exact hp,e⟩;rw[hg] at this;cases this
  have hpf:(jN l key).lv=(if 0<n then [kG l (n-1)] else [])++(if n<l.length then [kG l n] else []):=by
   unfold jN;rw[hg,if_neg (by decide),←hn];by_cases h0:l=[]
   ·have:n=0:=by rw[h0] at hple;simpa using hple
    rw[if_pos h0,this,if_neg (by decide),if_neg (by rw[h0];decide)];rfl
   ·have hpos:0<l.length:=aHN.2 h0;rw[if_neg h0];by_cases c0:n=0
    ·rw[if_pos c0,c0,if_neg (by decide),if_pos hpos];rfl
    ·have h0n:0<n:=by omega
     rw[if_neg c0,if_pos h0n];by_cases cl:n=l.length
     ·rw[if_pos cl,if_neg (by omega),cl];rfl
     ·rw[if_neg cl,if_pos (by omega)];rfl
  have tail:∀{r56:Nat} {h2 h4:PH} {v4:Value} {fs:List Lf},h1 r56=none->h2 r56≠none->cZ h1 h2->Bk b m A K h4->fR h4 2 v (l.map Pr.cells)->nL h2 h4 v4 fs->Bx h4 r56 [.bool true,v4]->Bx h4 r1 (Value.agg #[Value.bool false,Value.slice none 0 0]).cells.toList->fs.length≤5->cU [b,m] h h4->(∀x,h4 x=none->h2 x=none)->fs++(if n<l.length then [kG l n] else [])=(jN l key).lv->vP k (pT b 0) v (pT r1 0) (.int .i64 ((n:Nat):Int)) (pT r56 0) h4:=by
   intro r56 h2 h4 v4 fs hr56 k56 u12 B4 S4 L4 X4 Y4 hfs U4 n42 hfin;have hx56:r56∉[b,m]:=λhm'=>by
    simp only[gP,kL,or_false] at hm';rcases hm' with rfl|rfl
    ·exact kb (u1.none hr56)
    ·exact km (u1.none hr56)
   have n61:r1≠r56:=λe=>Z1.known (e▸hr56);have kb2:h2 b≠none:=λe=>kb ((u1.trans u12).none e);have km2:h2 m≠none:=λe=>km ((u1.trans u12).none e)
   -- the end
   have last:∀{h5:PH} {v5:Value},Bk b m A K h5->nL h2 h5 v5 (jN l key).lv->Bx h5 r56 [.bool true,v5]->Bx h5 r1 (Value.agg #[Value.bool false,Value.slice none 0 0]).cells.toList->cU [b,m] h h5->vN k (pT r1 0) (pT r56 0) h5:=by
    intro h5 v5 B5 L5 X5 Y5 U5;unfold vN;simp only[Pf.boxC X5,cG,reduceIte,cT,Nat.reduceAdd];refine cC.put (vs:=[.bool true,v5]) Y5 (o:=0) rfl (by show 0+2≤2;decide) (by
     have:=L5.isc;simp[fP];exact this) λh6 B6 u6=>?_
    have B6:Bx h6 r1 [.bool true,v5]:=B6;simp only[Pf.boxC B6,cG,reduceIte,cT,Nat.reduceAdd];exact hk hkl hg' h6 v5 (B5.upd u6 (λx hx hm=>by simp only[fV] at hm;subst hm;exact H.known _ hx hr1)) ((L5.upd u6 (λx hx=>by simp only[fV] at hx;subst hx;exact λe=>Z1.known (u12.none e))).of (u1.trans u12)) (U5.then u6 (λx hx=>by simp only[fV] at hx;subst hx;exact .inr hr1))
   unfold vP;by_cases c1:n<l.length
   ·have q:(((n:Nat):Int)<(l.length:Int))=True:=eq_true (by omega);have l4:cD PG h4 (loadAt cN (pT r56 1))=some v4:=by rw[cN.load,X4.cell];rfl
    simp only[lvS,q,cC.f1,fE,l4,cG,reduceIte,cT,Nat.reduceAdd];refine aKR B4 S4 hv M.small hl c1 λh5 pv F B5 O5 f5 u5=>?_;have X5:=X4.upd u5 hx56;have Y5:=Y4.upd u5 hr1b;have l5:cD PG h5 (loadAt cN (pT r56 1))=some v4:=by rw[cN.load,X5.cell];rfl
    refine⟨l5,?_⟩;have n52:∀x,h5 x=none->h2 x=none:=λx hx=>n42 x (u5.grow2 (B5.known b (by simp)) (B5.known m (by simp)) hx);refine L4.push kb2 km2 u5 n42 n52 O5 f5 (by omega) λh6 v6 F6 L6 f6 u6=>?_;have n6:r56∉F6:=λhm=>k56 (f6 _ hm);have m6:r1∉F6:=λhm=>Z1.known (u12.none (f6 _ hm));have X6:=X5.upd u6 n6;refine cN.put X6 (o:=1) (by show 1<2;decide) L6.isc λh7 X7 u7=>?_;have X7:Bx h7 r56 [.bool true,v6]:=X7;rw[if_pos c1] at hfin;rw[hfin] at L6;have U7:cU [b,m] h h7:=((U4.trans u5).then u6 (λx hx=>.inr ((u1.trans u12).none (f6 x hx)))).then u7 (λx hx=>by simp only[fV] at hx;subst hx;exact .inr (u1.none hr56))
    refine last ((B5.upd u6 (λx hx hm=>?_)).upd u7 (λx hx hm=>?_)) (L6.upd u7 (λx hx=>by simp only[fV] at hx;subst hx;exact k56)) X7 ((Y5.upd u6 m6).upd u7 (by simp only[fV];exact n61)) U7
    ·exact H.known _ hx ((u1.trans u12).none (f6 _ hm))
    ·simp only[fV] at hm;subst hm;exact H.known _ hx (u1.none hr56)
   ·have q:(((n:Nat):Int)<(l.length:Int))=False:=eq_false (by omega);simp only[lvS,q,cG,reduceIte,cT,Nat.reduceAdd];rw[if_neg c1,zLP] at hfin;rw[hfin] at L4;exact last B4 L4 X4 Y4 U4
  have go:∀{r56:Nat} {h2:PH},h1 r56=none->Bx h2 r56 [.bool true,.slice none 0 0]->cZ h1 h2->(0<n->∀(K':cE),(∀h' v',Bk b m A K h'->fR h' 2 v (l.map Pr.cells)->nL h2 h' v' [kG l (n-1)]->Bx h' r56 [.bool true,.slice none 0 0]->Bx h' r1 (Value.agg #[Value.bool false,Value.slice none 0 0]).cells.toList->cU [b,m] h h'->(∀x,h' x=none->h2 x=none)->K' v' h')->
    aT PG qN #[pT b 0,v,.int .i64 ((n-1:Nat):Int)] h2 λv64 h65=>cD PG h65 (loadAt cN (pT r56 1))=some (.slice none 0 0)∧(dY (jK PG (buildSlice cN 1 #[(0,v64)])) λx67=>∀r66,h65 r66=none->dY (dA PG (x67.2 r66)) λv68=>cY PG (Builtin.append_ #[cN,cN] cN #[.slice none 0 0,v68]) (PH.set h65 r66 x67.1) λv70 h71=>K' v70 h71)):=by
   intro r56 h2 hr56 X2 u12 hpos K' hK';have hx56:r56∉[b,m]:=λhm'=>by
    simp only[gP,kL,or_false] at hm';rcases hm' with rfl|rfl
    ·exact kb (u1.none hr56)
    ·exact km (u1.none hr56)
   have H2:=H1.ext u12;refine aKR H2 (S1.ext u12) hv M.small hl (by omega) λh5 pv F B5 O5 f5 u5=>?_;have X5:=X2.upd u5 hx56;have l5:cD PG h5 (loadAt cN (pT r56 1))=some (.slice none 0 0):=by rw[cN.load,X5.cell];rfl
   refine⟨l5,?_⟩;have n52:∀x,h5 x=none->h2 x=none:=λx hx=>u5.grow2 (B5.known b (by simp)) (B5.known m (by simp)) hx;refine(nL.nil (h0:=h2) (h:=h2)).push (H2.known b (by simp)) (H2.known m (by simp)) u5 (λx hx=>hx) n52 O5 f5 (by simp) λh6 v6 F6 L6 f6 u6=>?_;have n6:r56∉F6:=λhm=>X2.known (f6 _ hm);have m6:r1∉F6:=λhm=>Z1.known (u12.none (f6 _ hm));refine hK' h6 v6 (B5.upd u6 (λx hx hm=>H.known _ hx ((u1.trans u12).none (f6 _ hm)))) (((S1.ext u12).upd u5 hv).upd0 u6 (λhne a n' c e hm=>S.known hne e ((u1.trans u12).none (f6 _ hm)))) L6 (X5.upd u6 n6) (((Z1.ext u12).upd u5 hr1b).upd u6 m6) (((u1.trans u12).upd.trans u5).then u6 (λx hx=>.inr ((u1.trans u12).none (f6 x hx)))) (λx hx=>?_)
   ·by_cases hxF:x∈F6
    ·exact f6 x hxF
    ·cases e:h5 x with
     | none=>exact n52 x e
     | some o=>have:=u6 x o e hxF;rw[hx] at this;cases this
  by_cases c3:0<n
  ·have g3:((0:Int)<((n:Nat):Int))=True:=eq_true (by omega);have w1:IntKind.i64.wrap (((n:Nat):Int)-1)=((n-1:Nat):Int):=by rw[eV (by omega) (by omega)];omega
   rw[if_pos c3] at hpf;rcases Nat.lt_or_ge n l.length with c1|c1;have q:(((n:Nat):Int)<(l.length:Int))=True:=eq_true (by omega);obtain⟨p,hp⟩:∃p,l[n]? =some p:=⟨_,lQ c1⟩;obtain⟨x,o,e2,e3,-,-⟩:=S1.pair hp;have q2:decide (p.k=key)=false:=by simp[hno p hp]
   simp only[lv,q,e2,cM.f0,bR.load,e3,aCQ,q2,aKk,g3,w1,cG,reduceIte,cT,Nat.reduceAdd]
   rotate_left 1
   have q:(((n:Nat):Int)<(l.length:Int))=False:=eq_false (by omega);simp only[lv,q,aKk,g3,w1,cG,reduceIte,cT,Nat.reduceAdd]
   all_goals
    intro r56 hr56
    try rw[cW]
    refine cC.fill (vs:=[.bool true,.slice none 0 0]) hr56 rfl (by simp[fP]) λh2 X2 u2=>?_;have l2:cD PG h2 (loadAt cN (pT r56 1))=some (.slice none 0 0):=by rw[cN.load,X2.cell];rfl
    simp only[cC.f1,fE,l2,cG,reduceIte,cT,Nat.reduceAdd];refine go hr56 X2 u2 c3 _ λh3 v3 B3 S3 L3 X3 Y3 U3 n3=>?_;refine cN.put X3 (o:=1) (by show 1<2;decide) L3.isc λh4 X4 u4=>?_;have X4:Bx h4 r56 [.bool true,v3]:=X4;have n61:r1≠r56:=λe=>Z1.known (e▸hr56);refine tail hr56 X2.known u2 (B3.upd u4 (λx hx hm=>by simp only[fV] at hm;subst hm;exact H.known _ hx (u1.none hr56))) (S3.upd0 u4 (λhne a n' c e hm=>by simp only[fV] at hm;exact S.known hne e (hm▸u1.none hr56))) (L3.upd u4 (λx hx=>by simp only[fV] at hx;subst hx;exact X2.known)) X4 (Y3.upd u4 (by simp only[fV];exact n61)) (by simp) (U3.then u4 (λx hx=>by simp only[fV] at hx;subst hx;exact .inr (u1.none hr56))) (λx hx=>?_) hpf.symm;by_cases hx56:x=r56
    ·subst hx56;exact absurd hx X4.known
    ·cases e:h3 x with
     | none=>exact n3 x e
     | some o=>have:=u4 x o e (by simp[hx56]);rw[hx] at this;cases this
  ·have g3:((0:Int)<((n:Nat):Int))=False:=eq_false (by omega);rw[if_neg c3,yF] at hpf;rcases Nat.lt_or_ge n l.length with c1|c1;have q:(((n:Nat):Int)<(l.length:Int))=True:=eq_true (by omega);obtain⟨p,hp⟩:∃p,l[n]? =some p:=⟨_,lQ c1⟩;obtain⟨x,o,e2,e3,-,-⟩:=S1.pair hp;have q2:decide (p.k=key)=false:=by simp[hno p hp]
   simp only[lv,q,e2,cM.f0,bR.load,e3,aCQ,q2,aKk,g3,cG,reduceIte,cT,Nat.reduceAdd]
   rotate_left 1
   have q:(((n:Nat):Int)<(l.length:Int))=False:=eq_false (by omega);simp only[lv,q,aKk,g3,cG,reduceIte,cT,Nat.reduceAdd]
   all_goals
    intro r56 hr56
    try rw[cW]
    refine cC.fill (vs:=[.bool true,.slice none 0 0]) hr56 rfl (by simp[fP]) λh2 X2 u2=>?_;exact tail hr56 X2.known u2 (H1.ext u2) (S1.ext u2) nL.nil X2 (Z1.ext u2) (by simp) (u1.trans u2).upd (λx hx=>hx) hpf.symm
theorem aQH{h:PH}{s:Tx}(hs:s.length≤1000000){k:cE}(hk:∀h',cZ h h'->k (.string (tx (be s.length 2++s))) h'):aT PG zU #[.string (tx s)] h k:=by
 apply aB7.call;unfold aB7;have ls:dA PG (Builtin.len_ #[bR] bT #[.string (tx s)])=some (.int .i64 (s.length:Int)):=by rw[lP bR.und,iB]
 have w:IntKind.u64.wrap (s.length:Int)=(s.length:Int):=gL (by omega) (by omega);simp only[ls,aIi,w,cG,reduceIte,cT,Nat.reduceAdd];refine tH (n:=s.length) (c:=2) (by omega) (by decide) λh1 u1=>?_;have a:dA PG (binOp .add bR (.string (tx (be s.length 2))) (.string (tx s)))=some (.string (tx (be s.length 2++s))):=lJ (by rw[iC];omega);simp only[a,cG,reduceIte,cT,Nat.reduceAdd];exact hk h1 u1
theorem aRu{ab:Bool}{l:List Lf}(h:¬(l.length≤2∧∀f∈l,f.Ok)):kZ ⟨ab,l⟩=([],1):=by
 unfold kZ;rw[if_neg];rintro⟨h1,h2⟩;exact h ⟨h1,λf hf=>Lf.ok_iff.1 (aDC.1 h2 f hf)⟩
theorem aQY{ab:Bool}{l:List Lf}(h1:l.length≤2)(h2:∀f∈l,f.Ok):kZ ⟨ab,l⟩=(aAy ⟨ab,l⟩,0):=by
 unfold kZ;rw[if_pos ⟨h1,aDC.2 λf hf=>Lf.ok_iff.2 (h2 f hf)⟩]
theorem aXd{h:PH}{r1 r27:Nat}{y:LV}(X:Bx h r27 (y.1.cells y.2))(P:fR h 1 y.2 (y.1.path.map iY))(hm:y.1.path.length≤16){out:Tx}(ho:out.length≤100000){i:Nat}(hi:i≤100){R:cE}{n17:gI}
  (hbad:¬(∀d∈y.1.path,d.length=32)->R (.tuple #[.string (tx []),.int .i64 1]) h)
  (hk:(∀d∈y.1.path,d.length=32)->n17 [pT r1 0,.string (tx (out++y.1.path.flatten)),.int .i64 ((i+1:Nat):Int)] h):
  iJ [1,4,5,6,7] (λn163 ρ h=>aAz R n17 n163 (ρ 1) (ρ 4) (ρ 5) (ρ 6) (ρ 7) h) [pT r1 0,.string (tx out),.int .i64 (i:Int),pT r27 0,.int .i64 0] h:=by
 refine⟨λvs h'=>∃j:Nat,j≤y.1.path.length∧vs=[pT r1 0,.string (tx (out++(y.1.path.take j).flatten)),.int .i64 (i:Int),pT r27 0,.int .i64 (j:Int)]∧h'=h∧∀d∈y.1.path.take j,d.length=32,gU y.1.path.length 4,⟨0,by omega,by simp,rfl,λd hd=>by simp at hd⟩,?_⟩;rintro ρ h' ⟨j,hj,hvs,rfl,hal⟩;simp only[iH,iT,kV,and_true] at hvs;obtain⟨v0,v1,v2,v3,v4⟩:=hvs;unfold aAz;rw[v0,v1,v2,v3,v4];have lp:cD PG h' (loadAt cP (pT r27 4))=some y.2:=by rw[cP.load,X.cell];rfl
 have ll:=aNj P;by_cases hlt:j<y.1.path.length
 ·have g:((j:Int)<(y.1.path.length:Int))=True:=eq_true (by omega);have gj:=pR (i:=j) (by omega);obtain⟨x,hx⟩:∃x,y.1.path[j]? =some x:=⟨_,lQ hlt⟩;obtain⟨pa,ha1,ha2⟩:=P.st hx;have lx:dA PG (Builtin.len_ #[bR] bT #[.string (tx x)])=some (.int .i64 (x.length:Int)):=by rw[lP bR.und,iB]
  by_cases hx32:x.length=32
  ·have q:((x.length:Int) !=32)=false:=by simp[hx32]
   have hfl:=aND hal;rw[uF] at hfl;have s1:dA PG (binOp .add bR (.string (tx (out++(y.1.path.take j).flatten))) (.string (tx x)))=some (.string (tx ((out++(y.1.path.take j).flatten)++x))):=lJ (by rw[jP,hfl];omega);simp only[cB.f3,fE,lp,ll,g,ha1,ha2,lx,kE,q,s1,gj,cG,reduceIte,cT,Nat.reduceAdd];refine⟨⟨j+1,by omega,?_,by trivial,λz hz=>?_⟩,by simp[gU,v4];omega⟩
   ·rw[zLT,hx,zLF];simp
   ·rw[zLT,hx] at hz;rcases jG.1 hz with hz|hz
    ·exact hal z hz
    ·simp only[Option.toList_some,fV] at hz;rw[hz];exact hx32
  ·have q:((x.length:Int) !=32)=true:=by simp;omega
   simp only[cB.f3,fE,lp,ll,g,ha1,ha2,lx,kE,q,aBX,cG,reduceIte,cT,Nat.reduceAdd];exact hbad λhall=>hx32 (hall x (rC hx))
 ·have g:((j:Int)<(y.1.path.length:Int))=False:=eq_false (by omega);have gi:=pR (i:=i) (by omega);rw[mW (by omega)] at hal ⊢;simp only[cB.f3,fE,lp,ll,g,gi,cG,reduceIte,cT,Nat.reduceAdd];exact hk hal
theorem aOx{h:PH}{ab:Bool}{v:Value}{l:List LV}(S:fR h 5 v (l.map qE))(HS:LfS h l)(hl:l.length≤1000000){k:cE}
  (hk:∀h',cZ h h'->k (.tuple #[.string (tx (kZ ⟨ab,l.map (·.1)⟩).1),.int .i64 (kZ ⟨ab,l.map (·.1)⟩).2]) h'):aT PG sV #[Pf.val ab v] h k:=by
 apply sS.call;unfold sS;intro r1 hr1
 try rw[cW]
 have u1:cZ h (h.set r1 (.cells (Value.cells (Pf.val ab v)) cC)):=cU.new hr1;have X1:Bx (h.set r1 (.cells (Value.cells (Pf.val ab v)) cC)) r1 [.bool ab,v]:=Bx.new;generalize h.set r1 (.cells (Value.cells (Pf.val ab v)) cC)=h1 at *;have S1:=S.ext u1;have lv:∀{h'':PH},cZ h1 h''->cD PG h'' (loadAt cN (pT r1 1))=some v:=λu=>by rw[cN.load,(X1.ext u).cell];rfl
 have la:cD PG h1 (loadAt fU (pT r1 0))=some (.bool ab):=by rw[fU.load,X1.cell];rfl
 have ll:=aI0 S;by_cases c2:2<l.length
 ·have g2:((2:Int)<(l.length:Int))=True:=eq_true (by omega);simp only[cC.f1,fE,lv cU.refl,ll,g2,aBX,cG,reduceIte,cT,Nat.reduceAdd];rw[aRu (λh=>by have:=h.1;rw[iS] at this;omega)] at hk;exact hk h1 u1
 have g2:((2:Int)<(l.length:Int))=False:=eq_false (by omega);have w2:IntKind.u64.wrap (l.length:Int)=(l.length:Int):=gL (by omega) (by omega);have rest:yM k (pT r1 0) (.string (tx (be (if ab then 2 else 1) 1))) h1:=by
  unfold yM;simp only[cC.f1,fE,lv cU.refl,ll,aIi,w2,cG,reduceIte,cT,Nat.reduceAdd];refine tH (n:=l.length) (c:=1) (by omega) (by decide) λh2 u2=>?_;have s1:dA PG (binOp .add bR (.string (tx (be (if ab then 2 else 1) 1))) (.string (tx (be l.length 1))))=some (.string (tx (be (if ab then 2 else 1) 1++be l.length 1))):=lJ (by rw[iC,iC];decide);simp only[s1,cG,reduceIte,cT,Nat.reduceAdd];refine⟨λvs h'=>∃i:Nat,i≤l.length∧vs=[pT r1 0,.string (tx ((be (if ab then 2 else 1) 1++be l.length 1)++lF ((l.take i).map (·.1)))),.int .i64 (i:Int)]∧cZ h1 h'∧∀y∈l.take i,y.1.Ok,gU l.length 2,⟨0,by omega,by simp[lF],u2,λy hy=>by simp at hy⟩,?_⟩;rintro ρ h' ⟨i,hi,hvs,u,hal⟩;simp only[iH,iT,kV,and_true] at hvs;obtain⟨v0,v1,v2⟩:=hvs;unfold aFW;rw[v0,v1,v2];by_cases hlt:i<l.length
  ·have g:((i:Int)<(l.length:Int))=True:=eq_true (by omega);obtain⟨y,hy⟩:∃y,l[i]? =some y:=⟨_,lQ hlt⟩;have hym:=rC hy;obtain⟨pa,e1,e2⟩:=((S1.ext u)).lf hy;have P:=((HS y hym).ext u1).ext u;have bad:¬y.1.Ok->∀h2,cZ h h2->k (.tuple #[.string (tx []),.int .i64 1]) h2:=λhno h2 u2=>by
    rw[aRu (λh=>hno (h.2 y.1 (zL6 hym)))] at hk;exact hk h2 u2
   simp only[cC.f1,fE,lv u,ll,g,e1,e2,cG,reduceIte,cT,Nat.reduceAdd];intro r27 hr27
   try rw[cW]
   refine cB.fill (vs:=y.1.cells y.2) hr27 rfl (Lf.isC _ (HS y hym).isc) λh3 X3 u3=>?_;have e3:=(u1.trans u).trans u3;have P3:=P.ext u3;have lp:=aNj P3;have c0:∀{h'':PH},cZ h3 h''->dD h'' ⟨r27,0,none⟩=some (.int .i64 y.1.i):=λu=>(X3.ext u).cell 0;have c1:∀{h'':PH},cZ h3 h''->dD h'' ⟨r27,1,none⟩=some (.int .i64 y.1.n):=λu=>(X3.ext u).cell 1;have c2':∀{h'':PH},cZ h3 h''->dD h'' ⟨r27,2,none⟩=some (.string (tx y.1.p.k)):=λu=>(X3.ext u).cell 2;have c3:∀{h'':PH},cZ h3 h''->dD h'' ⟨r27,3,none⟩=some (.string (tx y.1.p.v)):=λu=>(X3.ext u).cell 3;have c4:∀{h'':PH},cZ h3 h''->dD h'' ⟨r27,4,none⟩=some y.2:=λu=>(X3.ext u).cell 4;have lk:dA PG (Builtin.len_ #[bR] bT #[.string (tx y.1.p.k)])=some (.int .i64 (y.1.p.k.length:Int)):=by rw[lP bR.und,iB]
   have lw:dA PG (Builtin.len_ #[bR] bT #[.string (tx y.1.p.v)])=some (.int .i64 (y.1.p.v.length:Int)):=by rw[lP bR.und,iB]
   by_cases d1:y.1.i<0
   ·have g1:=eq_true d1;simp only[cB.f0,bT.load,c0 cU.refl,g1,aBX,cG,reduceIte,cT,Nat.reduceAdd];exact bad (λO=>by have:=O.i0;omega) h3 e3
   have g1:=eq_false d1;by_cases d2:4096<y.1.i
   ·have g2:=eq_true d2;simp only[cB.f0,bT.load,c0 cU.refl,g1,g2,aBX,cG,reduceIte,cT,Nat.reduceAdd];exact bad (λO=>by have:=O.i1;omega) h3 e3
   have g2:=eq_false d2;by_cases d3:y.1.n<0
   ·have g3:=eq_true d3;simp only[cB.f0,cB.f1,fE,bT.load,c0 cU.refl,c1 cU.refl,g1,g2,g3,aBX,cG,reduceIte,cT,Nat.reduceAdd];exact bad (λO=>by have:=O.n0;omega) h3 e3
   have g3:=eq_false d3;by_cases d4:4096<y.1.n
   ·have g4:=eq_true d4;simp only[cB.f0,cB.f1,fE,bT.load,c0 cU.refl,c1 cU.refl,g1,g2,g3,g4,aBX,cG,reduceIte,cT,Nat.reduceAdd];exact bad (λO=>by have:=O.n1;omega) h3 e3
   have g4:=eq_false d4;by_cases d5:16<y.1.p.k.length
   ·have g5:((16:Int)<(y.1.p.k.length:Int))=True:=eq_true (by omega);simp only[cB.f0,cB.f1,cB.f2,cM.f0,fE,bT.load,bR.load,c0 cU.refl,c1 cU.refl,c2' cU.refl,lk,g1,g2,g3,g4,g5,aBX,cG,reduceIte,cT,Nat.reduceAdd];exact bad (λO=>by have:=O.k;omega) h3 e3
   have g5:((16:Int)<(y.1.p.k.length:Int))=False:=eq_false (by omega);by_cases d6:64<y.1.p.v.length
   ·have g6:((64:Int)<(y.1.p.v.length:Int))=True:=eq_true (by omega);simp only[cB.f0,cB.f1,cB.f2,cM.f0,cM.f1,fE,Nat.reduceAdd,bT.load,bR.load,c0 cU.refl,c1 cU.refl,c2' cU.refl,c3 cU.refl,lk,lw,g1,g2,g3,g4,g5,g6,aBX,cG,reduceIte,cT,Nat.reduceAdd];exact bad (λO=>by have:=O.v;omega) h3 e3
   have g6:((64:Int)<(y.1.p.v.length:Int))=False:=eq_false (by omega);by_cases d7:16<y.1.path.length
   ·have g7:((16:Int)<(y.1.path.length:Int))=True:=eq_true (by omega);simp only[cB.f0,cB.f1,cB.f2,cB.f3,cM.f0,cM.f1,fE,Nat.reduceAdd,bT.load,bR.load,cP.load,c0 cU.refl,c1 cU.refl,c2' cU.refl,c3 cU.refl,c4 cU.refl,lk,lw,lp,g1,g2,g3,g4,g5,g6,g7,aBX,cG,reduceIte,cT,Nat.reduceAdd];exact bad (λO=>by have:=O.m;omega) h3 e3
   have g7:((16:Int)<(y.1.path.length:Int))=False:=eq_false (by omega);obtain⟨a,ha⟩:∃a:Nat,y.1.i=(a:Int):=⟨y.1.i.toNat,by omega⟩;obtain⟨c,hc⟩:∃c:Nat,y.1.n=(c:Int):=⟨y.1.n.toNat,by omega⟩;have wa:IntKind.u64.wrap y.1.i=(a:Int):=by rw[ha];exact gL (by omega) (by omega)
   have wc':IntKind.u64.wrap y.1.n=(c:Int):=by rw[hc];exact gL (by omega) (by omega)
   have wm:IntKind.u64.wrap (y.1.path.length:Int)=(y.1.path.length:Int):=gL (by omega) (by omega);obtain⟨out,hout⟩:∃out:Tx,out=(be (if ab then 2 else 1) 1++be l.length 1)++lF ((l.take i).map (·.1)):=⟨_,rfl⟩;have hol:out.length≤10000:=by
    have:=aLE (l:=(l.take i).map (·.1)) (λf hf=>by
     obtain⟨z,hz,rfl⟩:=lO.1 hf;exact hal z hz)
    rw[iS,uF] at this;rw[hout,jP,jP,iC,iC];omega
   rw[←hout];simp only[cB.f0,cB.f1,cB.f2,cB.f3,cM.f0,cM.f1,fE,Nat.reduceAdd,bT.load,bR.load,cP.load,c0 cU.refl,c1 cU.refl,c2' cU.refl,c3 cU.refl,c4 cU.refl,lk,lw,lp,g1,g2,g3,g4,g5,g6,g7,aIi,wa,wc',wm,cG,reduceIte,cT,Nat.reduceAdd];refine tH (n:=a) (c:=8) (by omega) (by decide) λh4 u4=>?_;have s4:dA PG (binOp .add bR (.string (tx out)) (.string (tx (be a 8))))=some (.string (tx (out++be a 8))):=lJ (by rw[iC];omega);simp only[c1 u4,c2' u4,c3 u4,c4 u4,s4,true_and,cG,reduceIte,cT,Nat.reduceAdd];refine tH (n:=c) (c:=8) (by omega) (by decide) λh5 u5=>?_;have u45:=u4.trans u5;have s5:dA PG (binOp .add bR (.string (tx (out++be a 8))) (.string (tx (be c 8))))=some (.string (tx ((out++be a 8)++be c 8))):=lJ (by simp only[jP,iC];omega);simp only[c2' u45,c3 u45,c4 u45,s5,true_and,cG,reduceIte,cT,Nat.reduceAdd];refine aQH (by omega) λh6 u6=>?_;have u46:=u45.trans u6;have s6:dA PG (binOp .add bR (.string (tx ((out++be a 8)++be c 8))) (.string (tx (be y.1.p.k.length 2++y.1.p.k))))=some (.string (tx (((out++be a 8)++be c 8)++(be y.1.p.k.length 2++y.1.p.k)))):=lJ (by simp only[jP,iC];omega);simp only[c3 u46,c4 u46,s6,true_and,cG,reduceIte,cT,Nat.reduceAdd];refine aQH (by omega) λh7 u7=>?_;have u47:=u46.trans u7;have s7:dA PG (binOp .add bR (.string (tx (((out++be a 8)++be c 8)++(be y.1.p.k.length 2++y.1.p.k)))) (.string (tx (be y.1.p.v.length 2++y.1.p.v))))=some (.string (tx ((((out++be a 8)++be c 8)++(be y.1.p.k.length 2++y.1.p.k))++(be y.1.p.v.length 2++y.1.p.v)))):=lJ (by simp only[jP,iC];omega);simp only[c4 u47,s7,true_and,cG,reduceIte,cT,Nat.reduceAdd];refine tH (n:=y.1.path.length) (c:=1) (by omega) (by decide) λh8 u8=>?_;have u48:=u47.trans u8;have s8:dA PG (binOp .add bR (.string (tx ((((out++be a 8)++be c 8)++(be y.1.p.k.length 2++y.1.p.k))++(be y.1.p.v.length 2++y.1.p.v)))) (.string (tx (be y.1.path.length 1))))=some (.string (tx (((((out++be a 8)++be c 8)++(be y.1.p.k.length 2++y.1.p.k))++(be y.1.p.v.length 2++y.1.p.v))++be y.1.path.length 1))):=lJ (by simp only[jP,iC];omega);simp only[s8,cG,reduceIte,cT,Nat.reduceAdd];refine aXd (X3.ext u48) (P3.ext u48) (by omega) (by simp only[jP,iC];omega) (by omega) (λhno=>?_) (λhall=>?_)
   ·exact bad (λO=>hno O.d) h8 (e3.trans u48)
   ·have O:y.1.Ok:=⟨by omega,by omega,by omega,by omega,by omega,by omega,by omega,hall⟩;have et:l.take (i+1)=l.take i++[y]:=by rw[zLT,hy];rfl
    refine⟨⟨i+1,by omega,?_,(u.trans u3).trans u48,λz hz=>?_⟩,by simp[gU,v2];omega⟩
    ·have e1:lF ((l.take (i+1)).map (·.1))=lF ((l.take i).map (·.1))++aFx y.1:=by rw[et,qI,List.map_singleton,aNx]
     have e2:(((((out++be a 8)++be c 8)++(be y.1.p.k.length 2++y.1.p.k))++(be y.1.p.v.length 2++y.1.p.v))++be y.1.path.length 1)++y.1.path.flatten=out++aFx y.1:=by
      unfold aFx;rw[ha,hc];simp only[pQ,mT]
     rw[e1,e2,hout,mT]
    ·rw[et] at hz;rcases jG.1 hz with hz|hz
     ·exact hal z hz
     ·simp only[fV] at hz;rw[hz];exact O
  ·have g:((i:Int)<(l.length:Int))=False:=eq_false (by omega);rw[mW (by omega)] at hal ⊢;simp only[cC.f1,fE,lv u,ll,g,cG,reduceIte,cT,Nat.reduceAdd];rw[aQY (by rw[iS];omega) (λf hf=>by
    obtain⟨z,hz,rfl⟩:=lO.1 hf;exact hal z hz)] at hk
   have e:aAy ⟨ab,l.map (·.1)⟩=(be (if ab then 2 else 1) 1++be l.length 1)++lF (l.map (·.1)):=by
    unfold aAy;rw[iS,mT]
   rw[e] at hk;exact hk h' (u1.trans u)
 have tx2':({data:=#[2]}:ByteArray)=tx [2]:=rfl;have tx1':({data:=#[1]}:ByteArray)=tx [1]:=rfl;cases ab with
 | true=>
  simp only[cC.f0,cC.f1,fE,lv cU.refl,ll,g2,la,tx2',cG,reduceIte,cT,Nat.reduceAdd];exact rest
 | false=>
  simp only[cC.f0,cC.f1,fE,lv cU.refl,ll,g2,la,tx1',cG,reduceIte,cT,Nat.reduceAdd];exact rest
end
section
open Go
theorem aLY{st:kN}{n:Int}{x:Tx}{r:List UInt8}(h:jR st n=(x,(0,r))):st=(0,x++r)∧(x.length:Int)=n:=by
 obtain⟨e,s⟩:=st;unfold jR at h;split at h
 ·rename_i c;obtain⟨c1,c2,c3⟩:=c;simp only[Prod.mk.injEq,true_and] at h c1 c2 c3;obtain⟨h1,h2⟩:=h;subst h1 h2 c1;refine⟨by rw[aOD],?_⟩;rw[uF];omega
 ·simp only[Prod.mk.injEq] at h;obtain⟨-,h2,-⟩:=h;exfalso;split at h2
  ·cases h2
  ·rename_i c;exact c h2
theorem aHi{st:kN}{c x:Nat}{r:List UInt8}(h:gT st c=(x,(0,r))):st=(0,be x c++r)∧x<256^c:=by
 unfold gT at h;simp only[Prod.mk.injEq] at h;obtain⟨h1,h2⟩:=h;obtain⟨g1,g2⟩:=aLY (x:=(jR st (c:Int)).1) (r:=r) (by rw[←h2]);have hl:(jR st (c:Int)).1.length=c:=by omega
 have hb:=aYq (jR st (c:Int)).1;rw[hl,h1] at hb;refine⟨by rw[hb];exact g1,?_⟩;have:=aNP (jR st (c:Int)).1;rw[hl,h1] at this;exact this
theorem aNQ{st:kN}{x:Tx}{r:List UInt8}(h:mH st=(x,(0,r))):st=(0,(be x.length 2++x)++r)∧x.length≤65535:=by
 unfold mH at h;obtain⟨g1,g2⟩:=aLY h;obtain⟨k1,k2⟩:=aHi (st:=st) (c:=2) (x:=(gT st 2).1) (r:=x++r) (by rw[←g1]);have:(gT st 2).1=x.length:=by omega
 rw[this] at k1 k2;exact⟨by rw[k1,mT],by omega⟩
theorem aMX{st:kN}{x:Nat}{r:List UInt8}(h:kM st=(x,(0,r))):st=(0,be x 8++r)∧x≤4096:=by
 unfold kM at h;split at h
 ·exfalso;simp only[Prod.mk.injEq] at h;obtain⟨-,h2⟩:=h;unfold aKg at h2;simp only[Prod.mk.injEq] at h2;obtain⟨h3,-⟩:=h2;split at h3
  ·cases h3
  ·rename_i c;exact c h3
 ·rename_i c;have e:(gT st 8).1=x:=by rw[h]
  exact⟨(aHi h).1,by omega⟩
theorem aNp:∀(n:Nat) (st:kN) (acc l:List Tx) (r:List UInt8),yL n st acc=(l,(0,r))->∃ds,l=acc++ds∧st=(0,ds.flatten++r)∧ds.length=n∧∀d∈ds,d.length=32
 | 0,st,acc,l,r,h=>by
  simp only[yL,Prod.mk.injEq] at h;exact⟨[],by rw[h.1];simp,by rw[h.2];rfl,rfl,λd hd=>by cases hd⟩
 | n+1,st,acc,l,r,h=>by
  rw[yL] at h;split at h
  ·obtain⟨ds,h1,h2,h3,h4⟩:=aNp n _ _ _ _ h;obtain⟨g1,g2⟩:=aLY (st:=st) (n:=32) (x:=(jR st 32).1) (r:=ds.flatten++r) (by rw[←h2]);refine⟨(jR st 32).1::ds,by rw[h1];simp,by rw[aJk,mT];exact g1,by simp[h3],λd hd=>?_⟩;rcases gP.1 hd with rfl|hd
   ·omega
   ·exact h4 d hd
  ·rename_i c;exfalso;simp only[Prod.mk.injEq] at h;rw[h.2] at c;exact c rfl
theorem aSW{st:kN}{f:Lf}{r:List UInt8}(h:qS st=(f,(0,r))):st=(0,aFx f++r)∧f.Ok:=by
 unfold qS at h;split at h
 ·rename_i hok;simp only[Prod.mk.injEq] at h;obtain⟨h1,h2⟩:=h;rw[h1] at hok;have O:=Lf.ok_iff.1 hok;refine⟨?_,O⟩;unfold aD1 at h1 h2;simp only at h1 h2;generalize hm:yL (gT (mH (mH (kM (kM st).2).2).2).2 1).1 (gT (mH (mH (kM (kM st).2).2).2).2 1).2 []=M at h1 h2;obtain⟨ml,ms⟩:=M;simp only at h1 h2;subst h2;obtain⟨ds,p1,p2,p3,p4⟩:=aNp _ _ _ _ _ hm;obtain⟨q1,q2⟩:=aHi (Prod.ext rfl p2);obtain⟨k1,k2⟩:=aNQ (Prod.ext rfl q1);obtain⟨m1,m2⟩:=aNQ (Prod.ext rfl k1);obtain⟨n1,n2⟩:=aMX (Prod.ext rfl m1);obtain⟨o1,o2⟩:=aMX (Prod.ext rfl n1);rw[yF] at p1;rw[p1] at h1;rw[o1];subst h1;unfold aFx;simp only[pQ,mT,p3]
 ·exfalso;simp only[Prod.mk.injEq] at h;obtain⟨-,h2⟩:=h;unfold aKg at h2;simp only[Prod.mk.injEq] at h2;obtain⟨h3,-⟩:=h2;split at h3
  ·cases h3
  ·rename_i c;exact c h3
theorem aL6:∀(n:Nat) (st:kN) (acc l:List Lf) (r:List UInt8),oX n st acc=(l,(0,r))->∃fs,l=acc++fs∧st=(0,lF fs++r)∧fs.length=n∧∀f∈fs,f.Ok
 | 0,st,acc,l,r,h=>by
  simp only[oX,Prod.mk.injEq] at h;exact⟨[],by rw[h.1];simp,by rw[h.2];rfl,rfl,λd hd=>by cases hd⟩
 | n+1,st,acc,l,r,h=>by
  rw[oX] at h;obtain⟨fs,h1,h2,h3,h4⟩:=aL6 n _ _ _ _ h;obtain⟨g1,g2⟩:=aSW (Prod.ext rfl h2);refine⟨(qS st).1::fs,by rw[h1];simp,by rw[lF,mT];exact g1,by simp[h3],λf hf=>?_⟩;rcases gP.1 hf with rfl|hf
  ·exact g2
  ·exact h4 f hf
theorem aSr{s:Tx}(h:(iA s).2=0):s=aAy (iA s).1∧(iA s).1.lv.length≤2∧∀f∈(iA s).1.lv,f.Ok:=by
 unfold iA at h ⊢;split at h
 ·cases h
 ·rename_i c;rw[if_neg c];split at h
  ·cases h
  ·rename_i d;rw[if_neg d];simp only[ne_eq,Decidable.not_not] at d;generalize hX:oX (gT (gT (0,s) 1).2 1).1 (gT (gT (0,s) 1).2 1).2 []=X at *;obtain⟨l,e,r⟩:=X;unfold aLH at d;simp only at d;have he:e=0∧r=[]:=by
    split at d
    ·cases d
    ·rename_i c2;exact⟨d,by
      cases r with
      | nil=>rfl
      | cons a b=>exact absurd ⟨d,by simp⟩ c2⟩
   obtain⟨rfl,rfl⟩:=he;obtain⟨fs,p1,p2,p3,p4⟩:=aL6 _ _ _ _ _ hX;obtain⟨q1,q2⟩:=aHi (Prod.ext rfl p2);obtain⟨k1,k2⟩:=aHi (Prod.ext rfl q1);rw[yF] at p1;subst p1;rw[zLP] at k1;simp only[Prod.mk.injEq,true_and] at k1;refine⟨?_,by simp only;omega,p4⟩;unfold aAy;simp only;rw[p3];have hk:(if decide ((gT (0,s) 1).1=2)=true then 2 else 1)=(gT (0,s) 1).1:=by
    by_cases h2:(gT (0,s) 1).1=2
    ·simp[h2]
    ·simp[h2];omega
   rw[hk];exact k1
def aCy:Nat->kN->List Tx->List Tx×kN
 | 0,st,acc=>(acc,st)
 | n+1,st,acc=>aCy n (jR st 32).2 (acc++[(jR st 32).1])
def dLf(st:kN):Lf×kN:=
 let a:=gT st 8;let b:=gT a.2 8;let k:=mH b.2;let v:=mH k.2;let c:=gT v.2 1;let m:=aCy (min c.1 17) c.2 []
 (⟨((a.1%1000000:Nat):Int),((b.1%1000000:Nat):Int),⟨k.1,v.1⟩,m.1⟩,m.2)
def aA7:Nat->kN->List Lf->List Lf×kN
 | 0,st,acc=>(acc,st)
 | n+1,st,acc=>aA7 n (dLf st).2 (acc++[(dLf st).1])
def aE1(s:Tx):Pf:=⟨decide ((gT (0,s) 1).1=2),(aA7 (min (gT (gT (0,s) 1).2 1).1 3) (gT (gT (0,s) 1).2 1).2 []).1⟩
theorem aOr:∀(path acc:List Tx) (r:Tx),(∀d∈path,d.length=32)->aCy path.length (0,path.flatten++r) acc=(acc++path,(0,r))
 | [],acc,r,_=>by simp[aCy]
 | d::path,acc,r,h=>by
  have hd:=h d (by simp);have e:jR (0,d++(path.flatten++r)) 32=(d,(0,path.flatten++r)):=by
   have:=(aIc d).fwd (path.flatten++r);rw[hd] at this;exact this
  rw[rN,aJk,mT,aCy,e];simp only;rw[aOr path (acc++[d]) r (λx hx=>h x (by simp[hx])),mT];rfl
theorem aWd{f:Lf}(h:f.Ok)(r:Tx):dLf (0,aFx f++r)=(f,(0,r)):=by
 obtain⟨i,n,p,path⟩:=f;obtain⟨i0,i1,n0,n1,k,v,m,d⟩:=h;simp only at i0 i1 n0 n1 k v m d;obtain⟨i,rfl⟩:=zLn i0;obtain⟨n,rfl⟩:=zLn n0;unfold dLf aFx;simp only[pQ,mT];rw[(xC (n:=i) (c:=8) (by omega)).fwd];simp only;rw[(xC (n:=n) (c:=8) (by omega)).fwd];simp only;rw[show be p.k.length 2++(p.k++(be p.v.length 2++(p.v++(be path.length 1++(path.flatten++r)))))=(be p.k.length 2++p.k)++(be p.v.length 2++(p.v++(be path.length 1++(path.flatten++r)))) by rw[mT],
  (aHZ (l:=p.k) (by omega)).fwd]
 simp only;rw[show be p.v.length 2++(p.v++(be path.length 1++(path.flatten++r)))=(be p.v.length 2++p.v)++(be path.length 1++(path.flatten++r)) by rw[mT],
  (aHZ (l:=p.v) (by omega)).fwd]
 simp only;rw[(xC (n:=path.length) (c:=1) (by omega)).fwd];simp only;rw[aJn (by omega),aOr path [] r d];simp only[yF];rw[aCk (by omega),aCk (by omega)]
theorem aMl:∀(l acc:List Lf) (r:Tx),(∀f∈l,f.Ok)->aA7 l.length (0,lF l++r) acc=(acc++l,(0,r))
 | [],acc,r,_=>by simp[aA7,lF]
 | f::l,acc,r,h=>by
  rw[rN,lF,mT,aA7,aWd (h f (by simp))];simp only;rw[aMl l (acc++[f]) r (λx hx=>h x (by simp[hx])),mT];rfl
theorem aVb{p:Pf}(h2:p.lv.length≤2)(h:∀f∈p.lv,f.Ok):aE1 (aAy p)=p:=by
 have e1:gT (0,aAy p) 1=((if p.ab then 2 else 1),(0,be p.lv.length 1++lF p.lv)):=by
  unfold aAy;exact(xC (n:=if p.ab then 2 else 1) (c:=1) (by split<;>decide)).fwd _
 have e2:gT (0,be p.lv.length 1++lF p.lv) 1=(p.lv.length,(0,lF p.lv)):=(xC (n:=p.lv.length) (c:=1) (by omega)).fwd _;have e3:aA7 p.lv.length (0,lF p.lv) []=(p.lv,(0,[])):=by
  have:=aMl p.lv [] [] h;rw[zLP,yF] at this;exact this
 unfold aE1;rw[e1];simp only;rw[e2];simp only;rw[aJn (by omega),e3];obtain⟨ab,lv⟩:=p;cases ab<;>rfl
theorem aTK(s:Tx):(if kZ (aE1 s)=(s,0) then(aE1 s,(0:Int)) else(Pf.zero,5))=if (iA s).2=0 then iA s else(Pf.zero,5):=by
 by_cases c:(iA s).2=0
 ·obtain⟨h1,h2,h3⟩:=aSr c;have e:aE1 s=(iA s).1:=by
   conv=>lhs;rw[h1]
   exact aVb h2 h3
  rw[if_pos c,e,aQY h2 h3,if_pos (by rw[←h1])];exact Prod.ext rfl c.symm
 ·rw[if_neg c,if_neg];intro h;apply c;unfold kZ at h;split at h
  ·rename_i hc;simp only[Prod.mk.injEq,and_true] at h;have:=aQz hc.1 (λf hf=>Lf.ok_iff.1 (aDC.1 hc.2 f hf));rw[h] at this;rw[this]
  ·simp at h
theorem aS3(s:Tx)(h:(iA s).2≠0):iA s=(Pf.zero,5):=by
 unfold iA at h ⊢;split
 ·rfl
 ·rename_i c;rw[if_neg c] at h;split
  ·rfl
  ·rename_i d;rw[if_neg d] at h;exact absurd rfl h
theorem aOR(n:Int):dA PG (build gJ #[(0,.int .i64 n)])=some (.agg #[.int .i64 n,.int .i64 0,.int .u64 0,.string ⟨#[]⟩]):=by kernel_rfl
theorem aN9{h:PH}{a:Nat}{S:List UInt8}{e:Int}{s:List UInt8}(hR:wO h a S e s)(hS:S.length≤1000000000000){kind:Int}{out:Nat×List UInt8×(Int×List UInt8)}
  (ho:(kind=0∧out=((gT (e,s) 1).1,[],(gT (e,s) 1).2))∨(kind=1∧out=((gT (e,s) 8).1,[],(gT (e,s) 8).2))∨(kind=2∧out=(0,(mH (e,s)).1,(mH (e,s)).2))) {k:cE}
  (hk:∀h',wO h' a S out.2.2.1 out.2.2.2->cU [a] h h'->k (.tuple #[.int .u64 out.1,.string (tx out.2.1)]) h'):
  aT PG lY #[pT a 0,.agg #[.int .i64 kind,.int .i64 0,.int .u64 0,.string ⟨#[]⟩]] h k:=by
 apply oW.call;unfold oW;intro r hr;rw[cW];have u1:cZ h (h.set r (.cells (Value.agg #[.int .i64 kind,.int .i64 0,.int .u64 0,.string ⟨#[]⟩]).cells gJ)):=cU.new hr;have c0:dD (h.set r (.cells (Value.agg #[.int .i64 kind,.int .i64 0,.int .u64 0,.string ⟨#[]⟩]).cells gJ)) ⟨r,0,none⟩=some (.int .i64 kind):=by simp[dD,PH.set,Value.cells]
 generalize h.set r (.cells (Value.agg #[.int .i64 kind,.int .i64 0,.int .u64 0,.string ⟨#[]⟩]).cells gJ)=h1 at *;have hR1:=hR.ext u1;have small:∀c:Nat,c≤8->(jR (e,s) (c:Int)).1.length≤8:=λc hc=>zLD (aJE _ c) hc;rcases ho with⟨rfl,rfl⟩|⟨rfl,rfl⟩|⟨rfl,rfl⟩
 ·have q:((0:Int)==0)=true:=rfl;simp only[gJ.f0,bT.load,c0,q,cG,reduceIte];refine aJy hR1 hS 1 λh2 hR2 u2=>?_;simp only[cG,reduceIte];refine aMy (small 1 (by omega)) ?_;exact hk _ hR2 (u1.upd.trans u2)
 ·have q:((1:Int)==0)=false:=rfl;have q1:((1:Int)==1)=true:=rfl;simp only[gJ.f0,bT.load,c0,q,q1,cG,reduceIte];refine aJy hR1 hS 8 λh2 hR2 u2=>?_;simp only[cG,reduceIte];refine aMy (small 8 (by omega)) ?_;exact hk _ hR2 (u1.upd.trans u2)
 ·have q:((2:Int)==0)=false:=rfl;have q1:((2:Int)==1)=false:=rfl;have q2:((2:Int)==2)=true:=rfl;simp only[gJ.f0,bT.load,c0,q,q1,q2,cG,reduceIte];refine aJy hR1 hS 2 λh2 hR2 u2=>?_;by_cases hc:e=0∧0≤(2:Int)∧(2:Int)≤(s.length:Int)
  ·have hd:decide (e=0∧0≤(2:Int)∧(2:Int)≤(s.length:Int))=true:=by simpa using hc
   simp only[hd,cG,reduceIte];refine aMy (l:=(jR (e,s) 2).1) (small 2 (by omega)) ?_;have hlt:=aHD (e,s) 2;have e1:IntKind.i64.wrap ((val (jR (e,s) 2).1:Nat):Int)=((gT (e,s) 2).1:Int):=by
    show IntKind.i64.wrap (((gT (e,s) 2).1:Nat):Int)=_;rw[eV (by omega) (by omega)]
   simp only[aIj,e1,cG,reduceIte];refine aJy hR2 hS _ λh3 hR3 u3=>?_;simp only[cG,reduceIte];exact hk _ hR3 ((u1.upd.trans u2).trans u3)
  ·have hd:decide (e=0∧0≤(2:Int)∧(2:Int)≤(s.length:Int))=false:=by simpa using hc
   simp only[hd,cG,reduceIte];have hraw:jR (e,s) 2=([],(if e=0 then 6 else e,s)):=by unfold jR;rw[if_neg hc]
   have hne:(if e=0 then 6 else e)≠0:=by split<;>simp_all
   have ht:mH (e,s)=([],(if e=0 then 6 else e,s)):=by
    unfold mH gT;show jR (jR (e,s) 2).2 _=_;rw[hraw];show jR (if e=0 then 6 else e,s) _=_;generalize (if e=0 then(6:Int) else e)=e' at *;unfold jR;rw[if_neg (by rintro⟨h1,_⟩;exact hne h1),if_neg hne]
   have:=hk h2;rw[ht] at this;rw[hraw] at hR2;exact this hR2 (u1.upd.trans u2)
theorem aVi:dA PG (build gJ #[(0,.int .i64 3),(1,.int .i64 32)])=some (.agg #[.int .i64 3,.int .i64 32,.int .u64 0,.string ⟨#[]⟩]):=by kernel_rfl
theorem aY2(s:List UInt8):dA PG (build eR #[(0,.string (tx s))])=some (.agg #[.string (tx s),.int .i64 0,.int .i64 0]):=by kernel_rfl
theorem aVU{h:PH}{a:Nat}{S:List UInt8}{st:kN}(hR:wO h a S st.1 st.2)(hS:S.length≤1000000000000){k:cE}
  (hk:∀h',wO h' a S (jR st 32).2.1 (jR st 32).2.2->cU [a] h h'->k (.tuple #[.int .u64 0,.string (tx (jR st 32).1)]) h'):
  aT PG lY #[pT a 0,.agg #[.int .i64 3,.int .i64 32,.int .u64 0,.string ⟨#[]⟩]] h k:=by
 apply oW.call;unfold oW;intro r hr
 try rw[cW]
 have u1:cZ h (h.set r (.cells (Value.agg #[.int .i64 3,.int .i64 32,.int .u64 0,.string ⟨#[]⟩]).cells gJ)):=cU.new hr;have X:Bx (h.set r (.cells (Value.agg #[.int .i64 3,.int .i64 32,.int .u64 0,.string ⟨#[]⟩]).cells gJ)) r [.int .i64 3,.int .i64 32,.int .u64 0,.string ⟨#[]⟩]:=Bx.new;generalize h.set r (.cells (Value.agg #[.int .i64 3,.int .i64 32,.int .u64 0,.string ⟨#[]⟩]).cells gJ)=h1 at *;have c0:dD h1 ⟨r,0,none⟩=some (.int .i64 3):=X.cell 0;have c1:dD h1 ⟨r,1,none⟩=some (.int .i64 32):=X.cell 1;have q0:((3:Int)==0)=false:=rfl;have q1:((3:Int)==1)=false:=rfl;have q2:((3:Int)==2)=false:=rfl;have q3:((3:Int)==3)=true:=rfl;simp only[gJ.f0,gJ.f1,fE,bT.load,c0,c1,hQ,q0,q1,q2,q3,cG,reduceIte,cT,Nat.reduceAdd];refine aJy (hR.ext u1) hS 32 λh2 hR2 u2=>?_;simp only[cG,reduceIte,cT,Nat.reduceAdd];exact hk h2 hR2 (u1.upd.trans u2)
theorem aKK{h:PH}{a:Nat}{S:List UInt8}{st:kN}(hR:wO h a S st.1 st.2)(hS:S.length≤1000000000000){k:cE}
  (hk:∀h',wO h' a S (gT st 1).2.1 (gT st 1).2.2->cU [a] h h'->k (.int .i64 (((gT st 1).1:Nat):Int)) h'):aT PG rO #[pT a 0] h k:=by
 apply aAq.call;unfold aAq;simp only[aOR,cG,reduceIte,cT,Nat.reduceAdd];refine aN9 hR hS (kind:=0) (.inl ⟨rfl,rfl⟩) λh1 R1 u1=>?_;have hlt:=aHD st 1;have w:IntKind.i64.wrap (((gT st 1).1:Nat):Int)=(((gT st 1).1:Nat):Int):=eV (by omega) (by omega);simp only[aIj,w,cG,reduceIte,cT,Nat.reduceAdd];exact hk h1 R1 u1
theorem aNK{h:PH}{a:Nat}{S:List UInt8}{st:kN}(hR:wO h a S st.1 st.2)(hS:S.length≤1000000000000){k:cE}
  (hk:∀h',wO h' a S (gT st 8).2.1 (gT st 8).2.2->cU [a] h h'->k (.int .i64 (((gT st 8).1%1000000:Nat):Int)) h'):aT PG wU #[pT a 0] h k:=by
 apply aAu.call;unfold aAu;simp only[aOR,cG,reduceIte,cT,Nat.reduceAdd];refine aN9 hR hS (kind:=1) (.inr (.inl ⟨rfl,rfl⟩)) λh1 R1 u1=>?_;have rm:∀{t:TypeId} {n:Nat},dA PG (binOp .rem t (.int .u64 (n:Int)) (.int .u64 1000000))=some (.int .u64 ((n%1000000:Nat):Int)):=fun {t n}=>by
  rw[aHz (by decide)];rfl
 have w:IntKind.i64.wrap (((gT st 8).1%1000000:Nat):Int)=(((gT st 8).1%1000000:Nat):Int):=by
  have:=zLA (gT st 8).1 (show 0<1000000 by decide);exact eV (by omega) (by omega)
 simp only[rm,aIj,w,cG,reduceIte,cT,Nat.reduceAdd];exact hk h1 R1 u1
theorem aNr{h:PH}{a:Nat}{S:List UInt8}{st:kN}(hR:wO h a S st.1 st.2)(hS:S.length≤1000000000000){k:cE}
  (hk:∀h',wO h' a S (mH st).2.1 (mH st).2.2->cU [a] h h'->k (.string (tx (mH st).1)) h'):aT PG xH #[pT a 0] h k:=by
 apply aAk.call;unfold aAk;simp only[aOR,cG,reduceIte,cT,Nat.reduceAdd];refine aN9 hR hS (kind:=2) (.inr (.inr ⟨rfl,rfl⟩)) λh1 R1 u1=>?_;simp only[cG,reduceIte,cT,Nat.reduceAdd];exact hk h1 R1 u1
theorem aYQ(a b:Int):dA PG (build cB #[(0,.int .i64 a),(1,.int .i64 b)])=some (Lf.val ⟨a,b,⟨[],[]⟩,[]⟩ (.slice none 0 0)):=by kernel_rfl
theorem aSa:∀(n:Nat) (st:kN) (acc:List Tx),aCy (n+1) st acc=aCy n (jR st 32).2 (acc++[(jR st 32).1]):=λn st acc=>rfl
theorem aWv{hI h:PH}{r4 r32:Nat}{s:Tx}{st:kN}(hS:s.length≤1000000000000)(R:wO h r4 s st.1 st.2)(u:cU [r4] hI h)(n32:hI r32=none)(k4:hI r4≠none){a b:Int}{kk vv:Tx}(X:Bx h r32 (Lf.cells ⟨a,b,⟨kk,vv⟩,[]⟩ (.slice none 0 0))){c:Nat}(hc:c<256){t0 t2 t5 t6 t7:Value}{RR:cE}{n16:gI}
  (hk:∀h' pv G,wO h' r4 s (aCy (min c 17) st []).2.1 (aCy (min c 17) st []).2.2->cU [r4] hI h'->Bx h' r32 (Lf.cells ⟨a,b,⟨kk,vv⟩,[]⟩ pv)->dZ h' bR 1 pv ((aCy (min c 17) st []).1.map iY) G->eD hI G->(aCy (min c 17) st []).1.length≤17->
   (dY (dA PG (fieldAt cC t5 1)) λv78=>dY (cD PG h' (loadAt cN v78)) λv79=>dY (cD PG h' (loadAt cB (pT r32 0))) λv80=>
    dY (jK PG (buildSlice cN 1 #[(0,v80)])) λx82=>∀r81,h' r81=none->dY (dA PG (x82.2 r81)) λv83=>eJ (PH.set h' r81 x82.1) λh84=>cY PG (Builtin.append_ #[cN,cN] cN #[v79,v83]) h84 λv85 h86=>
    dY (dA PG (fieldAt cC t5 1)) λv87=>cY PG (dN cN v87 v85) h86 λv88 h89=>dY (dA PG (binOp BinOp.add bT t7 (Value.int IntKind.i64 1))) λv90=>n16 [t0,t2,pT r4 0,t5,t6,v90] h89)):
  iJ [0,2,4,5,6,7,8,9,10] (λn50 ρ h=>aBl RR n16 n50 (ρ 0) (ρ 2) (ρ 4) (ρ 5) (ρ 6) (ρ 7) (ρ 8) (ρ 9) (ρ 10) h) [t0,t2,pT r4 0,t5,t6,t7,pT r32 0,.int .i64 ((c:Nat):Int),.int .i64 0] h:=by
 refine⟨λvs h'=>∃(j:Nat) (st':kN) (acc:List Tx) (pv:Value) (G:List Nat),j≤min c 17∧vs=[t0,t2,pT r4 0,t5,t6,t7,pT r32 0,.int .i64 ((c:Nat):Int),.int .i64 (j:Int)]∧wO h' r4 s st'.1 st'.2∧cU [r4] hI h'∧Bx h' r32 (Lf.cells ⟨a,b,⟨kk,vv⟩,[]⟩ pv)∧dZ h' bR 1 pv (acc.map iY) G∧eD hI G∧r32∉G∧acc.length=j∧aCy (min c 17-j) st' acc=aCy (min c 17) st [],gU (min c 17) 8,⟨0,st,[],_,[],by omega,rfl,R,u,X,dZ.nil,(λx hx=>by cases hx),by simp,rfl,rfl⟩,?_⟩;rintro ρ h' ⟨j,st',acc,pv,G,hj,hvs,R',u',X',O',fG,nG,hal,hd⟩;simp only[iH,iT,kV,and_true] at hvs;obtain⟨w0,w1,w2,w3,w4,w5,w6,w7,w8⟩:=hvs;unfold aBl;rw[w0,w1,w2,w3,w4,w5,w6,w7,w8];by_cases hlt:j<min c 17
 ·have g1:((j:Int)<((c:Nat):Int))=True:=eq_true (by omega);have g2:((j:Int)<17)=True:=eq_true (by omega);have gj:=pR (i:=j) (by omega);simp only[g1,g2,aVi,cG,reduceIte,cT,Nat.reduceAdd];refine aVU R' hS λh2 R2 u2=>?_;have n432:r32≠r4:=λe=>k4 (e▸n32);have X2:=X'.upd u2 (by simp only[fV];exact n432);have l4:cD PG h2 (loadAt cP (pT r32 4))=some pv:=by rw[cP.load,X2.cell];rfl
  have G4:∀x∈G,x∉[r4]:=λx hx hm=>by
   simp only[fV] at hm;subst hm;exact k4 (fG _ hx)
  have O2:=O'.upd u2 G4;simp only[cB.f3,fE,l4,aMO,cG,reduceIte,cT,Nat.reduceAdd];intro r68 hr68;refine fI ?_
  try rw[cW]
  have u3:cZ h2 (h2.set r68 (.cells #[.string (tx (jR st' 32).1)] bR)):=cU.new hr68;have s3:fR (h2.set r68 (.cells #[.string (tx (jR st' 32).1)] bR)) 1 (.slice (some ⟨r68,0,none⟩) 1 1) ([(jR st' 32).1].map iY):=(dZ.lit (n:=1) (rows:=[(jR st' 32).1].map iY) (λr hr=>by simp only[iH,iT,fV] at hr;subst hr;rfl) dL (by simp) (by decide) rfl).slR;generalize h2.set r68 (.cells #[.string (tx (jR st' 32).1)] bR)=h3 at *;refine jF cP.und cP.und bR.info bR.size bR.bytes bR.zero rfl (by decide) (O2.ext u3) s3 (λr hr u hu=>by
   obtain⟨y,hy,rfl⟩:=lO.1 hr;exact iY.isC y u hu) (by simp only[iS,zLS];omega) ?_
  intro v5 h5 F5 O5 u5 k5 _;rw[←qI] at O5;have X5:=(X2.ext u3).upd u5 nG;refine cP.put X5 (o:=4) (by show 4<5;decide) O5.slR.isc λh6 X6 u6=>?_;have X6:Bx h6 r32 (Lf.cells ⟨a,b,⟨kk,vv⟩,[]⟩ v5):=X6;have n12:∀x,h2 x=none->hI x=none:=λx hx=>by
   cases e:hI x with
   | none=>rfl
   | some o=>
    exfalso;by_cases hx4:x=r4
    ·subst hx4;have:=R2.here;rw[hx] at this;cases this
    ·have:=(u'.trans u2) x o e (by simp[hx4]);rw[hx] at this;cases this
  have f5:eD hI F5:=λx hx=>by
   rcases k5 x hx with hx|hx
   ·exact fG x hx
   ·exact n12 x (u3.none hx)
  have n5:r32∉F5:=λhm=>by
   rcases k5 _ hm with hx|hx
   ·exact nG hx
   ·exact(X2.ext u3).known hx
  have U6:cU [r4] hI h6:=(((u'.trans u2).trans u3.upd).then u5 (λx hx=>.inr (fG x hx))).then u6 (λx hx=>by simp only[fV] at hx;subst hx;exact .inr n32)
  have R6:wO h6 r4 s (jR st' 32).2.1 (jR st' 32).2.2:=((R2.ext u3).upd u5 (λhm=>k4 (fG _ hm))).upd u6 (by simp only[fV];exact n432.symm);simp only[gj,cG,reduceIte,cT,Nat.reduceAdd];refine⟨⟨j+1,_,acc++[(jR st' 32).1],v5,F5,by omega,rfl,R6,U6,X6,O5.upd u6 (λx hx=>by simp only[fV];rintro rfl;exact n5 hx),f5,n5,by simp[hal],?_⟩,by simp[gU,w8];omega⟩;rw[←hd,show min c 17-j=(min c 17-(j+1))+1 by omega,aSa]
 ·have hj':j=min c 17:=by omega
  rw[hj',Nat.sub_self] at hd;have hd':aCy (min c 17) st []=(acc,st'):=hd.symm;rw[hd'] at hk;have hcond:dY (dA PG (binOp BinOp.lss bT (.int .i64 (j:Int)) (.int .i64 ((c:Nat):Int))))=λk=>k (.bool (decide ((j:Int)<(c:Int)))):=by
   funext k;rw[aQ9];rfl
  have hk:=hk h' pv G R' u' X' O' fG (by simp only;omega);by_cases hjc:j<c
  ·have g1:((j:Int)<((c:Nat):Int))=True:=eq_true (by omega);have g2:((j:Int)<17)=False:=eq_false (by omega);simp only[g1,g2,cG,reduceIte,cT,Nat.reduceAdd];simp only[cG,reduceIte,cT,Nat.reduceAdd] at hk;exact hk
  ·have g1:((j:Int)<((c:Nat):Int))=False:=eq_false (by omega);simp only[g1,cG,reduceIte,cT,Nat.reduceAdd];simp only[cG,reduceIte,cT,Nat.reduceAdd] at hk;exact hk
theorem aQ2(n:Nat)(st:kN)(acc:List Lf):aA7 (n+1) st acc=aA7 n (dLf st).2 (acc++[(dLf st).1]):=rfl
theorem wO.known{h:PH}{a:Nat}{S:List UInt8}{e:Int}{s:List UInt8}(H:wO h a S e s):h a≠none:=by rw[H.here];simp
theorem cU.grow1{h h1:PH}{K:List Nat}(u:cU K h h1)(hK:∀x∈K,h1 x≠none){x:Nat}(hx:h1 x=none):h x=none:=by
 cases e:h x with
 | none=>rfl
 | some o=>
  exfalso;by_cases c:x∈K
  ·exact hK x c hx
  ·have:=u x o e c;rw[hx] at this;cases this
theorem aZN(b:Bool):dA PG (build cC #[(0,.bool b)])=some (Pf.val b (.slice none 0 0)):=aKk b
theorem aPQ{h:PH}{s:Tx}(hS:s.length≤1000000000){k:cE}
  (hk:∀h' v,nL h h' v (iA s).1.lv->cZ h h'->k (.tuple #[Pf.val (iA s).1.ab v,.int .i64 (iA s).2]) h'):aT PG yB #[.string (tx s)] h k:=by
 have hS12:s.length≤1000000000000:=by omega
 apply tK.call;unfold tK;intro r1 hr1
 try rw[cW]
 have u1:cZ h (h.set r1 (.cells (dP PG cC) cC)):=cU.new hr1;have Z1:Bx (h.set r1 (.cells (dP PG cC) cC)) r1 [.bool false,.slice none 0 0]:=cC.zbox;generalize h.set r1 (.cells (dP PG cC) cC)=h1 at *;simp only[aY2,cG,reduceIte,cT,Nat.reduceAdd];intro r4 hr4
 try rw[cW]
 have n14:r1≠r4:=Z1.apart hr4;have u4:cZ h1 (h1.set r4 (.cells (Value.cells (.agg #[.string (tx s),.int .i64 0,.int .i64 0])) eR)):=cU.new hr4;have R4:wO (h1.set r4 (.cells (Value.cells (.agg #[.string (tx s),.int .i64 0,.int .i64 0])) eR)) r4 s ((0,s):kN).1 ((0,s):kN).2:=⟨by rw[dL];simp[Value.cells],by simp,oL _⟩;generalize h1.set r4 (.cells (Value.cells (.agg #[.string (tx s),.int .i64 0,.int .i64 0])) eR)=h4 at *;refine aKK R4 hS12 λh5 R5 u5=>?_;have Z5:=(Z1.ext u4).upd u5 (by simp only[fV];exact n14);obtain⟨ab,hab⟩:∃ab,ab=decide ((gT (0,s) 1).1=2):=⟨_,rfl⟩;have qab:((((gT (0,s) 1).1:Nat):Int)==2)=ab:=by
  rw[hab];by_cases c:(gT (0,s) 1).1=2
  ·simp[c]
  ·have:¬((((gT (0,s) 1).1:Nat):Int)=2):=by omega
   simp[c,this]
 simp only[hQ,qab,aZN,cG,reduceIte,cT,Nat.reduceAdd];intro r10 hr10
 try rw[cW]
 have n110:r1≠r10:=Z5.apart hr10;have n410:r4≠r10:=λe=>R5.known (e▸hr10);refine cC.fill (vs:=[.bool ab,.slice none 0 0]) hr10 rfl (by simp[fP]) λh6 X6 u6=>?_;refine aKK (R5.ext u6) hS12 λhB RB uB=>?_;have XB:=X6.upd uB (by simp only[fV];exact n410.symm);have ZB:=(Z5.ext u6).upd uB (by simp only[fV];exact n14)
 -- what is new since h
 have UB:cU [] h hB:=((u1.trans u4).upd.then u5 (λx hx=>by simp only[fV] at hx;subst hx;exact .inr (u1.none hr4))).trans u6 |>.then uB (λx hx=>by simp only[fV] at hx;subst hx;exact .inr (u1.none hr4))
 have nB:∀x,hB x=none->h x=none:=λx hx=>cU.grow1 UB (λy hy=>by cases hy) hx;have k4B:hB r4≠none:=RB.known;have k10B:hB r10≠none:=XB.known;have h10h:h r10=none:=by
  cases e:h r10 with
  | none=>rfl
  | some o=>
   exfalso;have:h5 r10=some o:=(((u1.trans u4).upd (F:=[])).then u5 (λx hx=>by simp only[fV] at hx;subst hx;exact .inr (u1.none hr4))) r10 o e (by simp);rw[hr10] at this;cases this
 obtain⟨n,hn⟩:∃n,n=(gT (gT (0,s) 1).2 1).1:=⟨_,rfl⟩;rw[←hn];obtain⟨st0,hst0⟩:∃st0,st0=(gT (gT (0,s) 1).2 1).2:=⟨_,rfl⟩;have RB:wO hB r4 s st0.1 st0.2:=by rw[hst0];exact RB
 have hdr:aE1 s=⟨ab,(aA7 (min n 3) st0 []).1⟩:=by rw[hab,hn,hst0];rfl
 refine⟨λvs h'=>∃(i:Nat) (st:kN) (fs:List Lf) (v:Value),i≤min n 3∧vs=[.string (tx s),pT r1 0,pT r4 0,pT r10 0,.int .i64 ((n:Nat):Int),.int .i64 (i:Int)]∧wO h' r4 s st.1 st.2∧Bx h' r10 [.bool ab,v]∧Bx h' r1 [.bool false,.slice none 0 0]∧nL hB h' v fs∧cU [r4,r10] hB h'∧fs.length=i∧aA7 (min n 3-i) st fs=aA7 (min n 3) st0 [],gU (min n 3) 5,⟨0,st0,[],_,by omega,rfl,RB,XB,ZB,nL.nil,cU.refl,rfl,rfl⟩,?_⟩;rintro ρ h' ⟨i,st,fs,v,hi,hvs,R,X,Z,L,U,hfl,hd⟩;simp only[iH,iT,kV,and_true] at hvs;obtain⟨w0,w1,w2,w3,w4,w5⟩:=hvs;unfold aFL;rw[w0,w1,w2,w3,w4,w5];have nB':∀x,h' x=none->hB x=none:=λx hx=>U.grow1 (λy hy=>by
  simp only[gP,kL,or_false] at hy;rcases hy with rfl|rfl
  ·exact R.known
  ·exact X.known) hx
 by_cases hlt:i<min n 3
 ·have g1:((i:Int)<((n:Nat):Int))=True:=eq_true (by omega);have g2:((i:Int)<3)=True:=eq_true (by omega);have gi:=pR (i:=i) (by omega);simp only[g1,g2,cG,reduceIte,cT,Nat.reduceAdd];obtain⟨a,ha⟩:∃a,a=gT st 8:=⟨_,rfl⟩;refine aNK R hS12 λh2 R2 u2=>?_;rw[←ha] at R2 ⊢;obtain⟨b,hb⟩:∃b,b=gT a.2 8:=⟨_,rfl⟩;refine aNK R2 hS12 λh3 R3 u3=>?_;rw[←hb] at R3 ⊢;have u23:=u2.trans u3;simp only[aYQ,cG,reduceIte,cT,Nat.reduceAdd];intro r32 hr32
  try rw[cW]
  have n432:r32≠r4:=λe=>R3.known (e▸hr32);have n32':h' r32=none:=u23.grow1 (λy hy=>by simp only[fV] at hy;subst hy;exact R3.known) hr32;refine cB.fill (vs:=Lf.cells ⟨((a.1%1000000:Nat):Int),((b.1%1000000:Nat):Int),⟨[],[]⟩,[]⟩ (.slice none 0 0)) hr32 rfl (Lf.isC _ rfl) λh5' X5 u5'=>?_;obtain⟨kk,hkk⟩:∃kk,kk=mH b.2:=⟨_,rfl⟩;refine aNr (R3.ext u5') hS12 λh7 R7 u7=>?_;rw[←hkk] at R7 ⊢;have X7:=X5.upd u7 (by simp only[fV];exact n432);simp only[cB.f2,cM.f0,fE,cG,reduceIte,cT,Nat.reduceAdd];refine bR.put X7 (o:=2) (by show 2<5;decide) rfl λh8 X8 u8=>?_;have X8:Bx h8 r32 (Lf.cells ⟨((a.1%1000000:Nat):Int),((b.1%1000000:Nat):Int),⟨kk.1,[]⟩,[]⟩ (.slice none 0 0)):=X8;have R8:=R7.upd u8 (by simp only[fV];exact n432.symm);obtain⟨vv,hvv⟩:∃vv,vv=mH kk.2:=⟨_,rfl⟩;refine aNr R8 hS12 λh9 R9 u9=>?_;rw[←hvv] at R9 ⊢;have X9:=X8.upd u9 (by simp only[fV];exact n432);simp only[cB.f2,cM.f1,fE,Nat.reduceAdd,cG,reduceIte,cT,Nat.reduceAdd];refine bR.put X9 (o:=3) (by show 3<5;decide) rfl λh10 X10 u10=>?_;have X10:Bx h10 r32 (Lf.cells ⟨((a.1%1000000:Nat):Int),((b.1%1000000:Nat):Int),⟨kk.1,vv.1⟩,[]⟩ (.slice none 0 0)):=X10;have R10':=R9.upd u10 (by simp only[fV];exact n432.symm);obtain⟨c,hc⟩:∃c,c=gT vv.2 1:=⟨_,rfl⟩;refine aKK R10' hS12 λh11 R11 u11=>?_;rw[←hc] at R11 ⊢;have hc256:c.1<256:=by rw[hc];exact aHD vv.2 1
  have X11:=X10.upd u11 (by simp only[fV];exact n432);have s32:∀x∈[r32],x∈[r4]∨h' x=none:=λx hx=>by simp only[fV] at hx;subst hx;exact .inr n32'
  have U11:cU [r4] h' h11:=(((((u23.trans u5'.upd).trans u7).then u8 s32).trans u9).then u10 s32).trans u11;refine aWv hS12 R11 U11 n32' R.known X11 hc256 λh12 pv G R12 U12 X12 O12 f12 hl12=>?_;generalize hm:aCy (min c.1 17) c.2 []=mm at R12 O12 hl12;have hdl:dLf st=(⟨((a.1%1000000:Nat):Int),((b.1%1000000:Nat):Int),⟨kk.1,vv.1⟩,mm.1⟩,mm.2):=by
   rw[ha] at *;rw[←hm,hc,hvv,hkk,hb];rfl
  have n1032:r10≠r4:=n410.symm;have X12':Bx h12 r10 [.bool ab,v]:=X.upd U12 (by simp only[fV];exact n1032);have Z12:=Z.upd U12 (by simp only[fV];exact n14);have l10:cD PG h12 (loadAt cN (pT r10 1))=some v:=by rw[cN.load,X12'.cell];rfl
  have l32:cD PG h12 (loadAt cB (pT r32 0))=some (Lf.val ⟨((a.1%1000000:Nat):Int),((b.1%1000000:Nat):Int),⟨kk.1,vv.1⟩,mm.1⟩ pv):=Lf.boxC (f:=⟨((a.1%1000000:Nat):Int),((b.1%1000000:Nat):Int),⟨kk.1,vv.1⟩,mm.1⟩) X12;simp only[cC.f1,fE,l10,l32,cG,reduceIte,cT,Nat.reduceAdd];have n12B:∀x,h12 x=none->hB x=none:=λx hx=>nB' x (U12.grow1 (λy hy=>by simp only[fV] at hy;subst hy;exact R12.known) hx);refine nL.push (b:=r4) (m:=r4) (h1:=h') (f:=⟨((a.1%1000000:Nat):Int),((b.1%1000000:Nat):Int),⟨kk.1,vv.1⟩,mm.1⟩) L k4B k4B (U12.mono λx hx=>.inl (by simp only[fV] at hx;simp[hx])) nB' n12B O12 f12 (by omega) λh13 v13 F13 L13 f13 u13=>?_;have q10:r10∉F13:=λhm'=>k10B (f13 _ hm');have q4:r4∉F13:=λhm'=>k4B (f13 _ hm');have q1:r1∉F13:=λhm'=>ZB.known (f13 _ hm');have X13:=X12'.upd u13 q10;refine cN.put X13 (o:=1) (by show 1<2;decide) L13.isc λh14 X14 u14=>?_;have X14:Bx h14 r10 [.bool ab,v13]:=X14;simp only[gi,cG,reduceIte,cT,Nat.reduceAdd];refine⟨⟨i+1,mm.2,fs++[(⟨((a.1%1000000:Nat):Int),((b.1%1000000:Nat):Int),⟨kk.1,vv.1⟩,mm.1⟩:Lf)],v13,by omega,rfl,((R12.upd u13 q4).upd u14 (by simp only[fV];exact n410)),X14,(Z12.upd u13 q1).upd u14 (by simp only[fV];exact n110),L13.upd u14 (λx hx=>by simp only[fV] at hx;subst hx;exact k10B),?_,by simp[hfl],?_⟩,by simp[gU,w5];omega⟩
  ·exact((U.trans (U12.mono λx hx=>.inl (by simp only[fV] at hx;simp[hx]))).then u13 (λx hx=>.inr (f13 x hx))).trans (u14.mono λx hx=>.inl (by simp only[fV] at hx;simp[hx]))
  ·rw[←hd,show min n 3-i=(min n 3-(i+1))+1 by omega,aQ2,hdl]
 ·have hi':i=min n 3:=by omega
  rw[hi',Nat.sub_self] at hd;have hfs:(aA7 (min n 3) st0 []).1=fs:=by rw[←hd];rfl
  have hdr:aE1 s=⟨ab,fs⟩:=by rw[hdr,hfs]
  have EX:∀{h'':PH},cU [r4,r10,r1] hB h''->cZ h h'':=fun {h''} w=>UB.then w (λx hx=>by
   simp only[gP,kL,or_false] at hx;rcases hx with rfl|rfl|rfl
   ·exact .inr (u1.none hr4)
   ·exact .inr h10h
   ·exact .inr hr1)
  have fin:dY (cD PG h' (loadAt cC (pT r10 0))) λv91=>aT PG sV #[v91] h' λv92 h93=>dY (dA PG (extract v92 0)) λv94=>dY (dA PG (extract v92 1)) λv95=>dY (cD PG h93 (jS BinOp.neq bT (.tmp 80) (.const (Value.int IntKind.i64 0)) v95 (Value.int IntKind.i64 0))) λv96=>
    nW (yV v96) false (λk99=>k99 v94 h93) h93 λv97 h98=>nW (yV v96) false (λk102=>k102 (.string (tx s)) h98) h98 λv100 h101=>nW (yV v96) false (λk105=>dY (cD PG h101 (jS BinOp.neq bR (.tmp 83) (.tmp 84) v97 v100)) λv106=>k105 v106 h101) h101 λv103 h104=>dY (fH v96 (Value.bool true) v103) λv107=>
    dF v107 (dY (dA PG (build cC #[])) λv108=>cY PG (dN cC (pT r1 0) v108) h104 λv109 h110=>dY (cD PG h110 (loadAt cC (pT r1 0))) λv111=>k (Value.tuple #[v111,(Value.int IntKind.i64 5)]) h110)
    (dY (cD PG h104 (loadAt cC (pT r10 0))) λv112=>cY PG (dN cC (pT r1 0) v112) h104 λv113 h114=>dY (cD PG h114 (loadAt cC (pT r1 0))) λv115=>k (Value.tuple #[v115,(Value.int IntKind.i64 0)]) h114):=by
   obtain⟨l,F,el,OL,fF,LL⟩:=L.here;have hll:l.length≤1000000:=by
    have:l.length=fs.length:=by rw[←el,iS]
    omega
   simp only[Pf.boxC X,cG,reduceIte,cT,Nat.reduceAdd];refine aOx (ab:=ab) OL.slR LL.lfs hll λh2 u2=>?_;rw[el,←hdr];have hpe:=aTK s;have U2:cU [r4,r10,r1] hB h2:=(U.trans u2.upd).mono λx hx=>.inl (by simp only[gP,kL,or_false] at hx;rcases hx with rfl|rfl<;>simp);have L2:nL hB h2 v fs:=L.upd u2 (by simp);by_cases cp:kZ (aE1 s)=(s,0)
   ·rw[if_pos cp] at hpe;have h0:(iA s).2=0:=by
     by_cases c:(iA s).2=0
     ·exact c
     ·rw[if_neg c] at hpe;exact absurd (show(0:Int)=5 from congrArg Prod.snd hpe) (by decide)
    rw[if_pos h0] at hpe;rw[←hpe,hdr] at hk;rw[cp];have q1:((0:Int) !=0)=false:=rfl;have q2:(!decide (s=s))=false:=by simp
    simp only[kE,q1,aDY,q2,Pf.boxC (X.ext u2),cG,reduceIte,cT,Nat.reduceAdd];refine cC.put (vs:=[.bool ab,v]) (Z.ext u2) (o:=0) rfl (by show 0+2≤2;decide) (by
     have:=L.isc;simp[fP];exact this) λh3 Z3 u3=>?_
    have Z3:Bx h3 r1 [.bool ab,v]:=Z3;simp only[Pf.boxC Z3,cG,reduceIte,cT,Nat.reduceAdd];refine hk h3 v ?_ (EX (U2.trans (u3.mono λx hx=>.inl (by simp only[fV] at hx;simp[hx]))));have L3:nL hB h3 v fs:=L2.upd u3 (λx hx=>by simp only[fV] at hx;subst hx;exact ZB.known);obtain⟨l',F',e',O',f',L'⟩:=L3.here;exact⟨l',F',e',O',λx hx=>nB x (f' x hx),λy hy=>by
     obtain⟨G,a1,a2,a3⟩:=L' y hy;exact⟨G,a1,λx hx=>nB x (a2 x hx),a3⟩⟩
   ·rw[if_neg cp] at hpe;have h0:(iA s).2≠0:=λc=>by
     rw[if_pos c] at hpe;have:=congrArg Prod.snd hpe;rw[c] at this;cases this
    rw[aS3 s h0] at hk;have bad:dY (dA PG (build cC #[])) λv108=>cY PG (dN cC (pT r1 0) v108) h2 λv109 h110=>dY (cD PG h110 (loadAt cC (pT r1 0))) λv111=>k (Value.tuple #[v111,(Value.int IntKind.i64 5)]) h110:=by
     simp only[aGk,cG,reduceIte,cT,Nat.reduceAdd];refine cC.put (vs:=[.bool false,.slice none 0 0]) (Z.ext u2) (o:=0) rfl (by show 0+2≤2;decide) (by simp[fP]) λh3 Z3 u3=>?_;have Z3:Bx h3 r1 [.bool false,.slice none 0 0]:=Z3;simp only[Pf.boxC Z3,cG,reduceIte,cT,Nat.reduceAdd];exact hk h3 _ nL.nil (EX (U2.trans (u3.mono λx hx=>.inl (by simp only[fV] at hx;simp[hx]))))
    by_cases c0:(kZ (aE1 s)).2=0
    ·have q1:((kZ (aE1 s)).2 !=0)=false:=by simp[c0]
     have q2:(!decide ((kZ (aE1 s)).1=s))=true:=by
      have:¬(kZ (aE1 s)).1=s:=λe=>cp (Prod.ext e c0);simp[this]
     simp only[kE,q1,aDY,q2,cG,reduceIte,cT,Nat.reduceAdd]
     try simp only[cG,reduceIte,cT,Nat.reduceAdd] at bad
     exact bad
    ·have q1:((kZ (aE1 s)).2 !=0)=true:=by simpa using c0
     simp only[kE,q1,cG,reduceIte,cT,Nat.reduceAdd]
     try simp only[cG,reduceIte,cT,Nat.reduceAdd] at bad
     exact bad
  by_cases hin:i<n
  ·have g1:((i:Int)<((n:Nat):Int))=True:=eq_true (by omega);have g2:((i:Int)<3)=False:=eq_false (by omega);simp only[g1,g2,cG,reduceIte,cT,Nat.reduceAdd]
   try simp only[cG,reduceIte,cT,Nat.reduceAdd] at fin
   exact fin
  ·have g1:((i:Int)<((n:Nat):Int))=False:=eq_false (by omega);simp only[g1,cG,reduceIte,cT,Nat.reduceAdd]
   try simp only[cG,reduceIte,cT,Nat.reduceAdd] at fin
   exact fin
theorem fR.lfc{h:PH}{v:Value}{l:List LV}(S:fR h 5 v (l.map qE)){j:Nat}{y:LV}(hy:l[j]? =some y):
  ∃b o,dA PG (indexAt cN v (.int .i64 (j:Int)))=some (pT b o)∧dD h ⟨b,o,none⟩=some (.int .i64 y.1.i)∧dD h ⟨b,o+1,none⟩=some (.int .i64 y.1.n)∧dD h ⟨b,o+2,none⟩=some (.string (tx y.1.p.k))∧dD h ⟨b,o+2+1,none⟩=some (.string (tx y.1.p.v)):=by
 obtain⟨b,o,h1,h2,-⟩:=S.fields cN.und cB.info cB.size (k:=.i64) (j:=j) (r:=qE y) (by rw[vD,hy];rfl);exact⟨b,o,h1,h2 0 _ rfl,h2 1 _ rfl,h2 2 _ rfl,h2 3 _ rfl⟩
theorem nL.offs{h0 h:PH}{v:Value}{fs:List Lf}(H:nL h0 h v fs){b m:Nat}(kb:h0 b≠none)(km:h0 m≠none):∃l:List LV,l.map (·.1)=fs∧fR h 5 v (l.map qE)∧LfS h l∧Off b m v∧∀y∈l,Off b m y.2:=by
 obtain⟨l,F,e,O,f,L⟩:=H.here;refine⟨l,e,O.slR,L.lfs,λa n c ev=>f.off kb km _ (aF8 O a n c ev),λy hy a n c ev=>?_⟩;obtain⟨G,OG,fG,-⟩:=L y hy;exact fG.off kb km _ (aF8 OG a n c ev)
def wK:List Lf->List Tx
 | []=>[]
 | f::l=>(if (oR f).isSome then aGl f else [])++wK l
theorem aPx(l:List Lf)(f:Lf):wK (l++[f])=wK l++(if (oR f).isSome then aGl f else []):=by
 induction l with
 | nil=>simp[wK]
 | cons a l ih=>simp[wK,ih]
theorem aQB(root:Tx)(l:List Lf)(f:Lf):nA root (l++[f])=(nA root l&&(oR f==some root)):=by
 unfold nA;simp
theorem aNX{h:PH}{root:Tx}{ab:Bool}{v:Value}{l:List LV}{b m:Nat}{A:List Tx}{K:List Nat}(H:Bk b m A K h)(S:fR h 5 v (l.map qE))(HS:LfS h l)(ov:Off b m v)(oy:∀y∈l,Off b m y.2)(hl:l.length≤1000)(hb:∀y∈l,y.1.Bd){k:cE}
  (hk:∀h',Bk b m (wK (l.map (·.1))++A) K h'->cU [b,m] h h'->k (.bool (nA root (l.map (·.1)))) h'):
  aT PG wY #[pT b 0,.string (tx root),Pf.val ab v] h k:=by
 apply aAl.call;unfold aAl;intro r1 hr1
 try rw[cW]
 have hr1b:r1∉[b,m]:=(eD.one hr1).off (H.known b (by simp)) (H.known m (by simp)) r1 (by simp);have u1:cZ h (h.set r1 (.cells (Value.cells (Pf.val ab v)) cC)):=cU.new hr1;have X1:Bx (h.set r1 (.cells (Value.cells (Pf.val ab v)) cC)) r1 [.bool ab,v]:=Bx.new;generalize h.set r1 (.cells (Value.cells (Pf.val ab v)) cC)=h1 at *;refine⟨λvs h'=>∃i:Nat,i≤l.length∧vs=[pT b 0,.string (tx root),pT r1 0,.bool (nA root ((l.take i).map (·.1))),.int .i64 (i:Int)]∧Bk b m (wK ((l.take i).map (·.1))++A) K h'∧cU [b,m] h1 h',gU l.length 4,⟨0,by omega,rfl,H.ext u1,cU.refl⟩,?_⟩;rintro ρ h' ⟨i,hi,hvs,B,u⟩;simp only[iH,iT,kV,and_true] at hvs;obtain⟨v0,v1,v2,v3,v4⟩:=hvs;unfold aFS;rw[v0,v1,v2,v3,v4];have X:=X1.upd u hr1b;have lv:cD PG h' (loadAt cN (pT r1 1))=some v:=by rw[cN.load,X.cell];rfl
 have ll:=aI0 S;by_cases hlt:i<l.length
 ·have g:((i:Int)<(l.length:Int))=True:=eq_true (by omega);have gi:=pR (i:=i) (by omega);obtain⟨y,hy⟩:∃y,l[i]? =some y:=⟨_,lQ hlt⟩;have hym:=rC hy;obtain⟨pa,e1,e2⟩:=((S.ext u1).upd u ov).lf hy;have hbd:=hb y hym;have et:(l.take (i+1)).map (·.1)=(l.take i).map (·.1)++[y.1]:=by rw[zLT,hy];simp
  have key:∀(t:Tx) (o:Bool) {h2:PH},Bk b m ((if (oR y.1).isSome then aGl y.1 else [])++(wK ((l.take i).map (·.1))++A)) K h2->cU [b,m] h' h2->(o&&decide (t=root))=(oR y.1==some root)->
    (∃i':Nat,i'≤l.length∧([pT b 0,.string (tx root),pT r1 0,.bool (nA root ((l.take i).map (·.1))&&(o&&decide (t=root))),.int .i64 ((i+1:Nat):Int)]:List Value)=[pT b 0,.string (tx root),pT r1 0,.bool (nA root ((l.take i').map (·.1))),.int .i64 (i':Int)]∧Bk b m (wK ((l.take i').map (·.1))++A) K h2∧cU [b,m] h1 h2):=by
   intro t o h2 B2 u2 ho;refine⟨i+1,by omega,?_,B2.mono λa ha=>?_,u.trans u2⟩
   ·rw[et,aQB,ho]
   ·rw[et,aPx] at ha;simp only[jG] at ha ⊢;rcases ha with(ha|ha)|ha
    ·exact .inr (.inl ha)
    ·exact .inl ha
    ·exact .inr (.inr ha)
  simp only[cC.f1,fE,lv,ll,g,e1,e2,cG,reduceIte,cT,Nat.reduceAdd];refine aTy B (((HS y hym).ext u1).upd u (oy y hym)) (oy y hym) (by have:=hbd.m;omega) (by have:=hbd.k;have:=hbd.v;omega) (λhno h2 B2 u2=>?_) (λhok h2 B2 u2=>?_)
  ·have hc:=aPB hno;have hfin:=key [] false (B2.mono λa ha=>by rw[hc] at ha;simpa using ha) u2 (by rw[hc];rfl);simp only[wT,aFu] at hfin;cases hcl:nA root ((l.take i).map (·.1)) with
   | true=>
    simp only[gi,cG,reduceIte,cT,Nat.reduceAdd];exact⟨hfin,by simp[gU,v4];omega⟩
   | false=>
    simp only[gi,cG,reduceIte,cT,Nat.reduceAdd];exact⟨hfin,by simp[gU,v4];omega⟩
  ·have hc:=aOk hok;have hfin:=key (aI2 y.1.n.toNat (aLk y.1)) true (B2.mono λa ha=>by rw[hc] at ha;simpa using ha) u2 (by
    rw[hc,zLp];by_cases c:aI2 y.1.n.toNat (aLk y.1)=root
    ·simp[c]
    ·simp[c])
   simp only[zLp] at hfin;cases hcl:nA root ((l.take i).map (·.1)) with
   | true=>
    rw[hcl] at hfin;simp only[zLp] at hfin;simp only[aCQ,gi,cG,reduceIte,cT,Nat.reduceAdd];exact⟨hfin,by simp[gU,v4];omega⟩
   | false=>
    rw[hcl] at hfin;simp only[wT] at hfin;simp only[gi,cG,reduceIte,cT,Nat.reduceAdd];exact⟨hfin,by simp[gU,v4];omega⟩
 ·have g:((i:Int)<(l.length:Int))=False:=eq_false (by omega);rw[mW (by omega)] at B;rw[mW (by omega)];simp only[cC.f1,fE,lv,ll,g,cG,reduceIte,cT,Nat.reduceAdd];exact hk h' B (u1.upd.trans u)
def aGO(l:List Lf)(q:Pr):Bool:=match l with
 | [f]=>f.p==q
 | _=>false
theorem aTY{l:List Lf}(h:l.length≠1)(q:Pr):aGO l q=false:=by
 match l,h with
 | [],_=>rfl
 | [f],h=>exact absurd rfl h
 | _::_::_,_=>rfl
theorem aSE(root s k v:Tx):aCd root s k v=((iA s).2==0 && !(iA s).1.ab&&aGO (iA s).1.lv ⟨k,v⟩&&nA root (iA s).1.lv):=by
 unfold aCd aGO;rfl
def aGc(s:Tx):List Tx:=if (iA s).2=0∧(iA s).1.ab=false∧(iA s).1.lv.length=1 then wK (iA s).1.lv else []
theorem aR4{h:PH}{root s key value:Tx}{b m:Nat}{A:List Tx}{K:List Nat}(H:Bk b m A K h)(hs:s.length≤1000000000){k:cE}(hk:∀h',Bk b m (aGc s++A) K h'->cU [b,m] h h'->k (.bool (aCd root s key value)) h'):
  aT PG aAv #[pT b 0,.string (tx root),.string (tx s),.string (tx key),.string (tx value)] h k:=by
 apply aDV.call;unfold aDV;have kb:=H.known b (by simp);have km:=H.known m (by simp);refine aPQ hs λh1 v L1 u1=>?_;have hbd:=aKV s;have hl2:=aJf s;rw[aSE] at hk;unfold aGc at hk;generalize iA s=P at *;obtain⟨⟨ab,fs⟩,e⟩:=P;simp only at L1 hbd hl2 hk ⊢;simp only[cG,reduceIte,cT,Nat.reduceAdd];intro r5 hr5
 try rw[cW]
 have hr5h:h r5=none:=u1.none hr5;refine cC.fill (vs:=[.bool ab,v]) hr5 rfl (by
  have:=L1.isc;simp[fP];exact this) λh2 X2 u2=>?_
 have e2:=u1.trans u2;have L2:=L1.upd u2 (by simp);obtain⟨l,el,S2,HS2,ov,oy⟩:=L2.offs kb km;have hll:l.length=fs.length:=by rw[←el,iS]
 have B2:=H.ext e2;have la:cD PG h2 (loadAt fU (pT r5 0))=some (.bool ab):=by rw[fU.load,X2.cell];rfl
 have lv:cD PG h2 (loadAt cN (pT r5 1))=some v:=by rw[cN.load,X2.cell];rfl
 have ll:=aI0 S2;have bad:¬(e=0∧ab=false∧fs.length=1)->k (.bool false) h2:=λhn=>by
  have:=hk h2;rw[if_neg hn] at this;have hf:(e==0 && !ab&&aGO fs ⟨key,value⟩&&nA root fs)=false:=by
   by_cases c0:e=0
   ·cases ab with
    | true=>simp
    | false=>rw[aTY (λh=>hn ⟨c0,rfl,h⟩)];simp
   ·simp[c0]
  rw[hf] at this;exact this B2 e2.upd
 by_cases c0:e=0
 case neg=>
  have q:(e !=0)=true:=by simpa using c0
  simp only[kE,q,cG,reduceIte,cT,Nat.reduceAdd];exact bad λh=>c0 h.1
 have q:(e !=0)=false:=by simp[c0]
 cases ab with
 | true=>
  simp only[kE,q,cC.f0,la,cG,reduceIte,cT,Nat.reduceAdd];exact bad λh=>by cases h.2.1
 | false=>
  by_cases c1:fs.length=1
  case neg=>
   have q1:((l.length:Int) !=1)=true:=by simp;omega
   simp only[kE,q,q1,cC.f0,cC.f1,fE,la,lv,ll,cG,reduceIte,cT,Nat.reduceAdd];exact bad λh=>c1 h.2.2
  have q1:((l.length:Int) !=1)=false:=by simp;omega
  obtain⟨y,rfl⟩:=List.length_eq_one_iff.1 (show l.length=1 by omega);simp only[iH,iT] at el;subst el;simp only[kE,q,q1,cC.f0,cC.f1,fE,la,lv,ll,Pf.boxC X2,cG,reduceIte,cT,Nat.reduceAdd];refine aNX B2 S2 HS2 ov oy (by simp) (λz hz=>hbd z.1 (by simp only[fV] at hz;subst hz;simp)) λh3 B3 u3=>?_;have U3:cU [b,m] h h3:=e2.upd.trans u3;have hk:=hk h3;rw[if_pos ⟨c0,rfl,c1⟩] at hk;have hk:=hk B3 U3;have X3:=X2.upd u3 (λhm=>by
   have:=(eD.one hr5h).off kb km r5 (by simp);exact this hm)
  have lv3:cD PG h3 (loadAt cN (pT r5 1))=some v:=by rw[cN.load,X3.cell];rfl
  obtain⟨x,o,i1,-,-,i4,i5⟩:=(S2.upd u3 ov).lfc (j:=0) (y:=y) rfl;rw[show((0:Nat):Int)=0 from rfl] at i1;simp only[c0,beq_self_eq_true,zLq,zLp] at hk;have hpe:aGO [y.1] ⟨key,value⟩=(decide (y.1.p.k=key)&&decide (y.1.p.v=value)):=by
   rw[zLm];obtain⟨⟨_,_,⟨pk,pv⟩,_⟩,_⟩:=y;simp[aGO]
  rw[hpe] at hk;simp only[iH,iT];cases hc:nA root [y.1] with
  | false=>
   rw[hc,aFu] at hk;simp only[cG,reduceIte,cT,Nat.reduceAdd];exact hk
  | true=>
   rw[hc,Bool.and_true] at hk;by_cases ck:y.1.p.k=key
   ·have d:=decide_eq_true ck;rw[d,zLp] at hk;simp only[lv3,i1,cC.f1,cB.f2,cM.f0,cM.f1,fE,bR.load,i4,i5,aCQ,d,cG,reduceIte,cT,Nat.reduceAdd];exact hk
   ·have d:=decide_eq_false ck;rw[d,wT] at hk;simp only[lv3,i1,cC.f1,cB.f2,cM.f0,fE,bR.load,i4,aCQ,d,cG,reduceIte,cT,Nat.reduceAdd];exact hk
def aAO(root:Tx)(l:List Lf)(k:Tx):Bool:=match l with
 | []=>root==lB []
 | [f]=>(f.i==0&&decide (k<f.p.k))||(f.i==IntKind.i64.wrap (f.n-1)&&decide (f.p.k<k))
 | f::g::_=>f.n==g.n&&(IntKind.i64.wrap (f.i+1)==g.i)&&decide (f.p.k<k)&&decide (k<g.p.k)
theorem aPO(root s k:Tx):aCX root s k=((iA s).2==0&&(iA s).1.ab&&decide (1≤k.length)&&decide (k.length≤16)&&nA root (iA s).1.lv&&aAO root (iA s).1.lv k):=by
 unfold aCX aAO;rfl
def aIX(s k:Tx):List Tx:=if (iA s).2=0∧(iA s).1.ab=true∧1≤k.length∧k.length≤16 then wK (iA s).1.lv++(if (iA s).1.lv=[] then rR [] else []) else []
theorem aTj{h:PH}{root s key:Tx}{b m:Nat}{A:List Tx}{K:List Nat}(H:Bk b m A K h)(hs:s.length≤1000000000){k:cE}(hk:∀h',Bk b m (aIX s key++A) K h'->cU [b,m] h h'->k (.bool (aCX root s key)) h'):
  aT PG aCo #[pT b 0,.string (tx root),.string (tx s),.string (tx key)] h k:=by
 apply tI.call;unfold tI;have kb:=H.known b (by simp);have km:=H.known m (by simp);have lk:dA PG (Builtin.len_ #[bR] bT #[.string (tx key)])=some (.int .i64 (key.length:Int)):=by rw[lP bR.und,iB]
 refine aPQ hs λh1 v L1 u1=>?_;have hbd:=aKV s;have hl2:=aJf s;rw[aPO] at hk;unfold aIX at hk;generalize iA s=P at *;obtain⟨⟨ab,fs⟩,e⟩:=P;simp only at L1 hbd hl2 hk ⊢;simp only[cG,reduceIte,cT,Nat.reduceAdd];intro r5 hr5
 try rw[cW]
 have hr5h:h r5=none:=u1.none hr5;refine cC.fill (vs:=[.bool ab,v]) hr5 rfl (by
  have:=L1.isc;simp[fP];exact this) λh2 X2 u2=>?_
 have e2:=u1.trans u2;have L2:=L1.upd u2 (by simp);obtain⟨l,el,S2,HS2,ov,oy⟩:=L2.offs kb km;have hll:l.length=fs.length:=by rw[←el,iS]
 have B2:=H.ext e2;have la:cD PG h2 (loadAt fU (pT r5 0))=some (.bool ab):=by rw[fU.load,X2.cell];rfl
 have ll:=aI0 S2;have bad:¬(e=0∧ab=true∧1≤key.length∧key.length≤16)->k (.bool false) h2:=λhn=>by
  have:=hk h2;rw[if_neg hn] at this;have hf:(e==0&&ab&&decide (1≤key.length)&&decide (key.length≤16)&&nA root fs&&aAO root fs key)=false:=by
   by_cases c0:e=0
   ·cases ab with
    | false=>simp
    | true=>
     by_cases c1:1≤key.length
     ·have c2:¬key.length≤16:=λh=>hn ⟨c0,rfl,c1,h⟩;simp[c2]
     ·simp[c1]
   ·simp[c0]
  rw[hf] at this;exact this B2 e2.upd
 by_cases c0:e=0
 case neg=>
  have q:(e !=0)=true:=by simpa using c0
  simp only[kE,q,cG,reduceIte,cT,Nat.reduceAdd];exact bad λh=>c0 h.1
 have q:(e !=0)=false:=by simp[c0]
 cases ab with
 | false=>
  simp only[kE,q,cC.f0,la,cG,reduceIte,cT,Nat.reduceAdd];exact bad λh=>by cases h.2.1
 | true=>
  by_cases d1:key.length<1
  ·have g1:((key.length:Int)<1)=True:=eq_true (by omega);simp only[kE,q,cC.f0,la,lk,g1,cG,reduceIte,cT,Nat.reduceAdd];exact bad λh=>by omega
  have g1:((key.length:Int)<1)=False:=eq_false (by omega);by_cases d2:16<key.length
  ·have g2:((16:Int)<(key.length:Int))=True:=eq_true (by omega);simp only[kE,q,cC.f0,la,lk,g1,g2,cG,reduceIte,cT,Nat.reduceAdd];exact bad λh=>by omega
  have g2:((16:Int)<(key.length:Int))=False:=eq_false (by omega);have f1:decide (1≤key.length)=true:=decide_eq_true (by omega);have f2:decide (key.length≤16)=true:=decide_eq_true (by omega);simp only[kE,q,cC.f0,la,lk,g1,g2,Pf.boxC X2,cG,reduceIte,cT,Nat.reduceAdd];refine aNX B2 S2 HS2 ov oy (by omega) (λz hz=>hbd z.1 (by rw[←el];exact zL6 hz)) λh3 B3 u3=>?_;rw[el] at B3 ⊢;have U3:cU [b,m] h h3:=e2.upd.trans u3;have X3:=X2.upd u3 (λhm=>by
   have:=(eD.one hr5h).off kb km r5 (by simp);exact this hm)
  have lv3:cD PG h3 (loadAt cN (pT r5 1))=some v:=by rw[cN.load,X3.cell];rfl
  have S3:=S2.upd u3 ov;have hk:∀h',Bk b m ((wK fs++(if fs=[] then rR [] else []))++A) K h'->cU [b,m] h h'->k (.bool (nA root fs&&aAO root fs key)) h':=λh' hB hU=>by
   have:=hk h';rw[if_pos ⟨c0,rfl,by omega,by omega⟩,f1,f2,c0] at this;simp only[beq_self_eq_true,zLp,Bool.and_self] at this;exact this hB hU
  cases hc:nA root fs with
  | false=>
   rw[hc] at hk;simp only[wT] at hk;simp only[cG,reduceIte,cT,Nat.reduceAdd];have hne:fs≠[]:=λh=>by rw[h] at hc;cases hc
   rw[if_neg hne,zLP] at hk;exact hk h3 B3 U3
  | true=>
   rw[hc] at hk;simp only[zLp] at hk;subst el
   match l,S3,ll,hl2,hk,B3 with
   | [],S3,ll,hl2,hk,B3=>
    have q0:(((([]:List LV).length:Nat):Int)==0)=true:=rfl;simp only[lv3,ll,hQ,q0,cC.f1,fE,cG,reduceIte,cT,Nat.reduceAdd];refine aVv B3 (l:=[]) (by simp) (dZ.nil (e:=cM) (size:=2)).slR (λa n c e=>by cases e) (λp hp=>by cases hp) λh4 B4 u4=>?_;have:=hk h4 (B4.mono λa ha=>by
     simp only[iT,if_true,jG] at ha ⊢;rcases ha with(ha|ha)|ha
     ·cases ha
     ·exact .inl ha
     ·exact .inr (.inr ha)) (U3.trans u4)
    simp only[aCQ,cG,reduceIte,cT,Nat.reduceAdd];have ht:aAO root (([]:List LV).map (·.1)) key=decide (root=lB []):=by
     rw[zLm];simp[aAO]
    rw[ht] at this;exact this
   | [y],S3,ll,hl2,hk,B3=>
    have q0:((([y].length:Nat):Int)==0)=false:=rfl;have q1:((([y].length:Nat):Int)==1)=true:=rfl;obtain⟨x,o,i1,i2,i3,i4,-⟩:=S3.lfc (j:=0) (y:=y) rfl;rw[show((0:Nat):Int)=0 from rfl] at i1;have hk:=hk h3 (B3.mono λa ha=>by simpa using ha) U3;have ht:aAO root ([y].map (·.1)) key=((y.1.i==0&&decide (key<y.1.p.k))||(y.1.i==IntKind.i64.wrap (y.1.n-1)&&decide (y.1.p.k<key))):=rfl;rw[ht] at hk;simp only[lv3,ll,hQ,q0,q1,i1,cC.f1,cB.f0,cB.f1,cB.f2,cM.f0,fE,bT.load,bR.load,i2,i3,i4,cG,reduceIte,cT,Nat.reduceAdd];cases hi:y.1.i==0 with
    | true=>
     rw[hi] at hk;simp only[zLp] at hk;simp only[i1,cB.f0,cB.f1,cB.f2,cM.f0,bT.load,bR.load,i2,i3,i4,aNc,hQ,cG,reduceIte,cT,Nat.reduceAdd];cases hj:y.1.i==IntKind.i64.wrap (y.1.n-1) with
     | true=>
      rw[hj] at hk;simp only[zLp] at hk;by_cases ck:key<y.1.p.k
      ·have d:=decide_eq_true ck;rw[d] at hk;simp only[Bool.true_or] at hk;simp only[i1,cB.f2,cM.f0,bR.load,i4,xZ,d,cG,reduceIte,cT,Nat.reduceAdd];exact hk
      ·have d:=decide_eq_false ck;rw[d] at hk;simp only[aKn] at hk;simp only[i1,cB.f2,cM.f0,bR.load,i4,xZ,d,cG,reduceIte,cT,Nat.reduceAdd];exact hk
     | false=>
      rw[hj] at hk;simp only[wT,Bool.or_false] at hk;by_cases ck:key<y.1.p.k
      ·have d:=decide_eq_true ck;rw[d] at hk;simp only[d,cG,reduceIte,cT,Nat.reduceAdd];exact hk
      ·have d:=decide_eq_false ck;rw[d] at hk;simp only[d,cG,reduceIte,cT,Nat.reduceAdd];exact hk
    | false=>
     rw[hi] at hk;simp only[wT,aKn] at hk;simp only[i1,cB.f0,cB.f1,bT.load,i2,i3,hQ,cG,reduceIte,cT,Nat.reduceAdd];cases hj:y.1.i==IntKind.i64.wrap (y.1.n-1) with
     | true=>
      rw[hj] at hk;simp only[zLp] at hk;simp only[i1,cB.f2,cM.f0,bR.load,i4,xZ,cG,reduceIte,cT,Nat.reduceAdd];exact hk
     | false=>
      rw[hj] at hk;simp only[wT] at hk;simp only[cG,reduceIte,cT,Nat.reduceAdd];exact hk
   | y::z::r,S3,ll,hl2,hk,B3=>
    have q0:((((y::z::r).length:Nat):Int)==0)=false:=by simp;omega
    have q1:((((y::z::r).length:Nat):Int)==1)=false:=by simp;omega
    obtain⟨x,o,i1,i2,i3,i4,-⟩:=S3.lfc (j:=0) (y:=y) rfl;obtain⟨x',o',j1,j2,j3,j4,-⟩:=S3.lfc (j:=1) (y:=z) rfl;rw[show((0:Nat):Int)=0 from rfl] at i1;rw[show((1:Nat):Int)=1 from rfl] at j1;have hk:=hk h3 (B3.mono λa ha=>by simpa using ha) U3;have ht:aAO root ((y::z::r).map (·.1)) key=(y.1.n==z.1.n&&(IntKind.i64.wrap (y.1.i+1)==z.1.i)&&decide (y.1.p.k<key)&&decide (key<z.1.p.k)):=rfl;rw[ht] at hk;have hsw:(z.1.i==IntKind.i64.wrap (y.1.i+1))=(IntKind.i64.wrap (y.1.i+1)==z.1.i):=by
     rw[zLm];simp only[beq_iff_eq];exact eq_comm
    simp only[lv3,ll,hQ,q0,q1,i1,j1,cC.f1,cB.f0,cB.f1,cB.f2,cM.f0,fE,bT.load,bR.load,i2,i3,i4,j2,j3,j4,cG,reduceIte,cT,Nat.reduceAdd];cases h1':y.1.n==z.1.n with
    | false=>
     rw[h1'] at hk;simp only[wT] at hk;simp only[cG,reduceIte,cT,Nat.reduceAdd];exact hk
    | true=>
     rw[h1'] at hk;simp only[zLp] at hk;simp only[i1,j1,cB.f0,bT.load,i2,j2,hQ,hsw,cG,reduceIte,cT,Nat.reduceAdd];cases h2':IntKind.i64.wrap (y.1.i+1)==z.1.i with
     | false=>
      rw[h2'] at hk;simp only[wT] at hk;simp only[cG,reduceIte,cT,Nat.reduceAdd];exact hk
     | true=>
      rw[h2'] at hk;simp only[zLp] at hk;simp only[i1,cB.f2,cM.f0,bR.load,i4,xZ,cG,reduceIte,cT,Nat.reduceAdd];by_cases c3:y.1.p.k<key
      ·have d:=decide_eq_true c3;rw[d] at hk;simp only[zLp] at hk;simp only[j1,cB.f2,cM.f0,bR.load,j4,aNc,d,cG,reduceIte,cT,Nat.reduceAdd];exact hk
      ·have d:=decide_eq_false c3;rw[d] at hk;simp only[wT] at hk;simp only[d,cG,reduceIte,cT,Nat.reduceAdd];exact hk
end
section
open Go Bld
theorem aTZ:jK PG (buildSlice cJ 0 #[])=some (.cells #[] cM,λr=>pure (.slice (some ⟨r,0,none⟩) 0 0)):=by kernel_rfl
theorem aLt{h:PH}{v x:Value}{l ys:List Pr}{F:List Nat}(O:dZ h cM 2 v (l.map Pr.cells) F)(S:fR h 2 x (ys.map Pr.cells))(hl:l.length+ys.length≤1000000){t:TypeId}{k:cE}
  (hk:∀v' h' F',dZ h' cM 2 v' ((l++ys).map Pr.cells) F'->cU F h h'->(∀b∈F',b∈F∨h b=none)->k v' h'):cY PG (Builtin.append_ #[cJ,cJ] t #[v,x]) h k:=by
 refine jF cJ.und cJ.und cM.info cM.size cM.bytes cM.zero rfl (by decide) O S (Pr.isCell ys) (by simp;omega) ?_;intro v' h' F' O' u' k' _;rw[←qI] at O';exact hk v' h' F' O' u' k'
theorem uR.now{h h1 h':PH}{b:Nat}{s:St}{G F:List Nat}{n:List Pr}{nv bv v:Value}(H:uR h b s G)(hb:h b=some (.cells #[nv,.int .u64 ((s.height-(s.blocks.length-1):Nat):Int),bv] dM (0,0)))(u:cZ h h1)(O:dZ h1 cM 2 v (n.map Pr.cells) F)(fF:eD h F)(hok:St.Ok {s with now:=n})
  (e:h'=h1.set b (.cells #[v,.int .u64 ((s.height-(s.blocks.length-1):Nat):Int),bv] dM (0,0))):uR h' b {s with now:=n} (G++F)∧cU [b] h h'∧(∀g∈G++F,g∈G∨h g=none):=by
 subst e;obtain⟨nv',bv',bl,h1',h2,h3,h4,h5,h6,h7,h8,h9⟩:=H.here;rw[hb] at h1';simp only[zL8,Obj.cells.injEq,Array.mk.injEq,kV,and_true,true_and] at h1';obtain⟨rfl,rfl⟩:=h1';have uu:cU [b] h (h1.set b (.cells #[v,.int .u64 ((s.height-(s.blocks.length-1):Nat):Int),bv] dM (0,0))):=u.upd.trans (cU.set (by simp));have hG:∀g∈G,g∉[b]:=λg hg=>by simp only[fV];rintro rfl;exact h8 hg
 have hF:∀g∈F,g∉[b]:=λg hg=>by
  simp only[fV];rintro rfl;have:=fF _ hg;rw[hb] at this;cases this
 have O':=O.upd (cU.set (F:=[b]) (r:=b) (o:=(.cells #[v,.int .u64 ((s.height-(s.blocks.length-1):Nat):Int),bv] dM (0,0))) (by simp)) hF;refine⟨⟨⟨v,bv,bl,dL,O'.slR,h3.upd uu λa n c e=>hG _ (h7 a n c e),λx hx=>⟨(h4 x hx).1.upd uu λa n c e=>hG _ ((h4 x hx).2 a n c e),λa n c e=>zLk _ ((h4 x hx).2 a n c e)⟩,h5,λa n c e=>zLl _ (aF8 O' a n c e),λa n c e=>zLk _ (h7 a n c e),?_,λg hg=>?_⟩,hok⟩,uu,λg hg=>?_⟩
 ·intro hm;rcases jG.1 hm with hm|hm
  ·exact h8 hm
  ·exact hF _ hm (by simp)
 ·rcases jG.1 hg with hg|hg
  ·obtain⟨o,ho⟩:=aHO.1 (h9 g hg);rw[uu.get ho (hG g hg)];simp
  ·exact O'.known g hg
 ·rcases jG.1 hg with hg|hg
  ·exact .inl hg
  ·exact .inr (fF g hg)
theorem aXV{h:PH}{b:Nat}{s:St}{G:List Nat}(H:uR h b s G)(k v:Tx){kk:cE}(hk:∀h' G',uR h' b (aCY s k v).1 G'->cU [b] h h'->(∀g∈G',g∈G∨h g=none)->kk (.int .i64 (aCY s k v).2) h'):
  aT PG nC #[pT b 0,.string (tx k),.string (tx v)] h kk:=by
 apply xB.call;unfold xB;have fin1:(k.length<1∨16<k.length∨64<v.length)->kk (.int .i64 1) h:=λhb=>by
  have:=hk h G (by unfold aCY;rw[if_pos hb];exact H) cU.refl (λg hg=>.inl hg);unfold aCY at this;rw[if_pos hb] at this;exact this
 by_cases d1:k.length<1
 ·have g1:((k.length:Int)==0)=true:=by simp;exact zLN (by omega)
  simp only[bR.len,iB,g1,cG,reduceIte];exact fin1 (.inl d1)
 have g1:((k.length:Int)==0)=false:=by simp;rintro rfl;simp at d1
 by_cases d2:16<k.length
 ·have g2:((16:Int)<(k.length:Int))=True:=eq_true (by omega);simp only[bR.len,iB,g1,g2,cG,reduceIte];exact fin1 (.inr (.inl d2))
 have g2:((16:Int)<(k.length:Int))=False:=eq_false (by omega);by_cases d3:64<v.length
 ·have g3:((64:Int)<(v.length:Int))=True:=eq_true (by omega);simp only[bR.len,iB,g1,g2,g3,cG,reduceIte];exact fin1 (.inr (.inr d3))
 have g3:((64:Int)<(v.length:Int))=False:=eq_false (by omega);have hr:¬(k.length<1∨16<k.length∨64<v.length):=by omega
 have hok:=H.ok;have hH:=H;obtain⟨A,M,B,c⟩:=hok.up.cut k;obtain⟨nv,bv,bl,h1,h2,h3,h4,h5,h6,h7,h8,h9⟩:=H.here;have c0:dD h ⟨b,0,none⟩=some nv:=by simp[dD,h1]
 have hlen:s.now.length=A.length+(M.length+B.length):=by rw[c.eq];simp
 have hfew:=hok.few;have hget:=c.get hok.up;simp only[bR.len,iB,g1,g2,g3,cG,reduceIte];refine aOE H c ?_;obtain⟨w1,x1,x2⟩:=h2.cutP (lo:=some (.int .i64 (A.length:Int))) (hi:=none) (a:=A.length) (m:=s.now.length) (.inr ⟨_,rfl⟩) (.inl ⟨rfl,rfl⟩) (by omega) (oL _);rw[zLI] at x2;simp only[dM.f0,cJ.load,c0,x1,cG,reduceIte]
 -- what is left, laid
 have fin:∀t9,fR h 2 t9 (B.map Pr.cells)->¬(gG s.now k=none∧4096≤s.now.length)->rQ kk (pT b 0) (.string (tx k)) (.string (tx v)) (.int .i64 (A.length:Int)) t9 h:=by
  intro t9 S9 hc;unfold rQ;simp only[aTZ,cG,reduceIte];intro r hr';refine fI ?_
  try rw[cW]
  have u1:cZ h (h.set r (.cells #[] cM)):=cU.new hr';have O1:dZ (h.set r (.cells #[] cM)) cM 2 (.slice (some ⟨r,0,none⟩) 0 0) (([]:List Pr).map Pr.cells) [r]:=dZ.lit (n:=0) (Pr.rows []) dL (by simp) (by decide) rfl;generalize h.set r (.cells #[] cM)=h1' at *;have f1:eD h [r]:=eD.one hr';have hb1:=u1.get h1;have c0:dD h1' ⟨b,0,none⟩=some nv:=by simp[dD,hb1]
  obtain⟨w2,y1,y2⟩:=(h2.ext u1).cutP (lo:=none) (hi:=some (.int .i64 (A.length:Int))) (a:=0) (m:=A.length) (.inl ⟨rfl,rfl⟩) (.inr ⟨_,rfl⟩) (by omega) (by omega);have eA:(s.now.take A.length).drop 0=A:=by rw[zLb,c.eq,List.take_left]
  rw[eA] at y2;simp only[dM.f0,cJ.load,c0,y1,cG,reduceIte];refine aLt O1 y2 (by simp;omega) λv2 h2' F2 O2 u2 k2=>?_;rw[yF] at O2;have e2:cZ h h2':=u1.fresh u2 f1;have f2:eD h F2:=f1.grow u1 k2;have hpb:dA PG (build cM #[(0,.string (tx k)),(1,.string (tx v))])=some (Pr.val ⟨k,v⟩):=aQh ⟨k,v⟩;have hpl:=aTc ⟨k,v⟩;simp only[hpb,hpl,cG,reduceIte];intro r3 hr3;refine fI ?_
  try rw[cW]
  have u3:cZ h2' (h2'.set r3 (.cells #[.string (tx k),.string (tx v)] cM)):=cU.new hr3;have s3:fR (h2'.set r3 (.cells #[.string (tx k),.string (tx v)] cM)) 2 (.slice (some ⟨r3,0,none⟩) 1 1) ([(⟨k,v⟩:Pr)].map Pr.cells):=(dZ.lit (n:=1) (Pr.rows [⟨k,v⟩]) dL (by simp) (by decide) rfl).slR;generalize h2'.set r3 (.cells #[.string (tx k),.string (tx v)] cM)=h3' at *;have e3:cZ h h3':=e2.trans u3;refine aLt (O2.ext u3) s3 (by simp;omega) λv4 h4' F4 O4 u4 k4=>?_;have e4:cZ h h4':=e3.fresh u4 f2;have f4:eD h F4:=f2.grow e3 k4;refine aLt O4 (S9.ext e4) (by simp;omega) λv5 h5' F5 O5 u5 k5=>?_;have e5:cZ h h5':=e4.fresh u5 f4;have f5:eD h F5:=f4.grow e4 k5;have eL:(A++[(⟨k,v⟩:Pr)])++B=nH s.now ⟨k,v⟩:=by rw[c.set hok.up];simp
  rw[eL] at O5;have hb5:=e5.get h1;have hvc:fP v5=true:=by obtain⟨_,_,e,_⟩:=O5.slR.here;rw[e];rfl
  try simp only[dM.f0,cG,reduceIte]
  refine iU cJ.und rfl hb5 (by simp) hvc cJ.info cJ.size ?_;have hs:aCY s k v=({s with now:=nH s.now ⟨k,v⟩},0):=by unfold aCY;rw[if_neg hr,if_neg hc]
  rw[hs] at hk;obtain⟨q1,q2,q3⟩:=uR.now hH h1 e5 O5 f5 (hok.setOk hr hc) rfl;exact hk _ _ q1 q2 q3
 rcases c.mid with e|⟨q,e,e2⟩
 ·have gM:decide (M≠[])=false:=by simp[e]
  have hgn:gG s.now k=none:=by rw[gM] at hget;simpa using hget
  have eB:s.now.drop A.length=B:=by rw[c.eq,List.drop_left,e,yF]
  rw[eB] at x2;have ln:=h2.len (t':=bT) cJ.und;rw[iS] at ln;by_cases d4:4096≤s.now.length
  ·have g4:((4096:Int)≤(s.now.length:Int))=True:=eq_true (by omega);simp only[gM,dM.f0,cJ.load,c0,ln,g4,cG,reduceIte];have hs:aCY s k v=(s,2):=by unfold aCY;rw[if_neg hr,if_pos ⟨hgn,d4⟩]
   rw[hs] at hk;exact hk h G hH cU.refl (λg hg=>.inl hg)
  ·have g4:((4096:Int)≤(s.now.length:Int))=False:=eq_false (by omega);simp only[gM,dM.f0,cJ.load,c0,ln,g4,cG,reduceIte];exact fin w1 x2 (λh=>d4 h.2)
 ·have gM:decide (M≠[])=true:=by simp[e]
  have hgn:¬gG s.now k=none:=λh=>by rw[h,gM] at hget;simp at hget
  have gi:IntKind.i64.wrap ((A.length:Int)+1)=((A.length+1:Nat):Int):=by rw[eV (by omega) (by omega)];omega
  have hM1:M.length=1:=by rw[e];rfl
  obtain⟨w3,z1,z2⟩:=h2.cutP (lo:=some (.int .i64 ((A.length+1:Nat):Int))) (hi:=none) (a:=A.length+1) (m:=s.now.length) (.inr ⟨_,rfl⟩) (.inl ⟨rfl,rfl⟩) (by omega) (oL _);have eB:(s.now.take s.now.length).drop (A.length+1)=B:=by
   rw[zLI,c.eq,←mT];have:A.length+1=(A++M).length:=by rw[jP,hM1]
   rw[this,List.drop_left]
  rw[eB] at z2;simp only[gM,dM.f0,cJ.load,c0,gi,z1,cG,reduceIte];exact fin w3 z2 (λh=>hgn h.1)
theorem aWr{h:PH}{b:Nat}{s:St}{G:List Nat}(H:uR h b s G)(k:Tx){kk:cE}(hk:∀h' G',uR h' b (aFA s k).1 G'->cU [b] h h'->(∀g∈G',g∈G∨h g=none)->kk (.int .i64 (aFA s k).2) h'):
  aT PG nQ #[pT b 0,.string (tx k)] h kk:=by
 apply nD.call;unfold nD;have hok:=H.ok;have hH:=H;obtain⟨A,M,B,c⟩:=hok.up.cut k;obtain⟨nv,bv,bl,h1,h2,h3,h4,h5,h6,h7,h8,h9⟩:=H.here;have c0:dD h ⟨b,0,none⟩=some nv:=by simp[dD,h1]
 have hlen:s.now.length=A.length+(M.length+B.length):=by rw[c.eq];simp
 have hfew:=hok.few;have hget:=c.get hok.up;refine aOE H c ?_;rcases c.mid with e|⟨q,e,e2⟩
 ·have gM:decide (M≠[])=false:=by simp[e]
  have hgn:gG s.now k=none:=by rw[gM] at hget;simpa using hget
  simp only[gM,cG,reduceIte];have hs:aFA s k=(s,3):=by unfold aFA;rw[if_pos hgn]
  rw[hs] at hk;exact hk h G hH cU.refl (λg hg=>.inl hg)
 ·have gM:decide (M≠[])=true:=by simp[e]
  have hgn:¬gG s.now k=none:=λh=>by rw[h,gM] at hget;simp at hget
  have gi:IntKind.i64.wrap ((A.length:Int)+1)=((A.length+1:Nat):Int):=by rw[eV (by omega) (by omega)];omega
  have hM1:M.length=1:=by rw[e];rfl
  obtain⟨w3,z1,z2⟩:=h2.cutP (lo:=some (.int .i64 ((A.length+1:Nat):Int))) (hi:=none) (a:=A.length+1) (m:=s.now.length) (.inr ⟨_,rfl⟩) (.inl ⟨rfl,rfl⟩) (by omega) (oL _);have eB:(s.now.take s.now.length).drop (A.length+1)=B:=by
   rw[zLI,c.eq,←mT];have:A.length+1=(A++M).length:=by rw[jP,hM1]
   rw[this,List.drop_left]
  rw[eB] at z2;obtain⟨w2,y1,y2⟩:=h2.cutP (lo:=none) (hi:=some (.int .i64 (A.length:Int))) (a:=0) (m:=A.length) (.inl ⟨rfl,rfl⟩) (.inr ⟨_,rfl⟩) (by omega) (by omega);have eA:(s.now.take A.length).drop 0=A:=by rw[zLb,c.eq,List.take_left]
  rw[eA] at y2;simp only[gM,dM.f0,cJ.load,c0,gi,y1,z1,aTZ,cG,reduceIte];intro r hr';refine fI ?_
  try rw[cW]
  have u1:cZ h (h.set r (.cells #[] cM)):=cU.new hr';have O1:dZ (h.set r (.cells #[] cM)) cM 2 (.slice (some ⟨r,0,none⟩) 0 0) (([]:List Pr).map Pr.cells) [r]:=dZ.lit (n:=0) (Pr.rows []) dL (by simp) (by decide) rfl;generalize h.set r (.cells #[] cM)=h1' at *;have f1:eD h [r]:=eD.one hr';refine aLt O1 (y2.ext u1) (by simp;omega) λv2 h2' F2 O2 u2 k2=>?_;rw[yF] at O2;have e2:cZ h h2':=u1.fresh u2 f1;have f2:eD h F2:=f1.grow u1 k2;have hb2:=e2.get h1;refine⟨by simp[dD,hb2],?_⟩;refine aLt O2 (z2.ext e2) (by omega) λv5 h5' F5 O5 u5 k5=>?_;have e5:cZ h h5':=e2.fresh u5 f2;have f5:eD h F5:=f2.grow e2 k5;rw[←c.del] at O5;have hb5:=e5.get h1;have hvc:fP v5=true:=by obtain⟨_,_,e,_⟩:=O5.slR.here;rw[e];rfl
  try simp only[dM.f0,cG,reduceIte]
  refine iU cJ.und rfl hb5 (by simp) hvc cJ.info cJ.size ?_;have hs:aFA s k=({s with now:=tU s.now k},0):=by unfold aFA;rw[if_neg hgn]
  rw[hs] at hk;obtain⟨q1,q2,q3⟩:=uR.now hH h1 e5 O5 f5 ⟨hok.up.del _,λp hp=>hok.fit p (aPX.1 hp).1,zLD (aLy _ _) hok.few,hok.blk,hok.h1,hok.h2,hok.h3,hok.h4⟩ rfl;exact hk _ _ q1 q2 q3
theorem aBj{h:PH}{b:Nat}{s:St}{G:List Nat}(H:uR h b s G){kk:cE}(hk:kk (.int .u64 s.height) h):aT PG jH #[pT b 0] h kk:=by
 apply mY.call;unfold mY;have hok:=H.ok;obtain⟨nv,bv,bl,h1,h2,h3,h4,h5,h6,h7,h8,h9⟩:=H.here;have c1:dD h ⟨b,0+1,none⟩=some (.int .u64 ((s.height-(s.blocks.length-1):Nat):Int)):=by simp[dD,h1]
 have c2:dD h ⟨b,0+2,none⟩=some bv:=by simp[dD,h1]
 have ln:=h3.len (t':=bT) fC.und;rw[iS,show bl.length=s.blocks.length by rw[←h5,iS]] at ln;have a1:=hok.h1;have a2:=hok.h2;have a3:=hok.h3;have a4:=hok.h4;have e1:IntKind.i64.wrap ((s.blocks.length:Int)-1)=((s.blocks.length-1:Nat):Int):=by rw[eV (by omega) (by omega)];omega
 have e2:IntKind.u64.wrap ((s.blocks.length-1:Nat):Int)=((s.blocks.length-1:Nat):Int):=gL (by omega) (by omega);have e3:IntKind.u64.wrap (((s.height-(s.blocks.length-1):Nat):Int)+((s.blocks.length-1:Nat):Int))=(s.height:Int):=by rw[gL (by omega) (by omega)];omega
 simp only[dM.f1,dM.f2,cA.load,fC.load,c1,c2,ln,e1,aBZ,e2,e3,cG,reduceIte];exact hk
theorem aWF{h:PH}{v x:Value}{l ys:List (Value×List Pr)}{F:List Nat}(O:dZ h cJ 1 v (l.map aEj) F)(S:fR h 1 x (ys.map aEj))(hy:∀y∈ys,fP y.1=true)(hl:l.length+ys.length≤1000000){t:TypeId}{k:cE}
  (hk:∀v' h' F',dZ h' cJ 1 v' ((l++ys).map aEj) F'->cU F h h'->(∀b∈F',b∈F∨h b=none)->k v' h'):cY PG (Builtin.append_ #[fC,fC] t #[v,x]) h k:=by
 refine jF fC.und fC.und cJ.info cJ.size cJ.bytes cJ.zero rfl (by decide) O S ?_ (by simp;omega) ?_
 ·intro r hr u hu;obtain⟨y,hyy,rfl⟩:=lO.1 hr;simp only[aEj,fV] at hu;subst hu;exact hy y hyy
 intro v' h' F' O' u' k' _;rw[←qI] at O';exact hk v' h' F' O' u' k'
theorem aW8{h:PH}{b:Nat}{s:St}{G:List Nat}(H:uR h b s G){kk:cE}(hk:∀h' G',uR h' b (jW s).1 G'->cU [b] h h'->(∀g∈G',g∈G∨h g=none)->kk (.tuple #[.int .u64 ((jW s).2.1:Int),.int .i64 (jW s).2.2]) h'):
  aT PG wG #[pT b 0] h kk:=by
 apply mZ.call;unfold mZ;refine aBj H ?_;have hok:=H.ok;have hH:=H;have a1:=hok.h1;have a2:=hok.h2;have a3:=hok.h3;have a4:=hok.h4;by_cases d1:s.height=18446744073709551615
 ·have e1:IntKind.u64.wrap ((s.height:Int)+1)=0:=by
   rw[d1];rfl
  simp only[e1,show((0:Int)==0)=true from rfl,cG,reduceIte];have hs:jW s=(s,(0,12)):=by unfold jW;rw[if_pos d1]
  rw[hs] at hk;exact hk h G hH cU.refl (λg hg=>.inl hg)
 have e1:IntKind.u64.wrap ((s.height:Int)+1)=((s.height+1:Nat):Int):=by rw[gL (by omega) (by omega)];omega
 have g1:(((s.height+1:Nat):Int)==0)=false:=by simp;omega
 obtain⟨nv,bv,bl,h1,h2,h3,h4,h5,h6,h7,h8,h9⟩:=H.here;have c0:dD h ⟨b,0,none⟩=some nv:=by simp[dD,h1]
 have c2:dD h ⟨b,0+2,none⟩=some bv:=by simp[dD,h1]
 have ln:=h3.len (t':=bT) fC.und;have hbn:bl.length=s.blocks.length:=by rw[←h5,iS]
 rw[iS,hbn] at ln;by_cases d2:4096≤s.blocks.length
 ·have g2:((4096:Int)≤(s.blocks.length:Int))=True:=eq_true (by omega);simp only[e1,g1,dM.f2,fC.load,c2,ln,g2,cG,reduceIte];have hs:jW s=(s,(0,2)):=by unfold jW;rw[if_neg d1,if_pos d2]
  rw[hs] at hk;exact hk h G hH cU.refl (λg hg=>.inl hg)
 have g2:((4096:Int)≤(s.blocks.length:Int))=False:=eq_false (by omega);have l0:jK PG (buildSlice fC 0 #[])=some (.cells #[] cJ,λr=>pure (.slice (some ⟨r,0,none⟩) 0 0)):=by kernel_rfl
 simp only[e1,g1,dM.f0,dM.f2,cJ.load,fC.load,c0,c2,ln,g2,l0,cG,reduceIte];intro r hr';refine fI ?_
 try rw[cW]
 have u1:cZ h (h.set r (.cells #[] cJ)):=cU.new hr';have O1:dZ (h.set r (.cells #[] cJ)) cJ 1 (.slice (some ⟨r,0,none⟩) 0 0) (([]:List (Value×List Pr)).map aEj) [r]:=dZ.lit (n:=0) (aEj.rows []) dL (by simp) (by decide) rfl;generalize h.set r (.cells #[] cJ)=h1' at *;have f1:eD h [r]:=eD.one hr';refine aWF O1 (h3.ext u1) (λy hy=>(h4 y hy).1.isc) (by simp;omega) λv2 h2' F2 O2 u2 k2=>?_;rw[yF] at O2;have e2:cZ h h2':=u1.fresh u2 f1;have f2:eD h F2:=f1.grow u1 k2;have hb2:=e2.get h1;refine⟨by simp[dD,hb2],?_⟩;have hnl:∃a n c,nv= .slice a n c:=by obtain⟨a,c,e,_⟩:=h2.here;exact⟨a,_,c,e⟩
 have l1:jK PG (buildSlice fC 1 #[(0,nv)])=some (.cells #[nv] cJ,λr=>pure (.slice (some ⟨r,0,none⟩) 1 1)):=by
  obtain⟨a,n,c,rfl⟩:=hnl
  kernel_rfl
 simp only[l1,cG,reduceIte];intro r3 hr3;refine fI ?_
 try rw[cW]
 have u3:cZ h2' (h2'.set r3 (.cells #[nv] cJ)):=cU.new hr3;have s3:fR (h2'.set r3 (.cells #[nv] cJ)) 1 (.slice (some ⟨r3,0,none⟩) 1 1) ([((nv:Value),s.now)].map aEj):=(dZ.lit (n:=1) (aEj.rows [(nv,s.now)]) dL (by simp) (by decide) rfl).slR;generalize h2'.set r3 (.cells #[nv] cJ)=h3' at *;have e3:cZ h h3':=e2.trans u3;refine aWF (O2.ext u3) s3 (λy hy=>by simp only[fV] at hy;subst hy;exact h2.isc) (by simp;omega) λv5 h5' F5 O5 u5 k5=>?_;have e5:cZ h h5':=e3.fresh u5 f2;have f5:eD h F5:=f2.grow e3 k5;have hb5:=e5.get h1
 try simp only[dM.f2,cG,reduceIte]
 refine iU fC.und rfl hb5 (by simp) O5.slR.isc fC.info fC.size ?_;have ew:(#[nv,.int .u64 ((s.height-(s.blocks.length-1):Nat):Int),bv]:Array Value).setIfInBounds (0+2) v5= #[nv,.int .u64 ((s.height-(s.blocks.length-1):Nat):Int),v5]:=rfl;rw[ew];have u6:cU [b] h5' (h5'.set b (.cells #[nv,.int .u64 ((s.height-(s.blocks.length-1):Nat):Int),v5] dM (0,0))):=cU.set (by simp);have b6:(h5'.set b (.cells #[nv,.int .u64 ((s.height-(s.blocks.length-1):Nat):Int),v5] dM (0,0))) b=some (.cells #[nv,.int .u64 ((s.height-(s.blocks.length-1):Nat):Int),v5] dM (0,0)):=dL;generalize h5'.set b (.cells #[nv,.int .u64 ((s.height-(s.blocks.length-1):Nat):Int),v5] dM (0,0))=h6' at *;have hs:jW s=({s with blocks:=s.blocks++[s.now],height:=s.height+1},(s.height+1,0)):=by unfold jW;rw[if_neg d1,if_neg d2]
 rw[hs] at hk;have uu:cU [b] h h6':=e5.upd.trans u6;have hG:∀g∈G,g∉[b]:=λg hg=>by simp only[fV];rintro rfl;exact h8 hg
 have hF:∀g∈F5,g∉[b]:=λg hg=>by
  simp only[fV];rintro rfl;have:=f5 _ hg;rw[h1] at this;cases this
 have O6:=O5.upd u6 hF;have hnew:uR h6' b {s with blocks:=s.blocks++[s.now],height:=s.height+1} (G++F5):=by
  refine⟨⟨nv,v5,bl++[(nv,s.now)],?_,h2.upd uu λa n c e=>hG _ (h6 a n c e),O6.slR,λx hx=>?_,by rw[qI,h5];rfl,λa n c e=>zLk _ (h6 a n c e),λa n c e=>zLl _ (aF8 O6 a n c e),?_,λg hg=>?_⟩,?_⟩
  ·have eh:s.height+1-((s.blocks++[s.now]).length-1)=s.height-(s.blocks.length-1):=by
    simp only[jP,zLS];omega
   show h6' b=some (.cells #[nv,.int .u64 ((s.height+1-((s.blocks++[s.now]).length-1):Nat):Int),v5] dM (0,0));rw[eh];exact b6
  ·rw[jG] at hx;rcases hx with hx|hx
   ·exact⟨(h4 x hx).1.upd uu λa n c e=>hG _ ((h4 x hx).2 a n c e),λa n c e=>zLk _ ((h4 x hx).2 a n c e)⟩
   ·simp only[fV] at hx;subst hx;exact⟨h2.upd uu λa n c e=>hG _ (h6 a n c e),λa n c e=>zLk _ (h6 a n c e)⟩
  ·intro hm;rcases jG.1 hm with hm|hm
   ·exact h8 hm
   ·exact hF _ hm (by simp)
  ·rcases jG.1 hg with hg|hg
   ·obtain⟨o,ho⟩:=aHO.1 (h9 g hg);rw[uu.get ho (hG g hg)];simp
   ·exact O6.known g hg
  ·refine⟨hok.up,hok.fit,hok.few,λb hb=>?_,?_,?_,?_,?_⟩
   ·simp only[jG,fV] at hb;rcases hb with hb|rfl
    ·exact hok.blk b hb
    ·exact⟨hok.up,hok.fit,hok.few⟩
   ·simp
   ·simp only[jP,zLS];omega
   ·simp only[jP,zLS];omega
   ·show s.height+1<18446744073709551616;omega
 refine aBj hnew ?_;refine hk h6' (G++F5) hnew uu λg hg=>?_;rcases jG.1 hg with hg|hg
 ·exact .inl hg
 ·exact .inr (f5 g hg)
structure SAc where
 kind:Int
 key:Tx
 val:Tx
def SAc.cells(c:SAc):List Value:=[.int .i64 c.kind,.string (tx c.key),.string (tx c.val)]
def SAc.v(c:SAc):Value:=.agg c.cells.toArray
theorem SAc.rows(l:List SAc):Rows 3 (l.map SAc.cells):=λr hr=>by
 obtain⟨p,-,rfl⟩:=lO.1 hr;rfl
end
section
open Go
theorem aHy{h:PH}(p:Pk)(hs0:0≤p.s)(ht0:0≤p.t){k:cE}(hk:∀h',cZ h h'->k (.bool p.right) h'):aT PG nR #[.agg p.cells.toArray] h k:=by
 apply aBJ.call;unfold aBJ;intro r hr;rw[cW];have u:cZ h (h.set r (.cells (Value.cells (.agg p.cells.toArray)) aR)):=cU.new hr;have b:Bx (h.set r (.cells (Value.cells (.agg p.cells.toArray)) aR)) r p.cells:=Bx.new;generalize h.set r (.cells (Value.cells (.agg p.cells.toArray)) aR)=h1 at *;have c0:dD h1 ⟨r,0,none⟩=some (.int .i64 p.f):=b.cell 0;have c1:dD h1 ⟨r,0+1,none⟩=some (.int .u64 p.s):=b.cell 1;have c2:dD h1 ⟨r,0+2,none⟩=some (.int .u64 p.t):=b.cell 2;have c3:dD h1 ⟨r,0+3,none⟩=some (.string p.d):=b.cell 3;have hk:=hk h1 u;unfold Pk.right at hk;have hf:(p.f=0∨p.f=1)∨(p.f<0∨1<p.f):=by omega
 rcases hf with hf|hf
 ·have g1:(0≤p.f)=True:=by apply eq_true;omega
  have g2:(p.f≤1)=True:=by apply eq_true;omega
  have go:cD PG h1 (loadAt bT (pT r 0))=some (.int .i64 p.f):=by rw[bT.load,c0]
  have first:∀X:Prop,X->X:=λ_ x=>x
  by_cases h3:p.s=0
  ·have e3:((0:Int)<p.s)=False:=by apply eq_false;omega
   have e3':(p.s≠0)=False:=by simp[h3]
   simp only[g1,g2,e3',decide_false,wT,aFu,cG,reduceIte] at hk;rcases hf with hf|hf
   ·have d0:(p.f==0)=true:=by simp[hf]
    simp only[aR.f0,aR.f1,aR.f2,aR.f3,bT.load,cA.load,bR.load,c0,d0,c1,e3,cG,reduceIte];exact hk
   ·have d0:(p.f==0)=false:=by simp[hf]
    have d1:(p.f==1)=true:=by simp[hf]
    simp only[aR.f0,aR.f1,aR.f2,aR.f3,bT.load,cA.load,bR.load,c0,d0,d1,c1,e3,cG,reduceIte];exact hk
  ·have e3:((0:Int)<p.s)=True:=by apply eq_true;omega
   have e3':(p.s≠0)=True:=by simp[h3]
   by_cases h4:p.t=0
   ·have e4:((0:Int)<p.t)=False:=by apply eq_false;omega
    have e4':(p.t≠0)=False:=by simp[h4]
    simp only[g1,g2,e3',e4',decide_false,wT,aFu,cG,reduceIte] at hk;rcases hf with hf|hf
    ·have d0:(p.f==0)=true:=by simp[hf]
     simp only[aR.f0,aR.f1,aR.f2,aR.f3,bT.load,cA.load,bR.load,c0,d0,c1,e3,c2,e4,cG,reduceIte];exact hk
    ·have d0:(p.f==0)=false:=by simp[hf]
     have d1:(p.f==1)=true:=by simp[hf]
     simp only[aR.f0,aR.f1,aR.f2,aR.f3,bT.load,cA.load,bR.load,c0,d0,d1,c1,e3,c2,e4,cG,reduceIte];exact hk
   ·have e4:((0:Int)<p.t)=True:=by apply eq_true;omega
    have e4':(p.t≠0)=True:=by simp[h4]
    have e5:decide ((p.d.size:Int)≤64)=decide (p.d.size≤64):=by
     rw[zLm];simp only[decide_eq_true_eq];omega
    simp only[g1,g2,e3',e4',Bool.and_self,zLp,cG,reduceIte] at hk;rcases hf with hf|hf
    ·have d0:(p.f==0)=true:=by simp[hf]
     simp only[aR.f0,aR.f1,aR.f2,aR.f3,bT.load,cA.load,bR.load,c0,d0,c1,e3,c2,e4,c3,lP bR.und,e5,cG,reduceIte];exact hk
    ·have d0:(p.f==0)=false:=by simp[hf]
     have d1:(p.f==1)=true:=by simp[hf]
     simp only[aR.f0,aR.f1,aR.f2,aR.f3,bT.load,cA.load,bR.load,c0,d0,d1,c1,e3,c2,e4,c3,lP bR.und,e5,cG,reduceIte];exact hk
 ·have d0:(p.f==0)=false:=by simp;omega
  have d1:(p.f==1)=false:=by simp;omega
  have g:(decide (0≤p.f)&&decide (p.f≤1))=false:=by
   rw[Bool.and_eq_false_iff];simp only[decide_eq_false_iff_not];omega
  simp only[g,wT] at hk;simp only[aR.f0,bT.load,c0,d0,d1,cG,reduceIte];exact hk
def oT(p:Pk):List Tx:=if p.right then [p.bs] else []
def aFw(p:Pk):List Tx:=if p.right then [[97,99,107]++p.bs] else []
theorem aKe{h:PH}{b m:Nat}{A:List Tx}{K:List Nat}(H:Bk b m A K h){p:Pk}(w:p.wf){k:cE}(hk:∀h',Bk b m (oT p++A) K h'->cU [b,m] h h'->k (.string (tx (mN p))) h'):
  aT PG oN #[pT b 0,p.v] h k:=by
 apply vT.call;unfold vT;intro r1 hr1
 try rw[cW]
 have u1:cZ h (h.set r1 (.cells (Value.cells p.v) aR)):=cU.new hr1;have B1:Bx (h.set r1 (.cells (Value.cells p.v) aR)) r1 p.cells:=Bx.new;generalize h.set r1 (.cells (Value.cells p.v) aR)=h1 at *;have lp:∀{h':PH},cZ h1 h'->cD PG h' (loadAt aR (pT r1 0))=some (.agg p.cells.toArray):=λu=>(B1.ext u).pk rfl;simp only[lp cU.refl,cG,reduceIte,cT,Nat.reduceAdd];refine aHy p w.1 w.2.2.1 λh2 u2=>?_;unfold oT mN aHA at hk;cases hr:p.right with
 | false=>
  simp only[hr,zLt,if_false,yF] at hk;simp only[aBX,cG,reduceIte,cT,Nat.reduceAdd];exact hk h2 (H.ext (u1.trans u2)) (u1.trans u2).upd
 | true=>
  simp only[hr,if_true] at hk;simp only[lp u2,cG,reduceIte,cT,Nat.reduceAdd];refine aNW w hr λh3 u3=>?_;have e3:=(u1.trans u2).trans u3;have hb:=aM1 hr;refine aMN (H.ext e3) (by omega) λh4 B4 u4=>?_;exact hk h4 B4 (e3.upd.trans u4)
theorem aNG{h:PH}{b m:Nat}{A:List Tx}{K:List Nat}(H:Bk b m A K h){p:Pk}(w:p.wf){k:cE}(hk:∀h',Bk b m (aFw p++A) K h'->cU [b,m] h h'->k (.string (tx (aBs p))) h'):
  aT PG wX #[pT b 0,p.v] h k:=by
 apply aAs.call;unfold aAs;intro r1 hr1
 try rw[cW]
 have u1:cZ h (h.set r1 (.cells (Value.cells p.v) aR)):=cU.new hr1;have B1:Bx (h.set r1 (.cells (Value.cells p.v) aR)) r1 p.cells:=Bx.new;generalize h.set r1 (.cells (Value.cells p.v) aR)=h1 at *;have lp:∀{h':PH},cZ h1 h'->cD PG h' (loadAt aR (pT r1 0))=some (.agg p.cells.toArray):=λu=>(B1.ext u).pk rfl;simp only[lp cU.refl,cG,reduceIte,cT,Nat.reduceAdd];refine aHy p w.1 w.2.2.1 λh2 u2=>?_;unfold aFw aBs aHA at hk;cases hr:p.right with
 | false=>
  simp only[hr,zLt,if_false,yF] at hk;simp only[aBX,cG,reduceIte,cT,Nat.reduceAdd];exact hk h2 (H.ext (u1.trans u2)) (u1.trans u2).upd
 | true=>
  simp only[hr,if_true] at hk;simp only[lp u2,cG,reduceIte,cT,Nat.reduceAdd];refine aNW w hr λh3 u3=>?_;have e3:=(u1.trans u2).trans u3;have hb:=aM1 hr;have qa:({data:=#[97,99,107]}:ByteArray)=tx [97,99,107]:=rfl;have s1:dA PG (binOp .add bR (.string (tx [97,99,107])) (.string (tx p.bs)))=some (.string (tx ([97,99,107]++p.bs))):=lJ (by simp;omega);simp only[qa,s1,cG,reduceIte,cT,Nat.reduceAdd];refine aMN (H.ext e3) (by simp;omega) λh4 B4 u4=>?_;exact hk h4 B4 (e3.upd.trans u4)
structure Ch.DOk(s:Ch):Prop where
 id:s.id=0∨s.id=1
 seq:s.seq<18446744073709551616
 rk:∃hs,qY hs s.cl
 few:s.cl.length≤4096
 pos:∀y∈hts s.cl,0≤y∧y<18446744073709551616
def rF(b m:Nat)(A:List Tx)(K:List Nat):mC:=λh F=>F=b::m::K∧Bk b m A K h
theorem rF.good(b m:Nat)(A:List Tx)(K:List Nat):lX (rF b m A K):=⟨λ⟨e,H⟩ x hx=>H.known x (e▸hx),λ⟨e,H⟩ u hK=>⟨e,H.upd u (λx hx=>hK x (e▸hx))⟩⟩
def rsA(sp:Nat)(s:St):mC:=λh F=>∃G,uR h sp s G∧F=sp::G
theorem rsA.good(sp:Nat)(s:St):lX (rsA sp s):=⟨λ⟨G,H,e⟩ x hx=>H.known x (e▸hx),λ⟨G,H,e⟩ u hK=>⟨G,H.upd u (hK _ (by rw[e];simp)) (λg hg=>hK g (by rw[e];simp[hg])),e⟩⟩
def krA(cp:Nat)(l:List gY):mC:=λh F=>xI h cp l F
theorem krA.good(cp:Nat)(l:List gY):lX (krA cp l):=⟨λH=>xI.known H,λH u hK=>xI.upd H u hK⟩
def noA(w:Value)(n:Nat):mC:=λh F=>∃ns:List Nt,dZ h fZ 5 w (ns.map Nt.cells) F∧ns.length≤n
theorem noA.good(w:Value)(n:Nat):lX (noA w n):=⟨λ⟨_,O,_⟩=>O.known,λ⟨ns,O,l⟩ u hK=>⟨ns,O.upd u hK,l⟩⟩
def boA(v:Value)(n:Nat):mC:=λh F=>∃rows:List (List Value),dZ h dQ 1 v rows F∧rows.length≤n∧∀r∈rows,∀u∈r,fP u=true
theorem boA.good(v:Value)(n:Nat):lX (boA v n):=⟨λ⟨_,O,_⟩=>O.known,λ⟨ns,O,l⟩ u hK=>⟨ns,O.upd u hK,l⟩⟩
def Ch.dcells(s:Ch)(b sp cp:Nat)(bv nv:Value):List Value:=[pT b 0,.int .i64 s.id,pT sp 0,pT cp 0,.int .u64 (s.seq:Int),bv,nv]
def lV(c:Nat)(cs:List Value)(sp:Nat)(st:St)(cp:Nat)(cl:List gY)(bv nv:Value)(n:Nat):mC:=eO (wD c cs) (eO (rsA sp st) (eO (krA cp cl) (eO (boA bv n) (noA nv n))))
def DC(c b:Nat)(s:Ch)(n:Nat):mC:=λh F=>∃sp cp bv nv,lV c (s.dcells b sp cp bv nv) sp s.st cp s.cl bv nv n h F
theorem lV.good{c:Nat}{cs:List Value}{sp:Nat}{st:St}{cp:Nat}{cl:List gY}{bv nv:Value}{n:Nat}:lX (lV c cs sp st cp cl bv nv n):=(wD.good _ _).star ((rsA.good _ _).star ((krA.good _ _).star ((boA.good _ _).star (noA.good _ _))))
theorem DC.good(c b:Nat)(s:Ch)(n:Nat):lX (DC c b s n):=⟨λ⟨_,_,_,_,H⟩=>lV.good.known H,λ⟨a,b,c,d,H⟩ u hK=>⟨a,b,c,d,lV.good.upd H u hK⟩⟩
section
variable{c:Nat}{cs:List Value}{sp:Nat}{st:St}{cp:Nat}{cl:List gY}{bv nv:Value}{n:Nat}{h:PH}{F:List Nat}(H:lV c cs sp st cp cl bv nv n h F)
include H
theorem lV.fBox:aBK h F (wD c cs) (λX=>eO X (eO (rsA sp st) (eO (krA cp cl) (eO (boA bv n) (noA nv n))))):=eO.left ((rsA.good _ _).star ((krA.good _ _).star ((boA.good _ _).star (noA.good _ _)))) H
theorem lV.fSt:aBK h F (rsA sp st) (λX=>eO (wD c cs) (eO X (eO (krA cp cl) (eO (boA bv n) (noA nv n))))):=(eO.right (wD.good _ _) H).comp λ_ H=>eO.left ((krA.good _ _).star ((boA.good _ _).star (noA.good _ _))) H
theorem lV.fCl:aBK h F (krA cp cl) (λX=>eO (wD c cs) (eO (rsA sp st) (eO X (eO (boA bv n) (noA nv n))))):=(eO.right (wD.good _ _) H).comp λ_ H=>(eO.right (rsA.good _ _) H).comp λ_ H=>eO.left ((boA.good _ _).star (noA.good _ _)) H
theorem lV.fTwo:aBK h F (eO (boA bv n) (noA nv n)) (λX=>eO (wD c cs) (eO (rsA sp st) (eO (krA cp cl) X))):=(eO.right (wD.good _ _) H).comp λ_ H=>(eO.right (rsA.good _ _) H).comp λ_ H=>eO.right (krA.good _ _) H
theorem lV.cell:Bx h c cs:=by
 obtain⟨Fa,⟨-,B⟩,-,-⟩:=lV.fBox H;exact B
theorem lV.okst:st.Ok:=by
 obtain⟨Fs,⟨G,S,-⟩,-,-⟩:=lV.fSt H;exact S.ok
end
section
variable{h:PH}{c:Nat}{s:Ch}{b sp cp:Nat}{bv nv:Value}(B:Bx h c (s.dcells b sp cp bv nv))
include B
theorem dl0:cD PG h (loadAt fX (pT c 0))=some (pT b 0):=by rw[fX.load,B.cell];rfl
theorem dl1:cD PG h (loadAt bT (pT c 1))=some (.int .i64 s.id):=by rw[bT.load,B.cell];rfl
theorem dl2:cD PG h (loadAt eS (pT c 2))=some (pT sp 0):=by rw[eS.load,B.cell];rfl
theorem dl3:cD PG h (loadAt jO (pT c 3))=some (pT cp 0):=by rw[jO.load,B.cell];rfl
theorem dl4:cD PG h (loadAt cA (pT c 4))=some (.int .u64 (s.seq:Int)):=by rw[cA.load,B.cell];rfl
theorem dl5:cD PG h (loadAt eQ (pT c 5))=some bv:=by rw[eQ.load,B.cell];rfl
theorem dl6:cD PG h (loadAt dQ (pT c 6))=some nv:=by rw[dQ.load,B.cell];rfl
end
theorem aYN(k:Int)(p:Pk):dA PG (build fZ #[(0,.int .i64 k),(1,.agg p.cells.toArray)])=some (.agg (Nt.cells ⟨k,p⟩).toArray):=by kernel_rfl
theorem aY5:jK PG (buildSlice dQ 0 #[])=some (.cells #[] fZ,λr=>pure (.slice (some ⟨r,0,none⟩) 0 0)):=by kernel_rfl
theorem aQP{h:PH}{c b:Nat}{s:Ch}{n:Nat}{F:List Nat}(H:DC c b s n h F)(m:Nat)(hm:m≤10){k:cE}(hk:k (.bool (decide (s.st.now.length+m≤4096))) h):aT PG rT #[pT c 0,.int .i64 (m:Int)] h k:=by
 apply vW.call;unfold vW;obtain⟨sp,cp,bv,nv,P⟩:=H;have hfew:=P.okst.few;obtain⟨Fs,⟨G,S,-⟩,-,-⟩:=P.fSt;obtain⟨nv',bv',bl,h1,h2,-⟩:=S.here;have l0:cD PG h (loadAt cJ (pT sp 0))=some nv':=by rw[cJ.load];simp[dD,h1]
 have ll:=h2.len (t':=bT) cJ.und;rw[iS] at ll;have w:IntKind.i64.wrap ((s.st.now.length:Int)+(m:Int))=((s.st.now.length+m:Nat):Int):=by rw[eV (by omega) (by omega)];omega
 have d:decide (((s.st.now.length+m:Nat):Int)≤4096)=decide (s.st.now.length+m≤4096):=by
  rw[zLm];simp only[decide_eq_true_eq];omega
 simp only[cQ.f2,dM.f0,fE,dl2 P.cell,l0,ll,w,d,cG,reduceIte,cT,Nat.reduceAdd];exact hk
theorem aKi{h:PH}{c b:Nat}{s:Ch}{n:Nat}{F:List Nat}(H:DC c b s n h F)(hn:n≤10000)(kind:Int)(p:Pk){k:cE}(hk:∀h' F',DC c b s (n+1) h' F'->iX h F h' F'->k (.tuple #[]) h'):
  aT PG mP #[pT c 0,.int .i64 kind,p.v] h k:=by
 apply oD.call;unfold oD;obtain⟨sp,cp,bv,nv,P⟩:=H;intro r1 hr1
 try rw[cW]
 have u1:cZ h (h.set r1 (.cells (Value.cells p.v) aR)):=cU.new hr1;have B1:Bx (h.set r1 (.cells (Value.cells p.v) aR)) r1 p.cells:=Bx.new;generalize h.set r1 (.cells (Value.cells p.v) aR)=h1 at *;have P1:=lV.good.ext P u1;have lp:∀{h':PH},cZ h1 h'->cD PG h' (loadAt aR (pT r1 0))=some (.agg p.cells.toArray):=λu=>(B1.ext u).pk rfl;obtain⟨Ft,⟨Fb,Fn,rfl,⟨rows,Ob,lb,cb⟩,⟨ns,On,ln⟩,hd⟩,hFt,back⟩:=P1.fTwo;simp only[cQ.f6,fE,dl6 P1.cell,lp cU.refl,aYN,aY5,cG,reduceIte,cT,Nat.reduceAdd];intro r8 hr8;refine fI ?_
 try rw[cW]
 have u2:cZ h1 (h1.set r8 (.cells #[] fZ)):=cU.new hr8;have O2:dZ (h1.set r8 (.cells #[] fZ)) fZ 5 (.slice (some ⟨r8,0,none⟩) 0 0) (([]:List Nt).map Nt.cells) [r8]:=dZ.lit (n:=0) (Nt.rows []) dL (by simp) (by decide) rfl;generalize h1.set r8 (.cells #[] fZ)=h2 at *;refine jF dQ.und dQ.und fZ.info fZ.size fZ.bytes fZ.zero rfl (by decide) O2 (On.ext u2).slR (Nt.isC _) (by simp only[iS,zLM];omega) ?_;intro v3 h3 F3 O3 u3 k3 _;rw[iT,yF] at O3;have e13:cZ h1 h3:=u2.fresh u3 (eD.one hr8);have f3:eD h1 F3:=λx hx=>by
  rcases k3 x hx with hx|hx
  ·simp only[fV] at hx;subst hx;exact hr8
  ·exact u2.none hx
 refine⟨lp e13,?_⟩;simp only[aVx,cG,reduceIte,cT,Nat.reduceAdd];intro r14 hr14;refine fI ?_
 try rw[cW]
 have u4:cZ h3 (h3.set r14 (.cells (Nt.cells ⟨kind,p⟩).toArray fZ (0,0))):=cU.new hr14;have S4:fR (h3.set r14 (.cells (Nt.cells ⟨kind,p⟩).toArray fZ (0,0))) 5 (.slice (some ⟨r14,0,none⟩) 1 1) ([(⟨kind,p⟩:Nt)].map Nt.cells):=(dZ.lit (n:=1) (Nt.rows [⟨kind,p⟩]) dL (by simp) (by decide) (by simp)).slR;generalize h3.set r14 (.cells (Nt.cells ⟨kind,p⟩).toArray fZ (0,0))=h4 at *;refine jF dQ.und dQ.und fZ.info fZ.size fZ.bytes fZ.zero rfl (by decide) (O3.ext u4) S4 (Nt.isC _) (by simp only[iS,zLS];omega) ?_;intro v5 h5 F5 O5 u5 k5 _;rw[←qI] at O5;have e15:cZ h1 h5:=(e13.trans u4).fresh u5 f3;have f5:eD h1 F5:=f3.grow (e13.trans u4) k5;have N5:noA v5 (n+1) h5 F5:=⟨ns++[⟨kind,p⟩],O5,by simp;omega⟩;have W5:eO (boA bv (n+1)) (noA v5 (n+1)) h5 (Fb++F5):=eO.mk ⟨rows,Ob.ext e15,by omega,cb⟩ N5 (λx hx hx5=>Ob.known x hx (f5 x hx5));obtain⟨F6,P6,s6⟩:=back _ h5 _ W5 ⟨e15.upd,λx hx=>by
  rcases jG.1 hx with hx|hx
  ·exact .inl (by simp[hx])
  ·exact .inr (f5 x hx)⟩
 have P6:lV c (s.dcells b sp cp bv nv) sp s.st cp s.cl bv v5 (n+1) h5 F6:=P6;obtain⟨Fx,⟨rfl,X6⟩,hFx,back2⟩:=P6.fBox;refine dQ.put X6 (o:=6) (by show 6<7;decide) O5.slR.isc λh7 X7 u7=>?_;have X7:Bx h7 c (s.dcells b sp cp bv v5):=X7;obtain⟨F8,P8,s8⟩:=back2 (wD c (s.dcells b sp cp bv v5)) h7 [c] ⟨rfl,X7⟩ ⟨u7,λx hx=>.inl hx⟩;refine hk h7 F8 ⟨sp,cp,bv,v5,P8⟩ ?_;exact((iX.ext u1).trans s6).trans s8
theorem aPW{a b c d:Tx}(h:rS a b=rS c d)(hb:b.length=d.length):a=c∧b=d:=by
 unfold rS at h;simp only[kV,true_and] at h;exact List.append_inj' h hb
theorem aMP{n m:Nat}(hn:n<18446744073709551616)(hm:m<18446744073709551616)(h:be n 8=be m 8):n=m:=by
 have:=congrArg val h;rw[aL7,aL7,aCk (show n<256^8 by omega),aCk (show m<256^8 by omega)] at this;exact this
theorem aQr{n m:Nat}{d e:Tx}(hn:n<18446744073709551616)(hm:m<18446744073709551616)(h:aHF n d=aHF m e):n=m∧d=e:=by
 unfold aHF at h;simp only[kV,true_and] at h;obtain⟨h1,h2⟩:=List.append_inj h (by rw[iC,iC]);exact⟨aMP hn hm h1,h2⟩
theorem aYv{n m:Nat}(hn:n<256)(hm:m<256)(h:UInt8.ofNat (n%256)=UInt8.ofNat (m%256)):n=m:=by
 have:=congrArg UInt8.toNat h;simp at this;omega
theorem aUJ{p q:Pr}(hk:q.k.length≤16)(hv:q.v.length≤64)(h:aAn p=aAn q):p=q:=by
 unfold aAn at h;simp only[kV,true_and] at h;obtain⟨h1,h2⟩:=h;have hl:=congrArg List.length h2;simp only[jP,rN] at hl;have hkl:p.k.length=q.k.length:=aYv (by omega) (by omega) h1;obtain⟨e1,e2⟩:=List.append_inj h2 hkl;simp only[kV] at e2;obtain⟨pk,pv⟩:=p;obtain⟨qk,qv⟩:=q;simp only at e1 e2;rw[e1,e2.2]
theorem aYy{p:Pr}{i n:Nat}{path:List Tx}(h2:2≤n)(hi:i<dT n):oM p i n path=oP (rS (oM p i (dT n) path) (path.getD (gF i n-1) [])):=by
 rw[oM,dif_pos h2,if_pos hi];rfl
theorem aZS{p:Pr}{i n:Nat}{path:List Tx}(h2:2≤n)(hi:¬i<dT n):oM p i n path=oP (rS (path.getD (gF i n-1) []) (oM p (i-dT n) (n-dT n) path)):=by
 rw[oM,dif_pos h2,if_neg hi];rfl
theorem aY3{p:Pr}{i n:Nat}{path:List Tx}(h2:¬2≤n):oM p i n path=oP (aAn p):=by
 rw[oM,dif_neg h2];rfl
theorem aWC{p:Pr}{i n:Nat}{path:List Tx}(h2:2≤n)(hi:i<dT n):upA p i n path=rS (oM p i (dT n) path) (path.getD (gF i n-1) [])::upA p i (dT n) path:=by
 rw[upA,dif_pos h2,if_pos hi]
theorem aWT{p:Pr}{i n:Nat}{path:List Tx}(h2:2≤n)(hi:¬i<dT n):upA p i n path=rS (path.getD (gF i n-1) []) (oM p (i-dT n) (n-dT n) path)::upA p (i-dT n) (n-dT n) path:=by
 rw[upA,dif_pos h2,if_neg hi]
theorem aY8{p:Pr}{i n:Nat}{path:List Tx}(h2:¬2≤n):upA p i n path=[aAn p]:=by
 rw[upA,dif_neg h2]
theorem aXR(n:Nat)(p:Pr)(i:Nat)(path:List Tx):∃t∈upA p i n path,oP t=oM p i n path∧(if 2≤n then(if i<dT n then t=rS (oM p i (dT n) path) (path.getD (gF i n-1) []) else t=rS (path.getD (gF i n-1) []) (oM p (i-dT n) (n-dT n) path)) else t=aAn p):=by
 by_cases h2:2≤n
 ·by_cases hi:i<dT n
  ·exact⟨_,by rw[aWC h2 hi];exact aIv,(aYy h2 hi).symm,by rw[if_pos h2,if_pos hi]⟩
  ·exact⟨_,by rw[aWT h2 hi];exact aIv,(aZS h2 hi).symm,by rw[if_pos h2,if_neg hi]⟩
 ·exact⟨_,by rw[aY8 h2];exact aIv,(aY3 h2).symm,by rw[if_neg h2]⟩
theorem aQF{l:List Pr}(h2:2≤l.length):aAd l=rS (lU (l.take (dT l.length))) (lU (l.drop (dT l.length)))::(aAd (l.drop (dT l.length))++aAd (l.take (dT l.length))):=by
 rw[aAd,dif_pos h2]
theorem aX1{l:List Pr}(h2:¬2≤l.length):aAd l=[aAn (l.headD ⟨[],[]⟩)]:=by
 rw[aAd,dif_neg h2]
theorem aYg{l:List Pr}(h2:2≤l.length):lU l=oP (rS (lU (l.take (dT l.length))) (lU (l.drop (dT l.length)))):=by
 rw[lU,dif_pos h2];rfl
theorem aYd{l:List Pr}(h2:¬2≤l.length):lU l=oP (aAn (l.headD ⟨[],[]⟩)):=by
 rw[lU,dif_neg h2];rfl
theorem aVG(l:List Pr):∃t∈aAd l,oP t=lU l∧(if 2≤l.length then t=rS (lU (l.take (dT l.length))) (lU (l.drop (dT l.length))) else t=aAn (l.headD ⟨[],[]⟩)):=by
 by_cases h2:2≤l.length
 ·exact⟨_,by rw[aQF h2];exact aIv,(aYg h2).symm,by rw[if_pos h2]⟩
 ·exact⟨_,by rw[aX1 h2];exact aIv,(aYd h2).symm,by rw[if_neg h2]⟩
theorem aVK{p:Pr}{i n:Nat}{path:List Tx}(h2:2≤n)(hi:i<dT n):∀t∈upA p i (dT n) path,t∈upA p i n path:=λt ht=>by
 rw[aWC h2 hi];exact aKa _ ht
theorem aTi{p:Pr}{i n:Nat}{path:List Tx}(h2:2≤n)(hi:¬i<dT n):∀t∈upA p (i-dT n) (n-dT n) path,t∈upA p i n path:=λt ht=>by
 rw[aWT h2 hi];exact aKa _ ht
theorem aUP{l:List Pr}(h2:2≤l.length):∀t∈aAd (l.take (dT l.length)),t∈aAd l:=λt ht=>by
 rw[aQF h2];simp[ht]
theorem aSd{l:List Pr}(h2:2≤l.length):∀t∈aAd (l.drop (dT l.length)),t∈aAd l:=λt ht=>by
 rw[aQF h2];simp[ht]
theorem aVl:∀(n:Nat) {l:List Pr} {p:Pr} {i:Nat} {path:List Tx},l.length=n->1≤n->i<n->(∀q∈l,q.k.length≤16∧q.v.length≤64)->gF i n≤path.length->(∀d∈path,d.length=32)->∀{A:List Tx},aHM A->(∀t∈upA p i n path,t∈A)->(∀t∈aAd l,t∈A)->oM p i n path=lU l->l[i]? =some p:=by
 intro n;induction n using Nat.strongRecOn with
 | ind n ih=>
  intro l p i path hl h1 hi hsm hdp hall A U hu hd e;obtain⟨t,ht,et,ct⟩:=aXR n p i path;obtain⟨s,hs,es,cs⟩:=aVG l;have ets:t=s:=U t (hu t ht) s (hd s hs) (by rw[et,es,e]);by_cases h2:2≤n
  ·obtain⟨m1,m2⟩:=lK h2;have h2l:2≤l.length:=by omega
   rw[if_pos h2] at ct;rw[if_pos h2l] at cs;have hg:(path.getD (gF i n-1) []).length=32:=by
    have h3:1≤gF i n:=by rw[gF,dif_pos h2];split<;>omega
    rw[aAX,lQ (by omega)];exact hall _ (aKW _)
   have hdep:gF i n=if i<dT n then 1+gF i (dT n) else 1+gF (i-dT n) (n-dT n):=by rw[gF,dif_pos h2]
   rw[hl] at cs;by_cases hc:i<dT n
   ·rw[if_pos hc] at ct hdep;rw[ct,cs] at ets;obtain⟨e1,-⟩:=aPW ets (by rw[hg,zJ]);have:=ih (dT n) m2 (l:=l.take (dT n)) (p:=p) (i:=i) (path:=path) (by rw[uF];omega) m1 hc (λq hq=>hsm q (aKz hq)) (by omega) hall U (λt ht=>hu t (aVK h2 hc t ht)) (λt ht=>hd t (aUP h2l t (by rw[hl];exact ht))) e1;rw[aH9,if_pos hc] at this;exact this
   ·rw[if_neg hc] at ct hdep;rw[ct,cs] at ets;obtain⟨-,e1⟩:=aPW ets (by rw[aHE,zJ]);have:=ih (n-dT n) (by omega) (l:=l.drop (dT n)) (p:=p) (i:=i-dT n) (path:=path) (by rw[xV];omega) (by omega) (by omega) (λq hq=>hsm q (aL3 hq)) (by omega) hall U (λt ht=>hu t (aTi h2 hc t ht)) (λt ht=>hd t (aSd h2l t (by rw[hl];exact ht))) e1;rw[aMB] at this;rw[←this];congr 1;omega
  ·rw[if_neg h2] at ct;rw[if_neg (by omega)] at cs;obtain⟨q,rfl⟩:=List.length_eq_one_iff.1 (show l.length=1 by omega);have i0:i=0:=by omega
   subst i0;rw[ct,cs] at ets;obtain⟨y1,y2⟩:=hsm q (by simp);have:=aUJ (p:=p) (q:=q) y1 y2 ets;rw[this];rfl
theorem aRK{f:Lf}{b:List Pr}(M:MOk b){A:List Tx}(U:aHM A)(ha:∀t∈aGl f,t∈A)(hb:∀t∈rR b,t∈A)(h:oR f=some (lB b)):f.n=(b.length:Int)∧0≤f.i∧f.i<f.n∧b[f.i.toNat]? =some f.p:=by
 by_cases H:OkC f
 case neg=>rw[aPB H] at h;cases h
 rw[aOk H] at h;simp only[zL8] at h;have hn1:=H.n1;have hn2:=H.n2;have hi1:=H.i1;have hi2:=H.i2;have hml:=M.len;have ht:aHF f.n.toNat (aLk f)=aHF b.length (if b=[] then [] else lU b):=U _ (ha _ (by unfold aGl;simp)) _ (hb _ (by unfold rR;simp)) h;obtain⟨e1,e2⟩:=aQr (by omega) (by omega) ht;have hne:b≠[]:=λe=>by rw[e] at e1;simp at e1;omega
 rw[if_neg hne] at e2;refine⟨by omega,hi1,hi2,?_⟩;unfold aLk at e2;refine aVl f.n.toNat e1.symm (by omega) (by omega) (λq hq=>⟨M.k q hq,M.v q hq⟩) (by rw[H.len];exact oL _) H.all U (λt ht=>ha t (by unfold aGl;exact aKa _ ht)) (λt ht=>hb t (by unfold rR;rw[if_neg hne,if_neg hne];exact aKa _ ht)) e2
theorem aMb:∀{l:List Lf} {f:Lf},f∈l->(oR f).isSome=true->∀t∈aGl f,t∈wK l
 | g::l,f,hf,hs,t,ht=>by
  rw[wK];rcases gP.1 hf with rfl|hf
  ·rw[if_pos hs];simp[ht]
  ·have:=aMb hf hs t ht;simp[this]
theorem aLh{l:List Lf}{b:List Pr}(M:MOk b){A:List Tx}(U:aHM A)(ha:∀t∈wK l,t∈A)(hb:∀t∈rR b,t∈A)(h:nA (lB b) l=true):∀f∈l,f.n=(b.length:Int)∧0≤f.i∧f.i<f.n∧b[f.i.toNat]? =some f.p:=λf hf=>by
 unfold nA at h;rw[aDC] at h;have hc:=h f hf;simp only[beq_iff_eq] at hc;exact aRK M U (λt ht=>ha t (aMb hf (by rw[hc];rfl) t ht)) hb hc
theorem aPH{b:List Pr}(M:MOk b){s k v:Tx}{A:List Tx}(U:aHM A)(ha:∀t∈aGc s,t∈A)(hb:∀t∈rR b,t∈A)(h:aCd (lB b) s k v=true):(⟨k,v⟩:Pr)∈b:=by
 rw[aSE] at h;simp only[yE,beq_iff_eq,Bool.not_eq_true'] at h;obtain⟨⟨⟨h1,h2⟩,h3⟩,h4⟩:=h;unfold aGc at ha
 match hl:(iA s).1.lv,h3 with
 | [f],h3=>
  rw[hl] at h4 ha;have hp:f.p=⟨k,v⟩:=by simpa[aGO] using h3
  rw[if_pos ⟨h1,h2,rfl⟩] at ha;obtain⟨-,-,-,y⟩:=aLh M U ha hb h4 f (by simp);rw[←hp];exact rC y
 | [],h3=>simp[aGO] at h3
 | _::_::_,h3=>simp[aGO] at h3
theorem aPm{b:List Pr}(U:rM b){i j:Nat}{p q:Pr}(hi:b[i]? =some p)(hj:b[j]? =some q)(h:p.k<q.k):i<j:=by
 rcases Nat.lt_trichotomy i j with c|c|c
 ·exact c
 ·subst c;rw[hi] at hj;cases hj;exact absurd h (zL0 _)
 ·obtain⟨x1,x2⟩:=zLz.1 hi;obtain⟨y1,y2⟩:=zLz.1 hj;have:=List.pairwise_iff_getElem.1 U j i y1 x1 c;rw[x2,y2] at this;exact absurd h (List.lt_asymm this)
theorem aRL{b:List Pr}(M:MOk b){s k:Tx}{A:List Tx}(U:aHM A)(ha:∀t∈aIX s k,t∈A)(hb:∀t∈rR b,t∈A)(h:aCX (lB b) s k=true):∀q∈b,q.k≠k:=by
 rw[aPO] at h;simp only[yE,beq_iff_eq,decide_eq_true_eq] at h;obtain⟨⟨⟨⟨⟨h1,h2⟩,h3⟩,h4⟩,h5⟩,h6⟩:=h;unfold aIX at ha;rw[if_pos ⟨h1,h2,h3,h4⟩] at ha;have hcl:=aLh M U (λt ht=>ha t (zLk _ ht)) hb h5;intro q hq ek;obtain⟨j,hj⟩:=List.mem_iff_getElem?.1 hq;have hjl:=(zLz.1 hj).1;have hml:=M.len;generalize hL:(iA s).1.lv=L at *
 match L,h6 with
 | [],h6=>
  have e:lB b=lB []:=by simpa[aAO] using h6
  rw[if_pos rfl] at ha;have ht:aHF b.length (if b=[] then [] else lU b)=aHF 0 []:=U _ (hb _ (by unfold rR;simp)) _ (ha _ (by unfold rR;simp)) e;obtain⟨e1,-⟩:=aQr (by omega) (by decide) ht;omega
 | [f],h6=>
  obtain⟨y1,y2,y3,y4⟩:=hcl f (by simp);simp only[aAO,Bool.or_eq_true,yE,beq_iff_eq,decide_eq_true_eq] at h6;rcases h6 with⟨z1,z2⟩|⟨z1,z2⟩
  ·have:=aPm M.up hj y4 (by rw[ek];exact z2);omega
  ·rw[eV (by omega) (by omega)] at z1;have:=aPm M.up y4 hj (by rw[ek];exact z2);omega
 | f::g::r,h6=>
  obtain⟨y1,y2,y3,y4⟩:=hcl f (by simp);obtain⟨w1,w2,w3,w4⟩:=hcl g (by simp);simp only[aAO,yE,beq_iff_eq,decide_eq_true_eq] at h6;obtain⟨⟨⟨z1,z2⟩,z3⟩,z4⟩:=h6;rw[eV (by omega) (by omega)] at z2;have a1:=aPm M.up y4 hj (by rw[ek];exact z3);have a2:=aPm M.up hj w4 (by rw[ek];exact z4);omega
theorem aOv{p q:Pk}(hp:p.right=true)(hq:q.right=true){A:List Tx}(U:aHM A)(ha:∀t∈oT p,t∈A)(hb:∀t∈oT q,t∈A)(h:mN p=mN q):p.bs=q.bs:=by
 unfold oT at ha hb;unfold mN aHA at h;rw[if_pos hp] at ha;rw[if_pos hq] at hb;simp only[hp,hq,if_true] at h;exact U _ (ha _ (by simp)) _ (hb _ (by simp)) h
theorem aV0{p q:Pk}(hp:p.right=true)(hq:q.right=true){A:List Tx}(U:aHM A)(ha:∀t∈aFw p,t∈A)(hb:∀t∈aFw q,t∈A)(h:aBs p=aBs q):p.bs=q.bs:=by
 unfold aFw at ha hb;unfold aBs aHA at h;rw[if_pos hp] at ha;rw[if_pos hq] at hb;simp only[hp,hq,if_true] at h;have:=U _ (ha _ (by simp)) _ (hb _ (by simp)) h;exact List.append_cancel_left this
end
end Go.Proofs.YtppgkeodaejgcaaGreatDoor
