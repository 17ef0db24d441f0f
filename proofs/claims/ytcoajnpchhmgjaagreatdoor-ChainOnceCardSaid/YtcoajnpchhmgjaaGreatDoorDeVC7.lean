/- The texts of this claim, put together. -/
import Derived.Test.YtcoajnpchhmgjaaGreatDoorDeVC6
import Derived.Test.YtcoajnpchhmgjaaGreatDoorCards
import Derived.Test.YtcoajnpchhmgjaaGreatDoorTie
import Derived.WalkKit
import Derived.ProofKit
set_option linter.unusedSimpArgs false
set_option linter.unusedVariables false
set_option linter.unusedSectionVars false
set_option maxRecDepth 100000
open Go.Instr (loadAt fieldAt indexAt extract buildSlice build)
namespace Go.Proofs.YtcoajnpchhmgjaaGreatDoor
open Go
theorem aWx(f0 f1 f2 f3 f4 f5:Value)(e0 e1 e2 e3 e4 e5:Int):jS PG (buildSlice jD 6 #[(0,.agg #[f0,.int .i64 e0]),(1,.agg #[f1,.int .i64 e1]),(2,.agg #[f2,.int .i64 e2]),(3,.agg #[f3,.int .i64 e3]),(4,.agg #[f4,.int .i64 e4]),(5,.agg #[f5,.int .i64 e5])])=some (.cells #[f0,.int .i64 e0,f1,.int .i64 e1,f2,.int .i64 e2,f3,.int .i64 e3,f4,.int .i64 e4,f5,.int .i64 e5] cK,λr=>pure (.slice (some ⟨r,0,none⟩) 6 6)):=by kernel_rfl
theorem aSg(L:List Pr)(p:Pr):(mZ L p).length≤L.length+1:=by
 have:∀L:List Pr,(L.filter λq=>decide (q.k<p.k)).length+(L.filter λq=>decide (p.k<q.k)).length≤L.length:=by
  intro L
  induction L with
  | nil=>simp
  | cons a L ih=>
   by_cases h1:a.k<p.k
   ·have h2:¬p.k<a.k:=λh=>zLY _ (List.lt_trans h1 h)
    rw[List.filter_cons_of_pos (by simpa using h1),List.filter_cons_of_neg (by simpa using h2),tT,tT]
    omega
   ·by_cases h2:p.k<a.k
    ·rw[List.filter_cons_of_neg (by simpa using h1),List.filter_cons_of_pos (by simpa using h2),tT,tT]
     omega
    ·rw[List.filter_cons_of_neg (by simpa using h1),List.filter_cons_of_neg (by simpa using h2),tT]
     omega
 have h:=this L
 unfold mZ
 rw[jE,tT]
 omega
theorem aPU(p:Pk):(aAq p).length≤64:=by
 unfold aAq aG2
 split
 ·exact zLB (Nat.le_of_eq rfl) (show 32≤64 by decide)
 ·simp
noncomputable def pW(s:Ch)(p:Pk)(pf:Tx)(x:Int):List (Int×Bool):=[(1,p.right&&(p.f==1-s.id)),(10,decide (IntKind.u64.wrap ((s.st.height:Int)+1)<p.t)),(4,!(gQ s.st.now (gH 114 p.s.toNat)).isSome),(11,(kJ s.cl x).isSome),(9,aAU (oL s.cl x) pf (gH 99 p.s.toNat) (nR p)),(2,decide (s.st.now.length+2≤4096))]
def Ch.received(s:Ch)(p:Pk):Ch:=((s.put (gH 114 p.s.toNat) [1]).put (gH 97 p.s.toNat) (aAq p)).add ⟨2,p⟩
theorem aVI{h:PH}{c:Nat}{s:Ch}{F:List Nat}(hK:mK h)(H:iO c s h F)(h0F:0∉F){p:Pk}(w:p.wf){pf:Tx}{x:Int}(hl:s.nts.length<1000000){kk:cD}
  (hbad:pD s (pW s p pf x)≠0->∀h',iO c s h' F->dC h h'->kk (.int .i64 (pD s (pW s p pf x))) h')
  (hk:pD s (pW s p pf x)=0->∀h' F',iO c (s.received p) h' F'->iR h F h' F'->kk (.int .i64 0) h'):
  aT PG aDb #[pT c 0,p.v,.string (tx pf),.int .u64 x] h kk:=by
 apply wF.call
 unfold wF
 obtain⟨n,hn⟩:=zLm w.1
 have hn2:n<18446744073709551616:=by have:=w.2.1;omega
 intro r1 hr1
 try rw[cZ]
 have u1:dC h (h.set r1 (.cells (Value.cells (pT c 0)) dG)):=cU.new hr1
 have B1:Bx (h.set r1 (.cells (Value.cells (pT c 0)) dG)) r1 [pT c 0]:=Bx.new
 generalize h.set r1 (.cells (Value.cells (pT c 0)) dG)=h1 at *
 intro r3 hr3
 try rw[cZ]
 have u3:dC h1 (h1.set r3 (.cells (Value.cells p.v) aR)):=cU.new hr3
 have B3:Bx (h1.set r3 (.cells (Value.cells p.v) aR)) r3 p.cells:=Bx.new
 generalize h1.set r3 (.cells (Value.cells p.v) aR)=h3 at *
 intro r5 hr5
 try rw[cZ]
 have u5:dC h3 (h3.set r5 (.cells (Value.cells (.string (tx pf))) bR)):=cU.new hr5
 have B5:Bx (h3.set r5 (.cells (Value.cells (.string (tx pf))) bR)) r5 [.string (tx pf)]:=Bx.new
 generalize h3.set r5 (.cells (Value.cells (.string (tx pf))) bR)=h5 at *
 have e5:=(u1.trans u3).trans u5
 have C1:=(B1.ext u3).ext u5
 have C3:=B3.ext u5
 have H5:=(iO.good c s).ext H e5
 have k1:h r1=none:=hr1
 have k3:h r3=none:=u1.none hr3
 have lc:∀{h'':PH},dC h5 h''->cG PG h'' (loadAt dG (pT r1 0))=some (pT c 0):=λv=>by rw[dG.load,(C1.ext v).cell];rfl
 have lpk:∀{h'':PH},dC h5 h''->cG PG h'' (loadAt aR (pT r3 0))=some p.v:=λv=>(C3.ext v).pk rfl
 have ls:∀{h'':PH},dC h5 h''->cG PG h'' (loadAt cA (pT r3 1))=some (.int .u64 (n:Int)):=λv=>by rw[cA.load,(C3.ext v).cell,←hn];rfl
 have lt:∀{h'':PH},dC h5 h''->cG PG h'' (loadAt cA (pT r3 2))=some (.int .u64 p.t):=λv=>by rw[cA.load,(C3.ext v).cell];rfl
 have lpf:∀{h'':PH},dC h5 h''->cG PG h'' (loadAt bR (pT r5 0))=some (.string (tx pf)):=λv=>by rw[bR.load,(B5.ext v).cell];rfl
 simp only[lc cU.refl,nS,cE,reduceIte,cT,Nat.reduceAdd]
 refine aLc (f:=λroot=>aAU root pf (gH 99 p.s.toNat) (nR p)) H5 rfl (λh' u root k' hk'=>?_) λh4 f1 f2 c1 c2 R1 R2 u4=>?_
 ·show aT PG aCS #[.string (tx root),pT r5 0,pT r3 0] h' k'
  apply tB.call
  unfold tB
  simp only[lpf u,lpk u,aR.f1,fL,ls u,cE,reduceIte,cT,Nat.reduceAdd]
  refine aLk hn2 λh6 u6=>?_
  refine⟨lpk (u.trans u6),lpf (u.trans u6),?_⟩
  refine aHn w (hK.ext ((e5.trans u).trans u6)) λh7 u7=>?_
  refine⟨lpf ((u.trans u6).trans u7),?_⟩
  refine aTl (hK.ext (((e5.trans u).trans u6).trans u7)) λh8 u8=>?_
  have:=hk' h8 ((u6.trans u7).trans u8)
  rw[hn] at this
  exact this
 have e4:=e5.trans u4
 simp only[cE,reduceIte,cT,Nat.reduceAdd]
 intro r13 hr13
 try rw[cZ]
 have u6:dC h4 (h4.set r13 (.cells (dP PG cK) cK)):=cU.new hr13
 have Z13:=cK.zbox (h:=h4) (r:=r13)
 generalize h4.set r13 (.cells (dP PG cK) cK)=h6 at *
 intro r15 hr15
 try rw[cZ]
 have u7:dC h6 (h6.set r15 (.cells (dP PG cK) cK)):=cU.new hr15
 have Z15:=cK.zbox (h:=h6) (r:=r15)
 have n1315:r13≠r15:=Z13.apart hr15
 have Y13:=Z13.ext u7
 generalize h6.set r15 (.cells (dP PG cK) cK)=h7 at *
 have k13:h4 r13=none:=hr13
 have k15:h4 r15=none:=u6.none hr15
 refine cK.put (vs:=[f1,.int .i64 11]) Y13 (o:=0) rfl (by show 0+2≤2;decide) (by simp only[gZ,kW,or_false];rintro z (rfl|rfl);exact c1;rfl) λh8 B8 u8=>?_
 refine cK.put (vs:=[f2,.int .i64 9]) (Z15.upd u8 (by simpa using n1315.symm)) (o:=0) rfl (by show 0+2≤2;decide) (by simp only[gZ,kW,or_false];rintro z (rfl|rfl);exact c2;rfl) λh9 B9 u9=>?_
 have e49:dC h4 h9:=((u6.trans u7).fresh u8 (eP.one k13)).fresh u9 (eP.one k15)
 have D13:=B8.upd u9 (by simpa using n1315)
 have v59:dC h5 h9:=u4.trans e49
 have H9:=(iO.good c s).ext H5 v59
 obtain⟨sp,m,cp,nv,bv,lk,P,perm,ok⟩:=H9
 have H9:iO c s h9 F:=⟨sp,m,cp,nv,bv,lk,P,perm,ok⟩
 have hid:=ok.id
 have w1:IntKind.i64.wrap (1-s.id)=1-s.id:=eZ (by omega) (by omega)
 have l13:∀{h'':PH},dC h9 h''->cG PG h'' (loadAt cK (pT r13 0))=some (.agg #[f1,.int .i64 11]):=λv=>cK.agg (D13.ext v) (by show 0+2≤2;decide)
 have l15:∀{h'':PH},dC h9 h''->cG PG h'' (loadAt cK (pT r15 0))=some (.agg #[f2,.int .i64 9]):=λv=>cK.agg (B9.ext v) (by show 0+2≤2;decide)
 simp only[lc v59,lpk v59,eD.f1,fL,Ch.load5 P.cell,w1,nS,aJh,l13 cU.refl,l15 cU.refl,cE,reduceIte,cT,Nat.reduceAdd]
 refine aQD λh10 f0 c0 R0 u10=>?_
 have v510:=v59.trans u10
 refine⟨l15 u10,l13 u10,lc v510,?_⟩
 simp only[aWx,cE,reduceIte,cT,Nat.reduceAdd]
 intro r38 hr38
 refine fT ?_
 try rw[cZ]
 obtain⟨rs,hrs⟩:∃rs:List RuV,rs=[(f0,1,p.right&&(p.f==1-s.id)),(.func (.func tM) #[] #[pT r3 0,pT r1 0],10,decide (IntKind.u64.wrap ((s.st.height:Int)+1)<p.t)),(.func (.func sK) #[] #[pT r1 0,pT r3 0],4,!(gQ s.st.now (gH 114 p.s.toNat)).isSome),(f1,11,(kJ s.cl x).isSome),(f2,9,aAU (oL s.cl x) pf (gH 99 p.s.toNat) (nR p)),(.func (.func tG) #[] #[pT r1 0],2,decide (s.st.now.length+2≤4096))]:=⟨_,rfl⟩
 have ecells:(#[f0,.int .i64 1,.func (.func tM) #[] #[pT r3 0,pT r1 0],.int .i64 10,.func (.func sK) #[] #[pT r1 0,pT r3 0],.int .i64 4,f1,.int .i64 11,f2,.int .i64 9,.func (.func tG) #[] #[pT r1 0],.int .i64 2]:Array Value)=(rs.map mB).flatten.toArray:=by rw[hrs];rfl
 have ers:aMh s rs=pD s (pW s p pf x):=by rw[aN6,hrs];rfl
 rw[ecells]
 have u11:dC h10 (h10.set r38 (.cells (rs.map mB).flatten.toArray cK)):=cU.new hr38
 have S11:fY (h10.set r38 (.cells (rs.map mB).flatten.toArray cK)) 2 (.slice (some ⟨r38,0,none⟩) 6 6) (rs.map mB):=(eS.lit (mB.rows rs) dL (by rw[hrs];simp) (by decide) (by simp)).slR
 generalize h10.set r38 (.cells (rs.map mB).flatten.toArray cK)=h11 at *
 have v511:=v510.trans u11
 have e411:=(e49.trans u10).trans u11
 have H11:=(iO.good c s).ext H5 v511
 have hrules:aHD h11 rs:=λy hy=>by
  rw[hrs] at hy
  simp only[gZ,kW,or_false] at hy
  rcases hy with rfl|rfl|rfl|rfl|rfl|rfl
  ·exact⟨c0,R0.ext u11⟩
  ·refine⟨rfl,λh' u k' hk'=>?_⟩
   show aT PG tM #[pT r3 0,pT r1 0] h' k'
   apply sQ.call
   unfold sQ
   obtain⟨sp,m,cp,nv,bv,lk,P,perm,ok⟩:=(iO.good c s).ext H11 u
   obtain⟨Fs,St,-,-⟩:=P.fSt
   simp only[lt (v511.trans u),lc (v511.trans u),eD.f0,eK.f0,aR.f2,fL,Ch.load0 P.cell,cE,reduceIte,cT,Nat.reduceAdd]
   refine aI3 St ?_
   refine⟨lt (v511.trans u),?_⟩
   simp only[cE,reduceIte,cT,Nat.reduceAdd]
   exact hk' h' cU.refl
  ·refine⟨rfl,λh' u k' hk'=>?_⟩
   show aT PG sK #[pT r1 0,pT r3 0] h' k'
   apply sU.call
   unfold sU
   obtain⟨sp,m,cp,nv,bv,lk,P,perm,ok⟩:=(iO.good c s).ext H11 u
   simp only[lc (v511.trans u),eD.f0,eK.f0,aR.f1,fL,Ch.load0 P.cell,ls (v511.trans u),cE,reduceIte,cT,Nat.reduceAdd]
   refine aJR hn2 λh12 u12=>?_
   have P12:=iV.good.ext P u12
   refine⟨Ch.load0 P12.cell,lc ((v511.trans u).trans u12),?_⟩
   obtain⟨Fs,St,-,-⟩:=P12.fSt
   refine aRV St _ ?_
   simp only[cE,reduceIte,cT,Nat.reduceAdd]
   have:=hk' h12 u12
   rw[hn] at this
   exact this
  ·exact⟨c1,R1.ext e411⟩
  ·exact⟨c2,R2.ext e411⟩
  ·refine⟨rfl,λh' u k' hk'=>?_⟩
   show aT PG tG #[pT r1 0] h' k'
   apply aBT.call
   unfold aBT
   simp only[lc (v511.trans u),eD.f0,cE,reduceIte,cT,Nat.reduceAdd]
   exact aQP (n:=2) ((iO.good c s).ext H11 u) (by decide) (hk' h' cU.refl)
 refine aNd H11 S11 hrules (by rw[hrs];simp) λh12 u12=>?_
 rw[ers]
 have H12:=(iO.good c s).ext H11 u12
 have v512:=v511.trans u12
 have e12:=e5.trans v512
 unfold aCw
 by_cases he:pD s (pW s p pf x)=0
 case neg=>
  have q:(pD s (pW s p pf x)==0)=false:=by simpa using he
  simp only[hE,q,cE,reduceIte,cT,Nat.reduceAdd]
  exact hbad he h12 H12 e12
 obtain⟨-,hall⟩:=aLU he (by
  intro y hy
  simp only[pW,gZ,kW,or_false] at hy
  rcases hy with rfl|rfl|rfl|rfl|rfl|rfl<;>simp)
 have broom:s.st.now.length+2≤4096:=by
  have:=hall (2,decide (s.st.now.length+2≤4096)) (by simp[pW])
  simpa using this
 have q1:({data:=#[1]}:ByteArray)=tx [1]:=rfl
 simp only[he,hE,lc v512,eD.f0,aR.f1,fL,ls v512,q1,cE,reduceIte,cT,Nat.reduceAdd]
 refine aJR hn2 λh13 u13=>?_
 refine⟨lc (v512.trans u13),?_⟩
 have H13:=(iO.good c s).ext H12 u13
 have v513:=v512.trans u13
 refine aNj H13 (by rw[wB];decide) (by rw[wB];decide) (by decide) (aM5 (n:=2) (by decide) broom) λh14 F14 H14 s14=>?_
 have nF:∀{r:Nat},h r=none->r∉F:=λhr hm=>(iO.good c s).known H _ hm hr
 have D1:=(C1.ext v513).upd s14.upd (nF k1)
 have D3:=(C3.ext v513).upd s14.upd (nF k3)
 have m1:r1∉F14:=λhm=>by
  rcases s14.grow _ hm with hx|hx
  ·exact nF k1 hx
  ·exact(C1.ext v513).known hx
 have m3:r3∉F14:=λhm=>by
  rcases s14.grow _ hm with hx|hx
  ·exact nF k3 hx
  ·exact(C3.ext v513).known hx
 have lc14:∀{h'':PH},dC h14 h''->cG PG h'' (loadAt dG (pT r1 0))=some (pT c 0):=λv=>by rw[dG.load,(D1.ext v).cell];rfl
 have lp14:∀{h'':PH},dC h14 h''->cG PG h'' (loadAt aR (pT r3 0))=some p.v:=λv=>(D3.ext v).pk rfl
 have ls14:cG PG h14 (loadAt cA (pT r3 1))=some (.int .u64 (n:Int)):=by rw[cA.load,D3.cell,←hn];rfl
 simp only[lc14 cU.refl,eD.f0,aR.f1,fL,ls14,lp14 cU.refl,cE,reduceIte,cT,Nat.reduceAdd]
 refine aL5 hn2 λh15 u15=>?_
 refine⟨lp14 u15,lc14 u15,?_⟩
 have K14:mK h14:=by
  obtain⟨tt,fr,h0⟩:=hK.ext (e5.trans v513)
  exact⟨tt,fr,s14.upd.get h0 h0F⟩
 refine aOF w (K14.ext u15) λh16 u16=>?_
 have u1416:=u15.trans u16
 refine⟨lc14 u1416,?_⟩
 have H16:=(iO.good c _).ext H14 u1416
 have hlen:=aSg s.st.now ⟨gH 114 n,[1]⟩
 refine aNj H16 (by rw[wB];decide) (by rw[wB];decide) (aPU _) (λ⟨_,hx⟩=>by
  have:4096≤(mZ s.st.now ⟨gH 114 n,[1]⟩).length:=hx
  omega) λh17 F17 H17 s17=>?_
 have E1:=(D1.ext u1416).upd s17.upd m1
 have E3:=(D3.ext u1416).upd s17.upd m3
 have lc17:cG PG h17 (loadAt dG (pT r1 0))=some (pT c 0):=by rw[dG.load,E1.cell];rfl
 have lp17:cG PG h17 (loadAt aR (pT r3 0))=some p.v:=E3.pk rfl
 simp only[lc17,lp17,cE,reduceIte,cT,Nat.reduceAdd]
 refine aMa H17 2 w hl λh18 F18 H18 s18=>?_
 have es:((s.put (gH 114 n) [1]).put (gH 97 n) (aAq p)).add ⟨2,p⟩=s.received p:=by unfold Ch.received;rw[hn];rfl
 rw[es] at H18
 exact hk he h18 F18 H18 (((((iR.ext (e5.trans v513)).trans s14).trans (iR.ext u1416)).trans s17).trans s18)
def Ch.told(s:Ch)(x:Int)(root:Tx):Ch:={s with cl:=(yS s.cl ⟨x,tx root⟩).2}
theorem aRy{h:PH}{c:Nat}{s:Ch}{F:List Nat}(H:iO c s h F)(x:Int)(root:Tx){kk:cD}
  (hk:∀h' F',iO c (s.told x root) h' F'->iR h F h' F'->kk (.int .i64 (yS s.cl ⟨x,tx root⟩).1) h'):aT PG aCQ #[pT c 0,.int .u64 x,.string (tx root)] h kk:=by
 apply aA4.call
 unfold aA4
 obtain⟨sp,m,cp,nv,bv,lk,P,perm,ok⟩:=H
 simp only[eD.f2,fL,Ch.load6 P.cell,cE,reduceIte,cT,Nat.reduceAdd]
 obtain⟨Fc,⟨hs,C⟩,hFc,back⟩:=P.fCli
 refine aXr C ⟨x,tx root⟩ λh1 hs1 F1 C1 u1 g1=>?_
 obtain⟨F2,P2,s2⟩:=back (aC9 cp (yS s.cl ⟨x,tx root⟩).2) h1 F1 ⟨hs1,C1⟩ ⟨u1,g1⟩
 exact hk h1 F2 ⟨sp,m,cp,nv,bv,lk,P2,perm,⟨ok.id,ok.len,ok.first,ok.seq,ok.seq1,ok.nts,ok.wf,ok.bwf⟩⟩ s2
def aE6(s:St)(key:Tx)(x:Nat):Tx×Int:=match qD s x with
 | none=>([],3)
 | some b=>if (gQ b key).isSome then lB (jG b key) else if 1≤key.length∧key.length≤16 then lB (jG b key) else([],1)
theorem St.Ok.mok{s:St}(H:s.Ok){x:Nat}{b:List Pr}(hb:qD s x=some b):MOk b:=by
 have hm:b∈s.blocks:=sH (aJo hb).2
 obtain⟨h1,h2,h3⟩:=H.blk b hm
 exact⟨h1,h3,λp hp=>by have:=h2 p hp;unfold aNc at this;omega,λp hp=>by have:=h2 p hp;unfold aNc at this;omega⟩
theorem aTV{h:PH}{c:Nat}{s:Ch}{F:List Nat}(hK:mK h)(H:iO c s h F)(key:Tx){x:Nat}(hx:x<18446744073709551616){kk:cD}
  (hk:∀h',dC h h'->kk (.tuple #[.string (tx (aE6 s.st key x).1),.int .i64 (aE6 s.st key x).2]) h'):aT PG aCg #[pT c 0,.string (tx key),.int .u64 (x:Int)] h kk:=by
 apply aB2.call
 unfold aB2
 obtain⟨sp,m,cp,nv,bv,lk,P,perm,ok⟩:=H
 have hst:=P.okst
 simp only[eD.f0,eK.f0,Ch.load0 P.cell,cE,reduceIte,cT,Nat.reduceAdd]
 obtain⟨Fs,S,-,-⟩:=P.fSt
 have q0:({data:=#[]}:ByteArray)=tx []:=rfl
 unfold aE6 at hk
 refine aYZ S x hx (λe v h1 F1 O1 f1 u1=>?_) (λb v h1 F1 e O1 f1 u1=>?_)
 ·rw[e] at hk
  have q:((3:Int) !=0)=true:=by decide
  simp only[kU,q,q0,cE,reduceIte,cT,Nat.reduceAdd]
  exact hk h1 u1
 ·rw[e] at hk
  simp only at hk
  have M:=hst.mok e
  have B1:=O1.slR
  simp only[kU,cE,reduceIte,cT,Nat.reduceAdd]
  -- the end
  have fin:∀{h4:PH} {ab:Bool} {v4:Value} {r:Nat},dC h1 h4->Bx h4 r [.bool ab,v4]->nJ h1 h4 v4 (jG b key).lv->ab=(jG b key).ab->(∀h',dC h h'->kk (.tuple #[.string (tx (lB (jG b key)).1),.int .i64 (lB (jG b key)).2]) h')->pS kk (.int .i64 0) (pT r 0) h4:=by
   intro h4 ab v4 r u4 B4 L4 eab hk
   unfold pS
   have l4:cG PG h4 (loadAt cC (pT r 0))=some (Pf.val ab v4):=cC.agg B4 (by show 0+2≤2;decide)
   simp only[kU,l4,cE,reduceIte,cT,Nat.reduceAdd]
   obtain⟨l,F',el,O,-,L⟩:=L4.here
   have epf:(⟨ab,l.map (·.1)⟩:Pf)=jG b key:=by rw[el,eab]
   have hpf:=aIv M key
   refine aTE O.slR L.lfs (by
    have:l.length=(jG b key).lv.length:=by rw[←el];simp
    have:=hpf.1;omega) (λy hy=>by
    have hm:y.1∈(jG b key).lv:=by rw[←el];exact zL4 hy
    obtain⟨j,hj,ej⟩:=hpf.2 _ hm
    have:=(aOa M hj).m
    rw[ej];omega) λh5 u5=>?_
   rw[epf]
   simp only[cE,reduceIte,cT,Nat.reduceAdd]
   exact hk h5 ((u1.trans u4).trans u5)
  refine aR2 M (hK.ext u1) B1 (λhno h2 u2=>?_) (λhyes h2 v2 L2 u2=>?_)
  ·have hns:(gQ b key).isSome=false:=by rw[hno];rfl
   rw[hns] at hk
   simp only[zLr,if_false] at hk
   simp only[cE,reduceIte,cT,Nat.reduceAdd]
   intro r14 hr14
   try rw[cZ]
   refine cC.fill (vs:=[.bool false,.slice none 0 0]) hr14 rfl (by simp[fK]) λh3 B3 u3=>?_
   have q:((3:Int) !=0)=true:=by decide
   have e3:=u2.trans u3
   simp only[kU,q,cE,reduceIte,cT,Nat.reduceAdd]
   have bad:∀{h4:PH} {e:Int},dC h3 h4->e≠0->(∀h',dC h h'->kk (.tuple #[.string (tx []),.int .i64 e]) h')->cW PG (dJ cC (pT r14 0) (Pf.val false (.slice none 0 0))) h4 λv23 h24=>pS kk (.int .i64 e) (pT r14 0) h24:=by
    intro h4 e u4 hne hk
    refine cC.put (vs:=[.bool false,.slice none 0 0]) (B3.ext u4) (o:=0) rfl (by show 0+2≤2;decide) (by simp[fK]) λh5 B5 u5=>?_
    unfold pS
    have q:(e !=0)=true:=by simpa using hne
    simp only[kU,q,q0,cE,reduceIte,cT,Nat.reduceAdd]
    exact hk h5 (((u1.trans e3).trans u4).fresh u5 (eP.one ((u1.trans u2).none hr14)))
   refine aTi M ((hK.ext u1).ext e3) (B1.ext e3) (λhb h4 u4=>?_) (λhs h4 u4=>?_) (λh1' h2' _ h4 v4 L4 u4=>?_)
   ·rw[if_neg hb] at hk
    simp only[cE,reduceIte,cT,Nat.reduceAdd]
    exact bad u4 (by decide) hk
   ·rw[hns] at hs;cases hs
   ·rw[if_pos ⟨h1',h2'⟩] at hk
    simp only[cE,reduceIte,cT,Nat.reduceAdd]
    refine cC.put (vs:=[.bool true,v4]) (B3.ext u4) (o:=0) rfl (by show 0+2≤2;decide) (by
     have:=L4.isc
     simp[fK];exact this) λh5 B5 u5=>?_
    have hab:(jG b key).ab=true:=by
     unfold jG
     rw[if_neg (by rw[hns];decide)]
     split
     ·rfl
     ·split
      ·rfl
      ·split<;>rfl
    have L5:nJ h3 h5 v4 (jG b key).lv:=L4.upd u5 (λb hb=>by simp only[fW] at hb;rw[hb];exact B3.known)
    exact fin ((e3.trans u4).fresh u5 (eP.one (u2.none hr14))) B5 (L5.of e3) hab.symm hk
  ·rw[hyes] at hk
   simp only[if_true] at hk
   simp only[cE,reduceIte,cT,Nat.reduceAdd]
   intro r14 hr14
   try rw[cZ]
   refine cC.fill (vs:=[.bool false,v2]) hr14 rfl (by
    have:=L2.isc
    simp[fK];exact this) λh3 B3 u3=>?_
   have epf:jG b key=⟨false,[jW b (gY b key)]⟩:=by unfold jG;rw[if_pos hyes]
   exact fin (u2.trans u3) B3 (by rw[epf];exact L2.upd u3 (λb hb=>by cases hb)) (by rw[epf]) hk
def Ch.committed(s:Ch):Ch:=if (jO s.st).2.2=0 then {s with st:=(jO s.st).1,blk:=s.blk++[s.nts],nts:=[]} else s
theorem aRF(a:Option Addr)(n c:Nat):jS PG (buildSlice eH 1 #[(0,.slice a n c)])=some (.cells #[.slice a n c] dB,λr=>pure (.slice (some ⟨r,0,none⟩) 1 1)):=by kernel_rfl
theorem aBc{s:St}(h:(jO s).2.2≠0):(jO s).1=s:=by
 unfold jO at h ⊢
 split
 ·rfl
 ·rename_i h1
  rw[if_neg h1] at h
  split
  ·rfl
  ·rename_i h2
   rw[if_neg h2] at h
   exact absurd rfl h
theorem aCY{s:St}(h:(jO s).2.2=0):(jO s).1= {s with blocks:=s.blocks++[s.now],height:=s.height+1}∧(jO s).2.1=s.height+1:=by
 unfold jO at h ⊢
 split
 ·rename_i h1;rw[if_pos h1] at h;cases h
 ·rename_i h1
  rw[if_neg h1] at h
  split
  ·rename_i h2;rw[if_pos h2] at h;cases h
  ·exact⟨rfl,rfl⟩
theorem aKY{h:PH}{c:Nat}{s:Ch}{F:List Nat}(hK:mK h)(H:iO c s h F){kk:cD}
  (hk:∀h' F',iO c s.committed h' F'->iR h F h' F'->kk (.tuple #[.int .u64 ((jO s.st).2.1:Int),.int .i64 (jO s.st).2.2]) h'):aT PG tF #[pT c 0] h kk:=by
 apply tH.call
 unfold tH aBa
 obtain⟨sp,m,cp,nv,bv,lk,P,perm,ok⟩:=H
 have hst:=P.okst
 simp only[eD.f0,eK.f0,Ch.load0 P.cell,cE,reduceIte,cT,Nat.reduceAdd]
 obtain⟨Fs,S,hFs,back⟩:=P.fSt
 refine aTp hK S λh1 F1 S1 u1 g1=>?_
 obtain⟨F2,P2,s2⟩:=back (stA sp (jO s.st).1) h1 F1 S1 ⟨u1,g1⟩
 unfold Ch.committed at hk
 by_cases he:(jO s.st).2.2=0
 case neg=>
  have q:((jO s.st).2.2==0)=false:=by simpa using he
  rw[if_neg he] at hk
  simp only[hE,q,cE,reduceIte,cT,Nat.reduceAdd]
  refine hk h1 F2 ⟨sp,m,cp,nv,bv,lk,?_,perm,ok⟩ s2
  rw[aBc he] at P2
  exact P2
 have q:((jO s.st).2.2==0)=true:=by simpa using he
 rw[if_pos he] at hk
 obtain⟨ec,-⟩:=aCY he
 have P2:iV c (s.cells sp bv nv m cp) sp (jO s.st).1 m lk cp s.cl nv s.nts bv s.blk h1 F2:=P2
 obtain⟨Ft,⟨Fn,Fb',rfl,On,⟨bl,Fb,G,Ob,Sb,ebl,rfl,hG⟩,hd⟩,hFt,back2⟩:=P2.fTwo
 have On:eS h1 eQ 5 nv (s.nts.map Nt.cells) Fn:=On
 obtain⟨na,nc,env,-⟩:=On.slR.here
 rw[jC] at env
 have e2:=P2.cell
 simp only[hE,q,eD.f0,eK.f2,eK.f3,fL,Ch.load2 P2.cell,Ch.load3 P2.cell,cE,reduceIte,cT,Nat.reduceAdd]
 rw[env]
 simp only[aRF,cE,reduceIte,cT,Nat.reduceAdd]
 rw[←env]
 intro r18 hr18
 refine fT ?_
 try rw[cZ]
 have u3:dC h1 (h1.set r18 (.cells #[nv] dB)):=cU.new hr18
 have s3:fY (h1.set r18 (.cells #[nv] dB)) 1 (.slice (some ⟨r18,0,none⟩) 1 1) ([(nv,s.nts)].map aJK):=(eS.lit (aJK.rows [(nv,s.nts)]) dL (by simp) (by decide) (by simp[aJK])).slR
 generalize h1.set r18 (.cells #[nv] dB)=h3 at *
 have hbl:bl.length≤4096:=by
  have h1:=hst.h2
  have h2:=ok.len
  have h3:bl.length=s.blk.length:=by rw[←ebl];simp
  omega
 refine jL eH.und eH.und dB.info dB.size dB.bytes dB.zero rfl (by decide) (Ob.ext u3) s3 (λr hr u hu=>by
  obtain⟨y,hy,rfl⟩:=lI.1 hr
  simp only[fW] at hy
  subst hy
  simp only[aJK,fW] at hu
  subst hu
  exact On.slR.isc) (by simp;omega) ?_
 intro v4 h4 F4 O4 u4 g4 _
 rw[←qB] at O4
 have nFb:∀b∈Fn,b∉Fb:=λb hb hb'=>hd b hb (by simp[hb'])
 have On4:eS h4 eQ 5 nv (s.nts.map Nt.cells) Fn:=(On.ext u3).upd u4 nFb
 have A4:aAt v4 (s.blk++[s.nts]) h4 (F4++(Fn++G)):=by
  refine⟨bl++[(nv,s.nts)],F4,Fn++G,O4,λx hx=>?_,by rw[qB,ebl];rfl,rfl,λg hg=>?_⟩
  ·rcases jJ.1 hx with hx|hx
   ·refine⟨((Sb x hx).1.ext u3).upd u4 λa n c ev=>(hG _ ((Sb x hx).2 a n c ev)).1,λa n c ev=>?_⟩
    have:=(Sb x hx).2 a n c ev
    simp[this]
   ·simp only[fW] at hx
    subst hx
    refine⟨On4.slR,λa n c ev=>?_⟩
    have:=aFs On a n c ev
    simp[this]
  ·rcases jJ.1 hg with hg|hg
   ·refine⟨λhx=>?_,On4.known g hg⟩
    rcases g4 g hx with hx|hx
    ·exact nFb g hg hx
    ·exact(On.ext u3).known g hg hx
   ·obtain⟨y1,y2⟩:=hG g hg
    obtain⟨o,ho⟩:=aGu.1 y2
    have h3g:=u3.get ho
    refine⟨λhx=>?_,by rw[u4.get h3g y1];simp⟩
    rcases g4 g hx with hx|hx
    ·exact y1 hx
    ·rw[hx] at h3g;cases h3g
 have st4:iR h1 (Fn++(Fb++G)) h4 (F4++(Fn++G)):=by
  refine⟨λb o hb hn=>u4 b o (u3.get hb) (λhm=>hn (by simp[hm])),λb hb=>?_⟩
  rcases jJ.1 hb with hb|hb
  ·rcases g4 b hb with hx|hx
   ·exact .inl (by simp[hx])
   ·exact .inr (u3.none hx)
  ·rcases jJ.1 hb with hb|hb
   ·exact .inl (by simp[hb])
   ·exact .inl (by simp[hb])
 have T4:(dT (wU eQ 5 (.slice none 0 0) (([]:List Nt).map Nt.cells)) (aAt v4 (s.blk++[s.nts]))) h4 ([]++(F4++(Fn++G))):=dT.mk (eS.nil) A4 (λb hb=>by cases hb)
 rw[wN] at T4
 obtain⟨F5,P5,s5⟩:=back2 _ h4 _ T4 st4
 have P5:iV c (s.cells sp bv nv m cp) sp (jO s.st).1 m lk cp s.cl (.slice none 0 0) [] v4 (s.blk++[s.nts]) h4 F5:=P5
 try simp only[eD.f0,eK.f2,fL,cE,reduceIte,cT,Nat.reduceAdd]
 obtain⟨Fb6,⟨rfl,B6⟩,hF6,back3⟩:=P5.fBox
 refine eH.put B6 (o:=2) (by show 2<8;decide) O4.slR.isc λh6 B6' u6=>?_
 try simp only[eD.f0,eK.f3,fL,cE,reduceIte,cT,Nat.reduceAdd]
 refine dB.put B6' (o:=3) (by show 3<8;decide) rfl λh7 B7 u7=>?_
 have u67:cU [c] h4 h7:=u6.trans u7
 obtain⟨F7,P7,s7⟩:=back3 (pM c (s.cells sp v4 (.slice none 0 0) m cp)) h7 [c] ⟨rfl,B7⟩ ⟨u67,λb hb=>.inl hb⟩
 refine hk h7 F7 ⟨sp,m,cp,.slice none 0 0,v4,lk,P7,?_,⟨ok.id,?_,?_,ok.seq,ok.seq1,by simp,by simp,?_⟩⟩ ((s2.trans s5).trans s7)
 ·show lk.Perm (jO s.st).1.now
  rw[ec];exact perm
 ·show(s.blk++[s.nts]).length=(jO s.st).1.blocks.length
  rw[ec,jE,jE,ok.len];rfl
 ·show s.first+((s.blk++[s.nts]).length-1)=(jO s.st).1.height
  have h1:=ok.len
  have h2:=ok.first
  have h3:=hst.h1
  rw[ec,jE]
  show s.first+(s.blk.length+1-1)=s.st.height+1
  omega
 ·intro b hb
  rcases jJ.1 hb with hb|hb
  ·exact ok.bwf b hb
  ·simp only[fW] at hb
   subst hb
   exact⟨ok.nts,ok.wf⟩
def Ch.new(id:Int)(n seq:Nat):Ch:=⟨id,⟨[],[[]],n⟩,n,[[]],[],[],seq⟩
theorem aY4(sp r m n:Nat):cV PG (build eK #[(0,pT sp 0),(1,.int .u64 (n:Int)),(2,.slice (some ⟨r,0,none⟩) 1 1),(4,.map (some m))])=some (.agg #[pT sp 0,.int .u64 (n:Int),.slice (some ⟨r,0,none⟩) 1 1,.slice none 0 0,.map (some m)]):=by kernel_rfl
theorem aY5(sp r m cp n seq:Nat)(id:Int):cV PG (build eD #[(0,.agg #[pT sp 0,.int .u64 (n:Int),.slice (some ⟨r,0,none⟩) 1 1,.slice none 0 0,.map (some m)]),(1,.int .i64 id),(2,pT cp 0),(3,.int .u64 (seq:Int))])=some (.agg ((Ch.new id n seq).cells sp (.slice (some ⟨r,0,none⟩) 1 1) (.slice none 0 0) m cp).toArray):=by kernel_rfl
theorem ms1:∃zs:Array Value,jS PG (Instr.makeSlice eH (.int .i64 1) (.int .i64 1))=some (.cells zs dB (0,0),λr=>pure (.slice (some ⟨r,0,none⟩) 1 1))∧zs.toList=[.slice none 0 0]:=by
 obtain⟨zs,h1,h2⟩:=aED (P:=PG) (n:=1) eH.und dB.info dB.size dB.bytes dB.zero rfl (by decide) (by decide) (by decide)
 exact⟨zs,h1,by rw[h2];rfl⟩
theorem aOH{h:PH}(hK:mK h)(id:Int){n seq:Nat}(hn:n<18446744073709551616)(hs:seq<18446744073709551616){kk:cD}
  (hbad:(id<0∨1<id∨seq=0)->kk (.tuple #[.pointer none,.int .i64 1]) h)
  (hk:¬(id<0∨1<id∨seq=0)->∀h' c F,iO c (Ch.new id n seq) h' F->eP h F->dC h h'->kk (.tuple #[pT c 0,.int .i64 0]) h'):
  aT PG aIX #[.int .i64 id,.int .u64 (n:Int),.int .u64 (seq:Int)] h kk:=by
 apply aFy.call
 unfold aFy
 by_cases c1:id<0
 ·have g1:=eq_true c1
  simp only[g1,cE,reduceIte,cT,Nat.reduceAdd]
  exact hbad (.inl c1)
 have g1:=eq_false c1
 by_cases c2:1<id
 ·have g2:=eq_true c2
  simp only[g1,g2,cE,reduceIte,cT,Nat.reduceAdd]
  exact hbad (.inr (.inl c2))
 have g2:=eq_false c2
 by_cases c3:seq=0
 ·have g3:((seq:Int)==0)=true:=by rw[c3];rfl
  simp only[g1,g2,hE,g3,cE,reduceIte,cT,Nat.reduceAdd]
  exact hbad (.inr (.inr c3))
 have g3:((seq:Int)==0)=false:=by rw[beq_eq_false_iff_ne];omega
 have hk:=hk (by omega)
 simp only[g1,g2,hE,g3,cE,reduceIte,cT,Nat.reduceAdd]
 refine aUK n hn hK λsp h1 F1 S1 f1 u1=>?_
 refine aWD λcp h2 F2 C2 u2 f2=>?_
 obtain⟨zs,m1,m2⟩:=ms1
 simp only[m1,aEa,cE,reduceIte,cT,Nat.reduceAdd]
 intro r22 hr22
 refine fT ?_
 try rw[cZ]
 have u3:dC h2 (h2.set r22 (.cells zs dB (0,0))):=cU.new hr22
 have O3:eS (h2.set r22 (.cells zs dB (0,0))) dB 1 (.slice (some ⟨r22,0,none⟩) 1 1) ([(Value.slice none 0 0,([]:List Nt))].map aJK) [r22]:=eS.lit (aJK.rows _) dL (by simp) (by decide) (by rw[m2];rfl)
 generalize h2.set r22 (.cells zs dB (0,0))=h3 at *
 try simp only[aEa,cE,reduceIte,cT,Nat.reduceAdd]
 intro r26 hr26
 refine fT ?_
 try rw[cZ]
 have u4:dC h3 (h3.set r26 (.map #[] 0)):=cU.new hr26
 have M4:aNg (h3.set r26 (.map #[] 0)) r26 []:=iQ.new
 generalize h3.set r26 (.map #[] 0)=h4 at *
 simp only[aY4,aY5,cE,reduceIte,cT,Nat.reduceAdd]
 intro r32 hr32
 try rw[cZ]
 have u5:dC h4 (h4.set r32 (.cells (Value.cells (.agg ((Ch.new id n seq).cells sp (.slice (some ⟨r22,0,none⟩) 1 1) (.slice none 0 0) r26 cp).toArray)) eD)):=cU.new hr32
 have B5:Bx (h4.set r32 (.cells (Value.cells (.agg ((Ch.new id n seq).cells sp (.slice (some ⟨r22,0,none⟩) 1 1) (.slice none 0 0) r26 cp).toArray)) eD)) r32 ((Ch.new id n seq).cells sp (.slice (some ⟨r22,0,none⟩) 1 1) (.slice none 0 0) r26 cp):=Bx.new
 generalize h4.set r32 (.cells (Value.cells (.agg ((Ch.new id n seq).cells sp (.slice (some ⟨r22,0,none⟩) 1 1) (.slice none 0 0) r26 cp).toArray)) eD)=h5 at *
 have e25:=(u3.trans u4).trans u5
 have A:aAt (.slice (some ⟨r22,0,none⟩) 1 1) [[]] h5 [r22]:=by
  refine⟨[(Value.slice none 0 0,[])],[r22],[],(O3.ext u4).ext u5,λx hx=>?_,rfl,rfl,λg hg=>by cases hg⟩
  simp only[fW] at hx
  subst hx
  exact⟨(eS.nil (e:=eQ) (size:=5)).slR,λa n c e=>by cases e⟩
 have k22:∀b∈F2,b≠r22:=λb hb e=>C2.known b hb (e▸hr22)
 have k22':∀b∈F1,b≠r22:=λb hb e=>by
  have:=tR.known (S1.ext u2) b hb
  rw[e] at this;exact this hr22
 have k12:∀b∈F1,b∉F2:=λb hb hb'=>S1.known b hb (f2 b hb')
 have k26a:∀b∈F1,b≠r26:=λb hb e=>by
  have:=tR.known ((S1.ext u2).ext u3) b hb
  rw[e] at this;exact this hr26
 have k26b:∀b∈F2,b≠r26:=λb hb e=>(C2.ext u3).known b hb (e▸hr26)
 have k26c:r22≠r26:=λe=>by
  have:=O3.known r22 (by simp)
  rw[e] at this;exact this hr26
 have k32a:∀b∈F1,b≠r32:=λb hb e=>by
  have:=tR.known (((S1.ext u2).ext u3).ext u4) b hb
  rw[e] at this;exact this hr32
 have k32b:∀b∈F2,b≠r32:=λb hb e=>((C2.ext u3).ext u4).known b hb (e▸hr32)
 have k32c:r22≠r32:=λe=>by
  have:=(O3.ext u4).known r22 (by simp)
  rw[e] at this;exact this hr32
 have k32d:r26≠r32:=λe=>by
  have:=iQ.known M4
  rw[e] at this;exact this hr32
 have T5:(dT (wU eQ 5 (.slice none 0 0) (([]:List Nt).map Nt.cells)) (aAt (.slice (some ⟨r22,0,none⟩) 1 1) [[]])) h5 ([]++[r22]):=dT.mk eS.nil A (λb hb=>by cases hb)
 have T4:(dT (aC9 cp []) (dT (wU eQ 5 (.slice none 0 0) (([]:List Nt).map Nt.cells)) (aAt (.slice (some ⟨r22,0,none⟩) 1 1) [[]]))) h5 (F2++([]++[r22])):=dT.mk ⟨[],C2.ext e25⟩ T5 (λb hb=>by simpa using k22 b hb)
 have T3:(dT (aCz r26 []) (dT (aC9 cp []) (dT (wU eQ 5 (.slice none 0 0) (([]:List Nt).map Nt.cells)) (aAt (.slice (some ⟨r22,0,none⟩) 1 1) [[]])))) h5 ([r26]++(F2++([]++[r22]))):=dT.mk ⟨rfl,iQ.ext M4 u5⟩ T4 (λb hb=>by
  simp only[fW] at hb
  subst hb
  simp only[wN,jJ,fW,not_or]
  exact⟨λhx=>k26b b hx rfl,λe=>k26c e.symm⟩)
 have T2:(dT (stA sp ⟨[],[[]],n⟩) (dT (aCz r26 []) (dT (aC9 cp []) (dT (wU eQ 5 (.slice none 0 0) (([]:List Nt).map Nt.cells)) (aAt (.slice (some ⟨r22,0,none⟩) 1 1) [[]]))))) h5 (F1++([r26]++(F2++([]++[r22])))):=dT.mk ((S1.ext u2).ext e25) T3 (λb hb=>by
  simp only[wN,jJ,fW,not_or]
  exact⟨k26a b hb,k12 b hb,k22' b hb⟩)
 have T1:iV r32 ((Ch.new id n seq).cells sp (.slice (some ⟨r22,0,none⟩) 1 1) (.slice none 0 0) r26 cp) sp ⟨[],[[]],n⟩ r26 [] cp [] (.slice none 0 0) [] (.slice (some ⟨r22,0,none⟩) 1 1) [[]] h5 ([r32]++(F1++([r26]++(F2++([]++[r22]))))):=dT.mk ⟨rfl,B5⟩ T2 (λb hb=>by
  simp only[fW] at hb
  subst hb
  simp only[wN,jJ,fW,not_or]
  exact⟨λhx=>k32a b hx rfl,λe=>k32d e.symm,λhx=>k32b b hx rfl,λe=>k32c e.symm⟩)
 refine hk h5 r32 _ ⟨sp,r26,cp,.slice none 0 0,_,[],T1,List.Perm.refl _,⟨by show id=0∨id=1;omega,rfl,rfl,hs,by show 1≤seq;omega,by show 0≤_;omega,(λx hx=>by cases hx),(λb hb=>?_)⟩⟩ ?_ ((u1.trans u2).trans e25)
 ·have:b=[]:=by simpa[Ch.new] using hb
  subst this
  exact⟨by simp,by simp⟩
 ·intro b hb
  simp only[wN,jJ,fW] at hb
  rcases hb with rfl|hb|rfl|hb|rfl
  ·exact((u1.trans u2).trans (u3.trans u4)).none hr32
  ·exact f1 b hb
  ·exact((u1.trans u2).trans u3).none hr26
  ·exact u1.none (f2 b hb)
  ·exact(u1.trans u2).none hr22
end Go.Proofs.YtcoajnpchhmgjaaGreatDoor
namespace Go.Proofs.YtcoajnpchhmgjaaGreatDoor
open Go Bld
structure Cut(L:List Pr)(k:Tx)(A M B:List Pr):Prop where
 eq:L=A++(M++B)
 lo:∀p∈A,p.k<k
 hi:∀p∈B,k<p.k
 mid:M=[]∨∃p,M=[p]∧p.k=k
theorem qR.cut(k:Tx):∀{L:List Pr},qR L->∃A M B,Cut L k A M B
 | [],_=>⟨[],[],[],rfl,by simp,by simp,.inl rfl⟩
 | p::L,h=>by
  unfold qR at h
  rw[List.pairwise_cons] at h
  obtain⟨h1,h2⟩:=h
  rcases aGy p.k k with e|e|e
  ·obtain⟨A,M,B,c⟩:=qR.cut k h2
   refine⟨p::A,M,B,by rw[c.eq];rfl,λq hq=>?_,c.hi,c.mid⟩
   rcases gZ.1 hq with rfl|hq
   ·exact e
   ·exact c.lo q hq
  ·exact⟨[],[p],L,rfl,by simp,λq hq=>by rw[←e];exact h1 q hq,.inr ⟨p,rfl,e⟩⟩
  ·refine⟨[],[],p::L,rfl,by simp,λq hq=>?_,.inl rfl⟩
   rcases gZ.1 hq with rfl|hq
   ·exact e
   ·exact List.lt_trans e (h1 q hq)
theorem Cut.set{L A M B:List Pr}{k v:Tx}(c:Cut L k A M B)(h:qR L):mZ L ⟨k,v⟩=A++⟨k,v⟩::B:=by
 unfold mZ
 have fA:A.filter (λq=>decide (q.k<k))=A:=aMP.2 λp hp=>by simpa using c.lo p hp
 have fA2:A.filter (λq=>decide (k<q.k))=[]:=List.filter_eq_nil_iff.2 λp hp=>by simpa using List.lt_asymm (c.lo p hp)
 have fB:B.filter (λq=>decide (k<q.k))=B:=aMP.2 λp hp=>by simpa using c.hi p hp
 have fB2:B.filter (λq=>decide (q.k<k))=[]:=List.filter_eq_nil_iff.2 λp hp=>by simpa using List.lt_asymm (c.hi p hp)
 have fM:M.filter (λq=>decide (q.k<k))=[]:=List.filter_eq_nil_iff.2 λp hp=>by
  rcases c.mid with e|⟨q,e,e2⟩
  ·rw[e] at hp;cases hp
  ·rw[e] at hp;simp only[fW] at hp;subst hp;rw[e2];simp[zLY]
 have fM2:M.filter (λq=>decide (k<q.k))=[]:=List.filter_eq_nil_iff.2 λp hp=>by
  rcases c.mid with e|⟨q,e,e2⟩
  ·rw[e] at hp;cases hp
  ·rw[e] at hp;simp only[fW] at hp;subst hp;rw[e2];simp[zLY]
 rw[c.eq,aIf,aIf,aIf,aIf]
 simp only[fA,fA2,fB,fB2,fM,fM2,zLN,wN]
theorem Cut.del{L A M B:List Pr}{k:Tx}(c:Cut L k A M B):zM L k=A++B:=by
 unfold zM
 have fA:A.filter (λq=>decide (q.k≠k))=A:=aMP.2 λp hp=>by
  have:=c.lo p hp
  simp only[decide_eq_true_eq];intro e;rw[e] at this;exact zLY _ this
 have fB:B.filter (λq=>decide (q.k≠k))=B:=aMP.2 λp hp=>by
  have:=c.hi p hp
  simp only[decide_eq_true_eq];intro e;rw[e] at this;exact zLY _ this
 have fM:M.filter (λq=>decide (q.k≠k))=[]:=List.filter_eq_nil_iff.2 λp hp=>by
  rcases c.mid with e|⟨q,e,e2⟩
  ·rw[e] at hp;cases hp
  ·rw[e] at hp;simp only[fW] at hp;subst hp;simp[e2]
 rw[c.eq,aIf,aIf,fA,fB,fM,wN]
theorem Cut.get{L A M B:List Pr}{k:Tx}(c:Cut L k A M B)(h:qR L):(gQ L k).isSome=decide (M≠[]):=by
 rcases c.mid with e|⟨q,e,e2⟩
 ·subst e
  have:gQ L k=none:=aEg.2 λp hp e=>by
   rw[c.eq,wN,jJ] at hp
   rcases hp with hp|hp
   ·have:=c.lo p hp;rw[e] at this;exact zLY _ this
   ·have:=c.hi p hp;rw[e] at this;exact zLY _ this
  rw[this];rfl
 ·subst e
  have:gQ L k=some q:=(uM h).2 ⟨by rw[c.eq];simp,e2⟩
  rw[this];rfl
def aEN(x:Value×List Pr):List Value:=[x.1]
theorem aEN.rows(l:List (Value×List Pr)):Rows 1 (l.map aEN):=λr hr=>by
 obtain⟨p,-,rfl⟩:=lI.1 hr;rfl
structure vF(h:PH)(b:Nat)(s:St)(G:List Nat):Prop where
 here:∃(nv bv:Value) (bl:List (Value×List Pr)),h b=some (.cells #[nv,.int .u64 ((s.height-(s.blocks.length-1):Nat):Int),bv] dK (0,0))∧fY h 2 nv (s.now.map Pr.cells)∧fY h 1 bv (bl.map aEN)∧
  (∀x∈bl,fY h 2 x.1 (x.2.map Pr.cells)∧aCx x.1 G)∧bl.map (·.2)=s.blocks∧aCx nv G∧aCx bv G∧b∉G∧∀g∈G,h g≠none
 ok:s.Ok
theorem vF.upd{h h':PH}{b:Nat}{s:St}{G K:List Nat}(H:vF h b s G)(u:cU K h h')(hb:b∉K)(hd:∀g∈G,g∉K):vF h' b s G:=by
 obtain⟨nv,bv,bl,h1,h2,h3,h4,h5,h6,h7,h8,h9⟩:=H.here
 refine⟨⟨nv,bv,bl,u.get h1 hb,h2.upd u λa n c e=>hd _ (h6 a n c e),h3.upd u λa n c e=>hd _ (h7 a n c e),λx hx=>⟨(h4 x hx).1.upd u λa n c e=>hd _ ((h4 x hx).2 a n c e),(h4 x hx).2⟩,h5,h6,h7,h8,λg hg=>?_⟩,H.ok⟩
 obtain⟨o,ho⟩:=aGu.1 (h9 g hg)
 rw[u.get ho (hd g hg)];simp
theorem vF.ext{h h':PH}{b:Nat}{s:St}{G:List Nat}(H:vF h b s G)(u:dC h h'):vF h' b s G:=H.upd u (by simp) (by simp)
theorem vF.known{h:PH}{b:Nat}{s:St}{G:List Nat}(H:vF h b s G):∀g∈b::G,h g≠none:=by
 obtain⟨nv,bv,bl,h1,h2,h3,h4,h5,h6,h7,h8,h9⟩:=H.here
 intro g hg
 rcases gZ.1 hg with rfl|hg
 ·rw[h1];simp
 ·exact h9 g hg
theorem aWa{h:PH}(n:Nat)(hn:n<18446744073709551616){k:cD}(hk:∀b h' G,vF h' b ⟨[],[[]],n⟩ G->eP h (b::G)->dC h h'->k (pT b 0) h'):aT PG aDV #[.int .u64 (n:Int)] h k:=by
 apply aCv.call
 unfold aCv
 have b1:jS PG (buildSlice fI 1 #[(0,(Value.slice none 0 0))])=some (.cells #[.slice none 0 0] cJ,λr=>pure (.slice (some ⟨r,0,none⟩) 1 1)):=by kernel_rfl
 simp only[b1,cE,reduceIte]
 intro r hr
 refine fT ?_
 try rw[cZ]
 have u1:dC h (h.set r (.cells #[.slice none 0 0] cJ)):=cU.new hr
 have O1:eS (h.set r (.cells #[.slice none 0 0] cJ)) cJ 1 (.slice (some ⟨r,0,none⟩) 1 1) ([((.slice none 0 0:Value),([]:List Pr))].map aEN) [r]:=eS.lit (n:=1) (aEN.rows [((.slice none 0 0:Value),([]:List Pr))]) dL (by simp) (by decide) rfl
 generalize h.set r (.cells #[.slice none 0 0] cJ)=h1 at *
 have b2:cV PG (build dK #[(1,.int .u64 (n:Int)),(2,.slice (some ⟨r,0,none⟩) 1 1)])=some (.agg #[.slice none 0 0,.int .u64 (n:Int),.slice (some ⟨r,0,none⟩) 1 1]):=by kernel_rfl
 simp only[b2,cE,reduceIte]
 intro b hb
 try rw[cZ]
 have u2:dC h1 (h1.set b (.cells (Value.cells (.agg #[.slice none 0 0,.int .u64 (n:Int),.slice (some ⟨r,0,none⟩) 1 1])) dK)):=cU.new hb
 have hrb:b≠r:=by rintro rfl;exact O1.known _ (by simp) hb
 refine hk b _ [r] ⟨⟨.slice none 0 0,.slice (some ⟨r,0,none⟩) 1 1,[(.slice none 0 0,[])],dL,(eS.nil (e:=cM)).slR,(O1.ext u2).slR,?_,rfl,(λy m c e=>by cases e),aFs O1,by simpa using hrb,?_⟩,St.Ok.new n hn⟩ (λg hg=>?_) (u1.trans u2)
 ·intro x hx
  simp only[fW] at hx
  subst hx
  exact⟨(eS.nil (e:=cM)).slR,λx n c e=>by cases e⟩
 ·intro g hg
  exact(O1.ext u2).known g hg
 ·simp only[gZ,kW,or_false] at hg
  rcases hg with rfl|rfl
  ·exact u1.none hb
  ·exact hr
theorem aNm{h:PH}{b:Nat}{s:St}{G:List Nat}(H:vF h b s G){key:Tx}{A M B:List Pr}(c:Cut s.now key A M B){k:cD}(hk:k (.tuple #[.int .i64 (A.length:Int),.bool (decide (M≠[]))]) h):
  aT PG oR #[pT b 0,.string (tx key)] h k:=by
 apply oE.call
 unfold oE
 have hfew:=H.ok.few
 obtain⟨nv,bv,bl,h1,h2,h3,h4,h5,h6,h7,h8,h9⟩:=H.here
 have c0:dD h ⟨b,0,none⟩=some nv:=by simp[dD,h1]
 have ln:=h2.len (t':=bT) cJ.und
 rw[jC] at ln
 have hlen:s.now.length=A.length+(M.length+B.length):=by rw[c.eq];simp
 refine⟨λvs h'=>∃i,i≤A.length∧vs=[pT b 0,.string (tx key),.int .i64 (i:Int)]∧h'=h,iE A.length 2,⟨0,by omega,rfl,rfl⟩,?_⟩
 rintro ρ h' ⟨i,hi,hvs,rfl⟩
 simp only[iH,iU,lF,and_true] at hvs
 obtain⟨v0,v1,v6⟩:=hvs
 simp only[v0,v1,v6,iH,iU]
 unfold aDM
 by_cases hl:i<s.now.length
 ·have g1:((i:Int)<(s.now.length:Int))=True:=eq_true (by omega)
  have gi:=rA (i:=i) (by omega)
  obtain⟨p,hp⟩:∃p,s.now[i]? =some p:=⟨s.now[i],lS hl⟩
  obtain⟨pb,po,e1,e2,-,-⟩:=h2.pair (j:=i) (p:=p) hp
  by_cases hiA:i<A.length
  ·have hpA:p∈A:=by
    rw[c.eq,List.getElem?_append_left hiA] at hp
    exact sH hp
   have hlt:=c.lo p hpA
   simp only[dK.f0,cJ.load,c0,ln,g1,e1,cM.f0,bR.load,e2,xD,hlt,gi,cE,reduceIte]
   refine⟨⟨i+1,by omega,rfl,(by trivial)⟩,?_⟩
   simp only[iE,sB,pI]
   omega
  ·have hiE:i=A.length:=by omega
   have hp2:(M++B)[0]? =some p:=by
    rw[c.eq,List.getElem?_append_right (by omega),hiE,Nat.sub_self] at hp
    exact hp
   have hnl:¬p.k<key:=by
    rcases c.mid with e|⟨q,e,e3⟩
    ·rw[e,wN] at hp2
     exact List.lt_asymm (c.hi p (sH hp2))
    ·rw[e] at hp2
     simp only[zLT,pI,zL5] at hp2
     rw[←hp2,e3];exact zLY _
   have heq:decide (p.k=key)=decide (M≠[]):=by
    rcases c.mid with e|⟨q,e,e3⟩
    ·rw[e,wN] at hp2
     have:=c.hi p (sH hp2)
     have hne:p.k≠key:=λe=>by rw[e] at this;exact zLY _ this
     simp[e,hne]
    ·rw[e] at hp2
     simp only[zLT,pI,zL5] at hp2
     rw[←hp2]
     simp[e,e3]
   simp only[dK.f0,cJ.load,c0,ln,g1,e1,cM.f0,bR.load,e2,xD,hnl,aEv,heq,cE,reduceIte]
   rw[hiE];exact hk
 ·have g1:((i:Int)<(s.now.length:Int))=False:=eq_false (by omega)
  have hiE:i=A.length:=by omega
  have hM:M=[]:=zLL (by omega)
  simp only[dK.f0,cJ.load,c0,ln,g1,cE,reduceIte]
  have:decide (M≠[])=false:=by simp[hM]
  rw[this] at hk
  rw[hiE];exact hk
end Go.Proofs.YtcoajnpchhmgjaaGreatDoor
namespace Go.Proofs.YtcoajnpchhmgjaaGreatDoor
open Go
theorem aV6:jS PG (buildSlice eH 1 #[(0,.slice none 0 0)])=some (.cells #[.slice none 0 0] dB,λr=>pure (.slice (some ⟨r,0,none⟩) 1 1)):=by kernel_rfl
theorem aNa{r o i:Nat}(hi:i<2):cV PG (indexAt eJ (pT r o) (.int .i64 (i:Int)))=some (pT r (o+i)):=by
 have ix:=aAy (P:=PG) (t:=eJ) (b:=r) (o:=o) (k:=.i64) (j:=(i:Int)) eJ.und cA.info cA.size (by omega) (by omega)
 rw[ix,qQ,Nat.mul_one]
theorem aN0{r o i:Nat}(hi:i<2):cV PG (indexAt jP (pT r o) (.int .i64 (i:Int)))=some (pT r (o+i)):=by
 have ix:=aAy (P:=PG) (t:=jP) (b:=r) (o:=o) (k:=.i64) (j:=(i:Int)) jP.und dG.info dG.size (by omega) (by omega)
 rw[ix,qQ,Nat.mul_one]
def tS(a b:Nat):Value:=.agg #[.int .u64 (a:Int),.int .u64 (b:Int)]
def u2c(a b:Nat):List Value:=[.int .u64 (a:Int),.int .u64 (b:Int)]
def aMd(t:Nat)(a b:Ch):kG:=λh F=>∃(c0 c1 m:Nat),(dT (pM t [pT c0 0,pT c1 0,pT m 0]) (dT (iO c0 a) (iO c1 b))) h F
theorem aMd.good(t:Nat)(a b:Ch):kN (aMd t a b) where
 known:=λ⟨_,_,_,H⟩=>((pM.good _ _).star ((iO.good _ _).star (iO.good _ _))).known H
 upd:=λ⟨c0,c1,m,H⟩ u hK=>⟨c0,c1,m,((pM.good _ _).star ((iO.good _ _).star (iO.good _ _))).upd H u hK⟩
theorem aX9(m:Nat):cV PG (build fZ #[(1,pT m 0)])=some (.agg #[.pointer none,.pointer none,pT m 0]):=by kernel_rfl
structure kM where
 kind:Int
 id:Int
 h:Nat
 d:Tx
 p:Pk
 sp:Bool
def kM.cells(a:kM):List Value:=[.int .i64 a.kind,.int .i64 a.id,.int .u64 (a.h:Int),.string (tx a.d),.int .i64 a.p.f,.int .u64 a.p.s,.int .u64 a.p.t,.string a.p.d,.bool a.sp]
def kM.v(a:kM):Value:=.agg a.cells.toArray
structure kM.wf(a:kM):Prop where
 h:a.h<18446744073709551616
 p:a.p.wf
def aIV(a:kM):Tx:=if a.kind=2 then gH 99 a.p.s.toNat else if a.kind=3 then gH 97 a.p.s.toNat else gH 114 a.p.s.toNat
def pV(id:Int):Nat:=if id=1 then 1 else 0
def kX(o:Ch)(a:kM):Tx:=if a.sp=false∧2≤a.kind∧a.kind≤4 then(aE6 o.st (aIV a) a.h).1 else a.d
noncomputable def jU(c o:Ch)(a:kM):Ch×(Pk×Nat×Int):=
 if a.kind=0 then(if rB c a.d a.h=0 then(c.sent (kB c a.d a.h),(kB c a.d a.h,0,0)) else(c,(default,0,rB c a.d a.h)))
 else if a.kind=1 then(match qD o.st a.h with
  | none=>(c,(default,0,3))
  | some b=>(c.told (a.h:Int) (jX b),(default,0,(yS c.cl ⟨(a.h:Int),tx (jX b)⟩).1)))
 else if a.kind=2 then(if pD c (pW c a.p (kX o a) (a.h:Int))=0 then(c.received a.p,(default,0,0)) else(c,(default,0,pD c (pW c a.p (kX o a) (a.h:Int)))))
 else if a.kind=3 then(if jF c a.p (xH c a.p (kX o a) (a.h:Int))=0 then(c.settled 3 a.p,(default,0,0)) else(c,(default,0,jF c a.p (xH c a.p (kX o a) (a.h:Int)))))
 else if a.kind=4 then(if jF c a.p (qL c a.p (kX o a) (a.h:Int))=0 then(c.settled 4 a.p,(default,0,0)) else(c,(default,0,jF c a.p (qL c a.p (kX o a) (a.h:Int)))))
 else if a.kind=5 then(c.committed,(default,(jO c.st).2.1,(jO c.st).2.2))
 else(c,(default,0,0))
theorem aLu{h:PH}(id:Int){k:cD}(hk:k (.int .i64 ((pV id:Nat):Int)) h):aT PG qK #[.int .i64 id] h k:=by
 apply aBv.call
 unfold aBv
 unfold pV at hk
 by_cases e:id=1
 ·have q:(id==1)=true:=by simp[e]
  rw[if_pos e] at hk
  simp only[hE,q,cE,reduceIte,cT,Nat.reduceAdd]
  exact hk
 ·have q:(id==1)=false:=by simp[e]
  rw[if_neg e] at hk
  simp only[hE,q,cE,reduceIte,cT,Nat.reduceAdd]
  exact hk
theorem aOY{h:PH}{a:kM}(w:a.wf){k:cD}(hk:∀h',dC h h'->k (.string (tx (aIV a))) h'):aT PG vL #[a.v] h k:=by
 apply zC.call
 unfold zC
 obtain⟨n,hn⟩:=zLm w.p.1
 have hn2:n<18446744073709551616:=by have:=w.p.2.1;omega
 intro r1 hr1
 try rw[cZ]
 have u1:dC h (h.set r1 (.cells (Value.cells a.v) cH)):=cU.new hr1
 have B1:Bx (h.set r1 (.cells (Value.cells a.v) cH)) r1 a.cells:=Bx.new
 generalize h.set r1 (.cells (Value.cells a.v) cH)=h1 at *
 have lk:cG PG h1 (loadAt bT (pT r1 0))=some (.int .i64 a.kind):=by rw[bT.load,B1.cell];rfl
 have ls:cG PG h1 (loadAt cA (pT r1 5))=some (.int .u64 (n:Int)):=by rw[cA.load,B1.cell,←hn];rfl
 have q99:({data:=#[99]}:ByteArray)=tx [99]:=rfl
 have q97:({data:=#[97]}:ByteArray)=tx [97]:=rfl
 have q114:({data:=#[114]}:ByteArray)=tx [114]:=rfl
 unfold aIV at hk
 rw[hn,qQ] at hk
 by_cases e2:a.kind=2
 ·have q:(a.kind==2)=true:=by simp[e2]
  rw[if_pos e2] at hk
  simp only[cH.f0,cH.f4,aR.f1,fL,Nat.reduceAdd,lk,hE,q,ls,q99,cE,reduceIte,cT,Nat.reduceAdd]
  exact aAB hn2 λh2 u2=>hk h2 (u1.trans u2)
 have q2:(a.kind==2)=false:=by simp[e2]
 rw[if_neg e2] at hk
 by_cases e3:a.kind=3
 ·have q:(a.kind==3)=true:=by simp[e3]
  rw[if_pos e3] at hk
  simp only[cH.f0,cH.f4,aR.f1,fL,Nat.reduceAdd,lk,hE,q2,q,ls,q97,cE,reduceIte,cT,Nat.reduceAdd]
  exact aAB hn2 λh2 u2=>hk h2 (u1.trans u2)
 have q3:(a.kind==3)=false:=by simp[e3]
 rw[if_neg e3] at hk
 simp only[cH.f0,cH.f4,aR.f1,fL,Nat.reduceAdd,lk,hE,q2,q3,ls,q114,cE,reduceIte,cT,Nat.reduceAdd]
 exact aAB hn2 λh2 u2=>hk h2 (u1.trans u2)
theorem aWE{h:PH}{F:List Nat}{c:Nat}{s:Ch}{W:kG->kG}(f:uJ h F (iO c s) W)(gW:∀s',kN (W (iO c s'))){o:Nat}{so:Ch}{Fo:List Nat}(HO:iO o so h Fo)(hK:mK h)(h0F:0∉F){a:kM}(wa:a.wf){r1 r3:Nat}(B1:Bx h r1 a.cells){cs:List Value}(hcs:cs.length=4)(B3:Bx h r3 cs)(n3:r3∉F)(hl:s.nts.length<1000000){R:cD}
  (hR:∀h' F',W (iO c (jU s so a).1) h' F'->cU (r3::F) h h'->(∀b∈F',b∈F∨h b=none)->R (.tuple #[(jU s so a).2.1.v,.int .u64 ((jU s so a).2.2.1:Int),.int .i64 (jU s so a).2.2.2]) h'):
  oF R (pT r1 0) (pT r3 0) (pT c 0) (pT o 0) (.string (tx (kX so a))) h:=by
 unfold oF
 have fin:∀{h1:PH} {F1:List Nat} {s':Ch} {pk:Pk} {hh:Nat} {e:Int},W (iO c s') h1 F1->iR h F h1 F1->jU s so a=(s',(pk,hh,e))->cW PG (dJ aR (pT r3 0) pk.v) h1 λ_ h80=>dZ (cG PG h80 (loadAt aR (pT r3 0))) λv81=>R (.tuple #[v81,.int .u64 (hh:Int),.int .i64 e]) h80:=by
  intro h1 F1 s' pk hh e H1 s1 ed
  have B31:=B3.upd s1.upd n3
  refine aR.put (vs:=pk.cells) B31 (o:=0) rfl (by omega) (Pk.isC _) λh2 B2 u2=>?_
  have l2:cG PG h2 (loadAt aR (pT r3 0))=some pk.v:=B2.pk (by simp[Pk.cells])
  simp only[l2,cE,reduceIte,cT,Nat.reduceAdd]
  have m3:r3∉F1:=λhm=>by
   rcases s1.grow _ hm with hx|hx
   ·exact n3 hx
   ·exact B3.known hx
  rw[ed] at hR
  exact hR h2 F1 ((gW s').upd H1 u2 (λb hb hb'=>by simp only[fW] at hb';exact m3 (hb'▸hb))) (λb ob hb hn=>by
   simp only[gZ,not_or] at hn
   exact u2 b ob (s1.upd b ob hb hn.2) (by simpa using hn.1)) s1.grow
 have lk:cG PG h (loadAt bT (pT r1 0))=some (.int .i64 a.kind):=by rw[bT.load,B1.cell];rfl
 have lh:cG PG h (loadAt cA (pT r1 2))=some (.int .u64 (a.h:Int)):=by rw[cA.load,B1.cell];rfl
 have ld:cG PG h (loadAt bR (pT r1 3))=some (.string (tx a.d)):=by rw[bR.load,B1.cell];rfl
 have lp:cG PG h (loadAt aR (pT r1 4))=some a.p.v:=B1.pk rfl
 obtain⟨Fa,HA,hFa,back⟩:=f
 have h0a:0∉Fa:=λhm=>h0F (hFa _ hm)
 have hd:jU s so a=if a.kind=0 then(if rB s a.d a.h=0 then(s.sent (kB s a.d a.h),(kB s a.d a.h,0,0)) else(s,(default,0,rB s a.d a.h)))
   else if a.kind=1 then(match qD so.st a.h with
    | none=>(s,(default,0,3))
    | some b=>(s.told (a.h:Int) (jX b),(default,0,(yS s.cl ⟨(a.h:Int),tx (jX b)⟩).1)))
   else if a.kind=2 then(if pD s (pW s a.p (kX so a) (a.h:Int))=0 then(s.received a.p,(default,0,0)) else(s,(default,0,pD s (pW s a.p (kX so a) (a.h:Int)))))
   else if a.kind=3 then(if jF s a.p (xH s a.p (kX so a) (a.h:Int))=0 then(s.settled 3 a.p,(default,0,0)) else(s,(default,0,jF s a.p (xH s a.p (kX so a) (a.h:Int)))))
   else if a.kind=4 then(if jF s a.p (qL s a.p (kX so a) (a.h:Int))=0 then(s.settled 4 a.p,(default,0,0)) else(s,(default,0,jF s a.p (qL s a.p (kX so a) (a.h:Int)))))
   else if a.kind=5 then(s.committed,(default,(jO s.st).2.1,(jO s.st).2.2))
   else(s,(default,0,0)):=rfl
 by_cases k0:a.kind=0
 ·have q:(a.kind==0)=true:=by simp[k0]
  rw[if_pos k0] at hd
  simp only[cH.f0,cH.f2,cH.f3,fL,lk,ld,lh,hE,q,cE,reduceIte,cT,Nat.reduceAdd]
  have last:∀{h1:PH} {F1:List Nat} {s':Ch} {pk:Pk} {e:Int},W (iO c s') h1 F1->iR h F h1 F1->jU s so a=(s',(pk,0,e))->∀r74,h1 r74=none->eV (PH.set h1 r74 (.cells (dP PG aR) aR)) λh75=>
    cW PG (dJ aR (pT r74 0) pk.v) h75 λv76 h77=>
    dZ (cG PG h77 (loadAt aR (pT r74 0))) λv78=>
    cW PG (dJ aR (pT r3 0) v78) h77 λv79 h80=>
    dZ (cG PG h80 (loadAt aR (pT r3 0))) λv81=>
    R (.tuple #[v81,(Value.int IntKind.u64 0),.int .i64 e]) h80:=by
   intro h1 F1 s' pk e H1 s1 ed r74 hr74
   try rw[cZ]
   refine aR.fill (vs:=pk.cells) hr74 rfl (Pk.isC _) λh2 B2 u2=>?_
   have l2:cG PG h2 (loadAt aR (pT r74 0))=some pk.v:=B2.pk rfl
   simp only[l2,cE,reduceIte,cT,Nat.reduceAdd]
   exact fin (hh:=0) ((gW s').ext H1 u2) (s1.trans (iR.ext u2)) ed
  refine aPY hK HA a.d wa.h hl (λhe h1 F1 H1 s1 _=>?_) (λhe h1 F1 H1 s1=>?_)
  ·rw[if_neg he] at hd
   obtain⟨F2,W2,s2⟩:=back _ h1 F1 H1 s1
   have:=last W2 s2 hd
   simp only[cE,reduceIte,cT,Nat.reduceAdd] at this ⊢
   exact this
  ·rw[if_pos he] at hd
   obtain⟨F2,W2,s2⟩:=back _ h1 F1 H1 s1
   have:=last W2 s2 hd
   simp only[cE,reduceIte,cT,Nat.reduceAdd] at this ⊢
   exact this
 have q0:(a.kind==0)=false:=by simp[k0]
 rw[if_neg k0] at hd
 by_cases k1:a.kind=1
 ·have q:(a.kind==1)=true:=by simp[k1]
  rw[if_pos k1] at hd
  obtain⟨sp,m,cp,nv,bv,lk',P,perm,ok⟩:=HO
  obtain⟨Fs,St,-,-⟩:=P.fSt
  simp only[cH.f0,cH.f2,eD.f0,eK.f0,fL,lk,lh,Ch.load0 P.cell,hE,q0,q,cE,reduceIte,cT,Nat.reduceAdd]
  refine aTA St a.h wa.h (λe h1 u1=>?_) (λb h1 e u1=>?_)
  ·rw[e] at hd
   obtain⟨F2,W2,s2⟩:=back _ h1 Fa ((iO.good c s).ext HA u1) (iR.ext u1)
   have qe:((3:Int) !=0)=true:=by decide
   simp only[kU,qe,Pk.zb,cE,reduceIte,cT,Nat.reduceAdd]
   exact fin (hh:=0) W2 s2 hd
  ·rw[e] at hd
   have lh1:cG PG h1 (loadAt cA (pT r1 2))=some (.int .u64 (a.h:Int)):=by rw[cA.load,(B1.ext u1).cell];rfl
   simp only[kU,Pk.zb,cH.f2,fL,lh1,cE,reduceIte,cT,Nat.reduceAdd]
   refine aRy ((iO.good c s).ext HA u1) (a.h:Int) (jX b) λh2 F2 H2 s2=>?_
   obtain⟨F3,W3,s3⟩:=back _ h2 F2 H2 ((iR.ext u1).trans s2)
   exact fin (hh:=0) W3 s3 hd
 have q1:(a.kind==1)=false:=by simp[k1]
 rw[if_neg k1] at hd
 by_cases k2:a.kind=2
 ·have q:(a.kind==2)=true:=by simp[k2]
  rw[if_pos k2] at hd
  simp only[cH.f0,cH.f2,cH.f4,fL,lk,lh,lp,hE,q0,q1,q,Pk.zb,cE,reduceIte,cT,Nat.reduceAdd]
  refine aVI hK HA h0a wa.p hl (λhe h1 H1 u1=>?_) (λhe h1 F1 H1 s1=>?_)
  ·rw[if_neg he] at hd
   obtain⟨F2,W2,s2⟩:=back _ h1 Fa H1 (iR.ext u1)
   exact fin (hh:=0) W2 s2 hd
  ·rw[if_pos he] at hd
   obtain⟨F2,W2,s2⟩:=back _ h1 F1 H1 s1
   exact fin (hh:=0) W2 s2 hd
 have q2:(a.kind==2)=false:=by simp[k2]
 rw[if_neg k2] at hd
 by_cases k3:a.kind=3
 ·have q:(a.kind==3)=true:=by simp[k3]
  rw[if_pos k3] at hd
  simp only[cH.f0,cH.f2,cH.f4,fL,lk,lh,lp,hE,q0,q1,q2,q,Pk.zb,cE,reduceIte,cT,Nat.reduceAdd]
  refine aWR hK HA wa.p hl (λhe h1 H1 u1=>?_) (λhe h1 F1 H1 s1=>?_)
  ·rw[if_neg he] at hd
   obtain⟨F2,W2,s2⟩:=back _ h1 Fa H1 (iR.ext u1)
   exact fin (hh:=0) W2 s2 hd
  ·rw[if_pos he] at hd
   obtain⟨F2,W2,s2⟩:=back _ h1 F1 H1 s1
   exact fin (hh:=0) W2 s2 hd
 have q3:(a.kind==3)=false:=by simp[k3]
 rw[if_neg k3] at hd
 by_cases k4:a.kind=4
 ·have q:(a.kind==4)=true:=by simp[k4]
  rw[if_pos k4] at hd
  simp only[cH.f0,cH.f2,cH.f4,fL,lk,lh,lp,hE,q0,q1,q2,q3,q,Pk.zb,cE,reduceIte,cT,Nat.reduceAdd]
  refine aQh hK HA wa.p hl (λhe h1 H1 u1=>?_) (λhe h1 F1 H1 s1=>?_)
  ·rw[if_neg he] at hd
   obtain⟨F2,W2,s2⟩:=back _ h1 Fa H1 (iR.ext u1)
   exact fin (hh:=0) W2 s2 hd
  ·rw[if_pos he] at hd
   obtain⟨F2,W2,s2⟩:=back _ h1 F1 H1 s1
   exact fin (hh:=0) W2 s2 hd
 have q4:(a.kind==4)=false:=by simp[k4]
 rw[if_neg k4] at hd
 by_cases k5:a.kind=5
 ·have q:(a.kind==5)=true:=by simp[k5]
  rw[if_pos k5] at hd
  simp only[cH.f0,fL,lk,hE,q0,q1,q2,q3,q4,q,cE,reduceIte,cT,Nat.reduceAdd]
  refine aKY hK HA λh1 F1 H1 s1=>?_
  obtain⟨F2,W2,s2⟩:=back _ h1 F1 H1 s1
  simp only[Pk.zb,cE,reduceIte,cT,Nat.reduceAdd]
  exact fin W2 s2 hd
 ·have q:(a.kind==5)=false:=by simp[k5]
  rw[if_neg k5] at hd
  obtain⟨F2,W2,s2⟩:=back _ h Fa HA iR.refl
  simp only[cH.f0,fL,lk,hE,q0,q1,q2,q3,q4,q,Pk.zb,cE,reduceIte,cT,Nat.reduceAdd]
  exact fin (hh:=0) W2 s2 hd
noncomputable def gL(a b:Ch)(x:kM):(Ch×Ch)×(Pk×Nat×Int):=if x.id=1 then((a,(jU b a x).1),(jU b a x).2) else(((jU a b x).1,b),(jU a b x).2)
def aCF(c0 c1 m:Nat):List Value:=[pT c0 0,pT c1 0,pT m 0]
def pC(t c0 c1 m:Nat)(a b:Ch):kG:=dT (pM t (aCF c0 c1 m)) (dT (iO c0 a) (iO c1 b))
theorem pC.good(t c0 c1 m:Nat)(a b:Ch):kN (pC t c0 c1 m a b):=(pM.good _ _).star ((iO.good _ _).star (iO.good _ _))
theorem aT6(t c0 c1 m:Nat)(a b:Ch)(x:kM):∃(c o:Nat) (s so:Ch) (W:kG->kG),(∀s',kN (W (iO c s')))∧(aCF c0 c1 m)[pV x.id]? =some (pT c 0)∧(aCF c0 c1 m)[1-pV x.id]? =some (pT o 0)∧(s=a∨s=b)∧(jU s so x).2=(gL a b x).2∧
  (∀{h F},W (iO c (jU s so x).1) h F->pC t c0 c1 m (gL a b x).1.1 (gL a b x).1.2 h F)∧∀{h F},pC t c0 c1 m a b h F->uJ h F (iO c s) W∧(∃Fo,iO o so h Fo)∧Bx h t (aCF c0 c1 m):=by
 by_cases e:x.id=1
 ·refine⟨c1,c0,b,a,λX=>dT (pM t (aCF c0 c1 m)) (dT (iO c0 a) X),λs'=>(pM.good _ _).star ((iO.good _ _).star (iO.good _ _)),by unfold pV;rw[if_pos e];rfl,by unfold pV;rw[if_pos e];rfl,.inr rfl,by unfold gL;rw[if_pos e],fun {h F} H=>?_,fun {h F} H=>⟨?_,?_,?_⟩⟩
  ·unfold gL
   rw[if_pos e]
   exact H
  ·exact(dT.right (pM.good _ _) H).comp λ_ H=>dT.right (iO.good _ _) H
  ·obtain⟨_,_,_,_,⟨Fo,_,_,HO,_,_⟩,_⟩:=H
   exact⟨Fo,HO⟩
  ·obtain⟨_,_,_,⟨_,B⟩,_,_⟩:=H
   exact B
 ·refine⟨c0,c1,a,b,λX=>dT (pM t (aCF c0 c1 m)) (dT X (iO c1 b)),λs'=>(pM.good _ _).star ((iO.good _ _).star (iO.good _ _)),by unfold pV;rw[if_neg e];rfl,by unfold pV;rw[if_neg e];rfl,.inl rfl,by unfold gL;rw[if_neg e],fun {h F} H=>?_,fun {h F} H=>⟨?_,?_,?_⟩⟩
  ·unfold gL
   rw[if_neg e]
   exact H
  ·exact(dT.right (pM.good _ _) H).comp λ_ H=>dT.left (iO.good _ _) H
  ·obtain⟨_,_,_,_,⟨_,Fo,_,_,HO,_⟩,_⟩:=H
   exact⟨Fo,HO⟩
  ·obtain⟨_,_,_,⟨_,B⟩,_,_⟩:=H
   exact B
theorem aQy(id:Int):pV id<2:=by unfold pV;split<;>decide
theorem aTH{h:PH}{t c0 c1 m:Nat}{a b:Ch}{F:List Nat}(S:pC t c0 c1 m a b h F)(hK:mK h)(h0F:0∉F){x:kM}(wx:x.wf)(hla:a.nts.length<1000000)(hlb:b.nts.length<1000000){kk:cD}
  (hk:∀h' F',pC t c0 c1 m (gL a b x).1.1 (gL a b x).1.2 h' F'->iR h F h' F'->kk (.tuple #[(gL a b x).2.1.v,.int .u64 ((gL a b x).2.2.1:Int),.int .i64 (gL a b x).2.2.2]) h'):
  aT PG lX #[pT t 0,x.v] h kk:=by
 apply rF.call
 unfold rF
 obtain⟨c,o,s,so,W,gW,hc,ho,hs,e2,hW,get⟩:=aT6 t c0 c1 m a b x
 have hl:s.nts.length<1000000:=by rcases hs with rfl|rfl<;>assumption
 intro r1 hr1
 try rw[cZ]
 have u1:dC h (h.set r1 (.cells (Value.cells x.v) cH)):=cU.new hr1
 have B1:Bx (h.set r1 (.cells (Value.cells x.v) cH)) r1 x.cells:=Bx.new
 generalize h.set r1 (.cells (Value.cells x.v) cH)=h1 at *
 intro r3 hr3
 try rw[cZ]
 have u3:dC h1 (h1.set r3 (.cells (dP PG aR) aR)):=cU.new hr3
 have Z3:=aR.zbox (h:=h1) (r:=r3)
 have C1:=B1.ext u3
 generalize h1.set r3 (.cells (dP PG aR) aR)=h3 at *
 have e3:=u1.trans u3
 have k3:h r3=none:=u1.none hr3
 have n3:r3∉F:=λhm=>(pC.good _ _ _ _ _ _).known S _ hm k3
 have li:∀{h'':PH},dC h3 h''->cG PG h'' (loadAt bT (pT r1 1))=some (.int .i64 x.id):=λv=>by rw[bT.load,(C1.ext v).cell];rfl
 have hsd:=aQy x.id
 have w1:IntKind.i64.wrap (1-((pV x.id:Nat):Int))=((1-pV x.id:Nat):Int):=by rw[eZ (by omega) (by omega)];omega
 have S3:=(pC.good _ _ _ _ _ _).ext S e3
 obtain⟨-,⟨Fo,HO⟩,Bt⟩:=get S3
 have lc:cG PG h3 (loadAt dG (pT t (pV x.id)))=some (pT c 0):=by rw[dG.load,Bt.cell];exact hc
 have lo:cG PG h3 (loadAt dG (pT t (1-pV x.id)))=some (pT o 0):=by rw[dG.load,Bt.cell];exact ho
 have ix1:=aN0 (r:=t) (o:=0) (i:=pV x.id) hsd
 have ix2:=aN0 (r:=t) (o:=0) (i:=1-pV x.id) (by omega)
 rw[fL] at ix1 ix2
 have lk:cG PG h3 (loadAt bT (pT r1 0))=some (.int .i64 x.kind):=by rw[bT.load,C1.cell];rfl
 have lh:∀{h'':PH},dC h3 h''->cG PG h'' (loadAt cA (pT r1 2))=some (.int .u64 (x.h:Int)):=λv=>by rw[cA.load,(C1.ext v).cell];rfl
 have ld:cG PG h3 (loadAt bR (pT r1 3))=some (.string (tx x.d)):=by rw[bR.load,C1.cell];rfl
 have lsp:cG PG h3 (loadAt gF (pT r1 8))=some (.bool x.sp):=by rw[gF.load,C1.cell];rfl
 have lx:cG PG h3 (loadAt cH (pT r1 0))=some x.v:=cH.agg C1 (by show 0+9≤9;decide)
 -- the second half
 have tail:∀{h5:PH},dC h3 h5->oF kk (pT r1 0) (pT r3 0) (pT c 0) (pT o 0) (.string (tx (kX so x))) h5:=by
  intro h5 u5
  obtain⟨f,⟨Fo5,HO5⟩,-⟩:=get ((pC.good _ _ _ _ _ _).ext S3 u5)
  refine aWE f gW HO5 (hK.ext (e3.trans u5)) h0F wx (C1.ext u5) rfl (Z3.ext u5) n3 hl λh6 F6 W6 u6 g6=>?_
  rw[e2]
  refine hk h6 F6 (hW W6) ⟨λbk ob hb hn=>u6 bk ob ((e3.trans u5).get hb) (λhm=>?_),λbk hb=>?_⟩
  ·rcases gZ.1 hm with rfl|hm
   ·rw[k3] at hb;cases hb
   ·exact hn hm
  ·rcases g6 bk hb with hx|hx
   ·exact .inl hx
   ·exact .inr ((e3.trans u5).none hx)
 simp only[cH.f1,fZ.f0,fL,li cU.refl,cE,reduceIte,cT,Nat.reduceAdd]
 refine aLu x.id ?_
 refine⟨li cU.refl,?_⟩
 simp only[ix1,lc,cE,reduceIte,cT,Nat.reduceAdd]
 refine aLu x.id ?_
 refine⟨lc,?_⟩
 simp only[w1,ix2,lo,cH.f0,cH.f2,cH.f3,cH.f5,fL,ld,lsp,cE,reduceIte,cT,Nat.reduceAdd]
 have plain:¬(x.sp=false∧2≤x.kind∧x.kind≤4)->oF kk (pT r1 0) (pT r3 0) (pT c 0) (pT o 0) (.string (tx x.d)) h3:=λhn=>by
  have:=tail (h5:=h3) cU.refl
  unfold kX at this
  rw[if_neg hn] at this
  exact this
 cases hsp:x.sp with
 | true=>
  simp only[cE,reduceIte,cT,Nat.reduceAdd]
  exact plain (by rw[hsp];simp)
 | false=>
  by_cases d1:2≤x.kind
  ·have g1:=eq_true d1
   by_cases d2:x.kind≤4
   ·have g2:=eq_true d2
    simp only[cH.f0,cH.f2,fL,lk,g1,g2,lx,lh cU.refl,cE,reduceIte,cT,Nat.reduceAdd]
    refine aOY wx λh4 u4=>?_
    refine⟨lh u4,?_⟩
    refine aTV (hK.ext (e3.trans u4)) ((iO.good _ _).ext HO u4) (aIV x) wx.h λh5 u5=>?_
    simp only[cE,reduceIte,cT,Nat.reduceAdd]
    have:=tail (u4.trans u5)
    unfold kX at this
    rw[if_pos ⟨hsp,d1,d2⟩] at this
    exact this
   ·have g2:=eq_false d2
    simp only[cH.f0,lk,g1,g2,cE,reduceIte,cT,Nat.reduceAdd]
    exact plain (by simp[d2])
  ·have g1:=eq_false d1
   simp only[cH.f0,lk,g1,cE,reduceIte,cT,Nat.reduceAdd]
   exact plain (by simp[d1])
theorem aRY{h:PH}{t:Nat}{a b:Ch}{F:List Nat}(H:aMd t a b h F)(hK:mK h)(h0F:0∉F){x:kM}(wx:x.wf)(hla:a.nts.length<1000000)(hlb:b.nts.length<1000000){kk:cD}
  (hk:∀h' F',aMd t (gL a b x).1.1 (gL a b x).1.2 h' F'->iR h F h' F'->kk (.tuple #[(gL a b x).2.1.v,.int .u64 ((gL a b x).2.2.1:Int),.int .i64 (gL a b x).2.2.2]) h'):
  aT PG lX #[pT t 0,x.v] h kk:=by
 obtain⟨c0,c1,m,S⟩:=H
 exact aTH S hK h0F wx hla hlb λh' F' H' s=>hk h' F' ⟨c0,c1,m,H'⟩ s
def xa:Ch:=Ch.new 0 5 1
def xb:Ch:=Ch.new 1 9 1
def xp:Pk:=kB xa [120] 20
theorem aMJ:xp.right=true:=by decide
theorem aYT:xp.wf:=⟨by decide,by decide,by decide,by decide⟩
theorem aTx:aJI []=0:=by
 rw[aNu (hs:=[]) ⟨List.Perm.refl _,List.Pairwise.nil⟩];rfl
theorem aXT:rB xa [120] 20=0:=by
 have h1:decide (aJI xa.cl<((20:Nat):Int))=true:=by
  rw[show xa.cl=[] from rfl,aTx];decide
 have h2:(kB xa [120] 20).right=true:=aMJ
 unfold rB pD
 rw[if_neg (by decide),h1,h2]
 rfl
def xq:Pr:=⟨gH 99 1,nR xp⟩
def xa1:Ch:=xa.sent xp
theorem aYY:jO xa1.st=(⟨[xq],[[],[xq]],6⟩,(6,0)):=rfl
def xa2:Ch:=xa1.committed
theorem aX7:qD xa2.st 6=some [xq]:=rfl
def xc1:kM:=⟨1,1,6,[],default,false⟩
def xc2:kM:=⟨2,1,6,[],xp,false⟩
def xr:Tx:=jX [xq]
theorem aSb:yS xb.cl ⟨6,tx xr⟩=(0,[⟨6,tx xr⟩]):=by
 unfold yS
 rw[if_neg (by rw[iD];exact λh=>h rfl),if_neg (by simp[yX,xb,Ch.new]),if_neg (by decide)]
 rfl
def xb1:Ch:=xb.told 6 xr
theorem aS8:xb1.cl=[⟨6,tx xr⟩]:=by
 show(yS xb.cl ⟨6,tx xr⟩).2=_
 rw[aSb]
theorem aW5:gL xa2 xb xc1=((xa2,xb1),(default,0,0)):=by
 unfold gL
 rw[if_pos (show xc1.id=1 from rfl)]
 have:jU xb xa2 xc1=(xb1,(default,0,0)):=by
  unfold jU
  rw[if_neg (show ¬xc1.kind=0 by decide),if_pos (show xc1.kind=1 from rfl),show xc1.h=6 from rfl,aX7]
  show(xb.told 6 xr,_)=_
  have:(yS xb.cl ⟨((6:Nat):Int),tx (jX [xq])⟩).1=0:=by
   rw[show(⟨((6:Nat):Int),tx (jX [xq])⟩:hZ)=⟨6,tx xr⟩ from rfl,aSb]
  rw[this];rfl
 rw[this]
theorem aVQ:MOk [xq]:=⟨List.pairwise_singleton _ _,by decide,λp hp=>by
 simp only[fW] at hp;subst hp;show(gH 99 1).length≤16;rw[wB];decide,λp hp=>by
 simp only[fW] at hp;subst hp;exact aKy xp⟩
theorem aVP:gQ [xq] (gH 99 1)=some xq:=by
 rw[uM (List.pairwise_singleton _ _)]
 exact⟨by simp,rfl⟩
theorem aYx:kX xa2 xc2=aAs (jG [xq] (gH 99 1)):=by
 unfold kX
 rw[if_pos ⟨rfl,by decide,by decide⟩]
 have ek:aIV xc2=gH 99 1:=rfl
 rw[ek,show xc2.h=6 from rfl]
 unfold aE6
 rw[aX7]
 simp only
 rw[if_pos (by rw[aVP];rfl),(aLH aVQ _).1]
theorem aXk:oL xb1.cl 6=xr:=by
 unfold oL
 rw[aS8]
 show(tx xr).data.toList=xr
 simp[tx]
theorem aWl:(kJ xb1.cl 6).isSome=true:=by rw[aS8];rfl
theorem aW8:pD xb1 (pW xb1 xp (kX xa2 xc2) 6)=0:=by
 have h5:aAU (oL xb1.cl 6) (kX xa2 xc2) (gH 99 xp.s.toNat) (nR xp)=true:=by
  rw[aXk,aYx]
  exact(aSD aVQ aVP).1
 unfold pD pW
 rw[if_neg (by decide),aWl,h5,aMJ]
 rfl
def xb2:Ch:=xb1.received xp
theorem aWN:gL xa2 xb1 xc2=((xa2,xb2),(default,0,0)):=by
 unfold gL
 rw[if_pos (show xc2.id=1 from rfl)]
 have:jU xb1 xa2 xc2=(xb2,(default,0,0)):=by
  unfold jU
  rw[if_neg (show ¬xc2.kind=0 by decide),if_neg (show ¬xc2.kind=1 by decide),if_pos (show xc2.kind=2 from rfl),show xc2.p=xp from rfl,show((xc2.h:Nat):Int)=6 from rfl,aW8,if_pos rfl]
  rfl
 rw[this]
theorem aV3:pD xb2 (pW xb2 xp (kX xa2 xc2) 6)=4:=by
 have h3:(gQ xb2.st.now (gH 114 xp.s.toNat)).isSome=true:=by
  have e:xb2.st.now=mZ (mZ [] ⟨gH 114 1,[1]⟩) ⟨gH 97 1,aAq xp⟩:=rfl
  have up:qR (mZ (mZ [] ⟨gH 114 1,[1]⟩) ⟨gH 97 1,aAq xp⟩):=(qR.set (qR.set List.Pairwise.nil _) _)
  have:gQ xb2.st.now (gH 114 1)=some ⟨gH 114 1,[1]⟩:=by
   rw[e,uM up]
   refine⟨qC.2 (.inr ⟨qC.2 (.inl rfl),λh=>?_⟩),rfl⟩
   have:=congrArg (λl:Tx=>l.head?) h
   simp[gH] at this
  show(gQ xb2.st.now (gH 114 1)).isSome=true
  rw[this];rfl
 unfold pD pW
 rw[if_neg (by decide),h3,aMJ]
 rfl
theorem aV2:gL xa2 xb2 xc2=((xa2,xb2),(default,0,4)):=by
 unfold gL
 rw[if_pos (show xc2.id=1 from rfl)]
 have:jU xb2 xa2 xc2=(xb2,(default,0,4)):=by
  unfold jU
  rw[if_neg (show ¬xc2.kind=0 by decide),if_neg (show ¬xc2.kind=1 by decide),if_pos (show xc2.kind=2 from rfl),show xc2.p=xp from rfl,show((xc2.h:Nat):Int)=6 from rfl,aV3,if_neg (by decide)]
 rw[this]
structure Now(h0 h:PH)(F:List Nat):Prop where
 ext:dC h0 h
 fr:eP h0 F
theorem Now.step{h0 h h':PH}{F F':List Nat}(N:Now h0 h F)(s:iR h F h' F'):Now h0 h' F':=⟨N.ext.fresh s.upd N.fr,N.fr.grow N.ext s.grow⟩
theorem Now.more{h0 h h':PH}{F:List Nat}(N:Now h0 h F)(u:dC h h'):Now h0 h' F:=⟨N.ext.trans u,N.fr⟩
theorem Now.k{h0 h:PH}{F:List Nat}(N:Now h0 h F)(K:mK h0):mK h:=K.ext N.ext
theorem Now.z{h0 h:PH}{F:List Nat}(N:Now h0 h F)(K:mK h0):0∉F:=λhm=>by
 obtain⟨t,fr,hb⟩:=K
 rw[N.fr 0 hm] at hb;cases hb
theorem xE{h h':PH}{F F':List Nat}{r:Nat}{cs:List Value}(B:Bx h r cs)(n:r∉F)(s:iR h F h' F'):Bx h' r cs∧r∉F':=⟨B.upd s.upd n,λhm=>by
 rcases s.grow _ hm with hx|hx
 ·exact n hx
 ·exact B.known hx⟩
theorem aYu:cV PG (build eJ #[(0,(Value.int IntKind.u64 5)),(1,(Value.int IntKind.u64 9))])=some (tS 5 9):=by kernel_rfl
theorem aZD:cV PG (build eJ #[(0,(Value.int IntKind.u64 1)),(1,(Value.int IntKind.u64 1))])=some (tS 1 1):=by kernel_rfl
theorem aYn:cV PG (build cH #[(0,(Value.int IntKind.i64 1)),(1,(Value.int IntKind.i64 1)),(2,(Value.int IntKind.u64 ((6:Nat):Int)))])=some xc1.v:=by kernel_rfl
theorem aVo(p:Pk):cV PG (build cH #[(0,(Value.int IntKind.i64 2)),(1,(Value.int IntKind.i64 1)),(2,(Value.int IntKind.u64 ((6:Nat):Int))),(4,p.v)])=some (kM.v ⟨2,1,6,[],p,false⟩):=by kernel_rfl
theorem kM.rows(l:List kM):Rows 9 (l.map kM.cells):=λr hr=>by obtain⟨m,_,rfl⟩:=lI.1 hr;rfl
theorem fY.tac{h:PH}{v:Value}{l:List kM}(S:fY h 9 v (l.map kM.cells)){j:Nat}{x:kM}(hx:l[j]? =some x):
  ∃b o,cV PG (indexAt iN v (.int .i64 (j:Int)))=some (pT b o)∧dD h ⟨b,o+3,none⟩=some (.string (tx x.d))∧dD h ⟨b,o+7,none⟩=some (.string x.p.d)∧cG PG h (loadAt cH (pT b o))=some x.v:=by
 obtain⟨b,o,h1,h2,h3⟩:=S.fields iN.und cH.info cH.size (k:=.i64) (j:=j) (r:=x.cells) (by rw[sC,hx];rfl)
 exact⟨b,o,h1,h2 3 _ rfl,h2 7 _ rfl,h3 _ cH.und rfl⟩
theorem aN8{h:PH}{v:Value}{l:List kM}(S:fY h 9 v (l.map kM.cells)):cV PG (Builtin.len_ #[iN] bT #[v])=some (.int .i64 l.length):=by
 have:=S.len (t':=bT) iN.und
 rw[jC] at this
 exact this
theorem aQq(c o:Ch)(a:kM):(jU c o a).1.nts.length≤c.nts.length+1:=by
 have put:∀(s:Ch) (n:Nt),(s.add n).nts.length≤s.nts.length+1:=λs n=>by
  show(s.nts++[n]).length≤_
  rw[jE];simp
 unfold jU
 split
 ·split
  ·exact put _ _
  ·exact yN _
 ·split
  ·split
   ·exact yN _
   ·exact yN _
  ·split
   ·split
    ·exact put _ _
    ·exact yN _
   ·split
    ·split
     ·exact put _ _
     ·exact yN _
    ·split
     ·split
      ·exact put _ _
      ·exact yN _
     ·split
      ·show(Ch.committed c).nts.length≤_
       unfold Ch.committed
       split
       ·exact Nat.zero_le _
       ·exact yN _
      ·exact yN _
theorem aSK(a b:Ch)(x:kM){n:Nat}(ha:a.nts.length≤n)(hb:b.nts.length≤n):(gL a b x).1.1.nts.length≤n+1∧(gL a b x).1.2.nts.length≤n+1:=by
 unfold gL
 split
 ·have:=aQq b a x
  exact⟨by show a.nts.length≤_;omega,by show(jU b a x).1.nts.length≤_;omega⟩
 ·have:=aQq a b x
  exact⟨by show(jU a b x).1.nts.length≤_;omega,by show b.nts.length≤_;omega⟩
end Go.Proofs.YtcoajnpchhmgjaaGreatDoor
namespace Go.Proofs.YtcoajnpchhmgjaaGreatDoor
open Go Go.RowKit Go.ChangeShapes
theorem bT.cells:PG.cellsOf bT=1:=by kernel_rfl
theorem cA.cells:PG.cellsOf cA=1:=by kernel_rfl
theorem bR.cells:PG.cellsOf bR=1:=by kernel_rfl
theorem gF.cells:PG.cellsOf gF=1:=by kernel_rfl
theorem aR.cells:PG.cellsOf aR=4:=by kernel_rfl
theorem eJ.cells:PG.cellsOf eJ=2:=by kernel_rfl
theorem cH.cells:PG.cellsOf cH=9:=by kernel_rfl
section
variable{H:Type}{enc:TypeId×Value->H}{w:World}{spare:Nat->Bool}{held:Bool}
theorem Pk.rd{cs:List Value}(h:Rd enc PG w spare held aR cs):∃p:Pk,cs=p.cells∧p.wf:=by
 obtain⟨hl,hf⟩:=aOh aR.und h
 rw[aR.cells] at hl
 match cs,hl with
 | [c0,c1,c2,c3],_=>
  have f0:Rd enc PG w spare held bT (([c0,c1,c2,c3].drop 0).take (PG.cellsOf bT)):=hf 0 _ rfl
  rw[bT.cells] at f0
  have f1:Rd enc PG w spare held cA (([c0,c1,c2,c3].drop 1).take (PG.cellsOf cA)):=hf 1 _ rfl
  rw[cA.cells] at f1
  have f2:Rd enc PG w spare held cA (([c0,c1,c2,c3].drop 2).take (PG.cellsOf cA)):=hf 2 _ rfl
  rw[cA.cells] at f2
  have f3:Rd enc PG w spare held bR (([c0,c1,c2,c3].drop 3).take (PG.cellsOf bR)):=hf 3 _ rfl
  rw[bR.cells] at f3
  obtain⟨n0,e0,-⟩:=aHc bT.und f0
  obtain⟨n1,e1,w1⟩:=aHc cA.und f1
  have w1:=aLa w1
  obtain⟨n2,e2,w2⟩:=aHc cA.und f2
  have w2:=aLa w2
  obtain⟨n3,e3,-⟩:=aOT bR.und f3
  simp only[List.drop_succ_cons,zLa,zLb,List.take_zero,lF,and_true] at e0 e1 e2 e3
  subst e0 e1 e2 e3
  exact⟨⟨n0,n1,n2,n3⟩,rfl,w1.1,by show n1<_;omega,w2.1,by show n2<_;omega⟩
theorem kM.rd{cs:List Value}(h:Rd enc PG w spare held cH cs):∃p:kM,cs=p.cells∧p.wf:=by
 obtain⟨hl,hf⟩:=aOh cH.und h
 rw[cH.cells] at hl
 match cs,hl with
 | [c0,c1,c2,c3,c4,c5,c6,c7,c8],_=>
  have f0:Rd enc PG w spare held bT (([c0,c1,c2,c3,c4,c5,c6,c7,c8].drop 0).take (PG.cellsOf bT)):=hf 0 _ rfl
  rw[bT.cells] at f0
  have f1:Rd enc PG w spare held bT (([c0,c1,c2,c3,c4,c5,c6,c7,c8].drop 1).take (PG.cellsOf bT)):=hf 1 _ rfl
  rw[bT.cells] at f1
  have f2:Rd enc PG w spare held cA (([c0,c1,c2,c3,c4,c5,c6,c7,c8].drop 2).take (PG.cellsOf cA)):=hf 2 _ rfl
  rw[cA.cells] at f2
  have f3:Rd enc PG w spare held bR (([c0,c1,c2,c3,c4,c5,c6,c7,c8].drop 3).take (PG.cellsOf bR)):=hf 3 _ rfl
  rw[bR.cells] at f3
  have f4:Rd enc PG w spare held aR (([c0,c1,c2,c3,c4,c5,c6,c7,c8].drop 4).take (PG.cellsOf aR)):=hf 4 _ rfl
  rw[aR.cells] at f4
  have f5:Rd enc PG w spare held gF (([c0,c1,c2,c3,c4,c5,c6,c7,c8].drop 8).take (PG.cellsOf gF)):=hf 5 _ rfl
  rw[gF.cells] at f5
  obtain⟨n0,e0,-⟩:=aHc bT.und f0
  obtain⟨n1,e1,-⟩:=aHc bT.und f1
  obtain⟨n2,e2,w2⟩:=aHc cA.und f2
  have w2:=aLa w2
  obtain⟨n3,e3,-⟩:=aOT bR.und f3
  obtain⟨n4,e4,w4⟩:=Pk.rd f4
  obtain⟨n5,e5⟩:=aWn gF.und f5
  simp only[List.drop_succ_cons,zLa,zLb,List.take_zero,lF,and_true,Pk.cells] at e0 e1 e2 e3 e4 e5
  obtain⟨rfl,rfl,rfl,rfl⟩:=e4
  subst e0 e1 e2 e3 e5
  exact by
   obtain⟨m,rfl⟩:=zLm w2.1
   exact⟨⟨n0,n1,m,n3.data.toList,n4,n5⟩,by rw[kM.cells,aID],by show m<_;omega,w4⟩
theorem kM.rds:∀{rows:List (List Value)},(∀r∈rows,Rd enc PG w spare held cH r)->∃xs:List kM,rows=xs.map kM.cells∧∀x∈xs,x.wf
 | [],_=>⟨[],rfl,by simp⟩
 | r::rs,h=>by
  obtain⟨m,rfl,hm⟩:=kM.rd (h r (by simp))
  obtain⟨xs,rfl,hx⟩:=kM.rds (rows:=rs) (λx hx=>h x (by simp[hx]))
  exact⟨m::xs,rfl,λx hx'=>by rcases gZ.1 hx' with rfl|h;exact hm;exact hx x h⟩
theorem u2c.rd{cs:List Value}(h:Rd enc PG w spare held eJ cs):∃a b:Nat,cs=u2c a b∧a<18446744073709551616∧b<18446744073709551616:=by
 obtain⟨hl,hf⟩:=aVM eJ.und h
 rw[eJ.cells] at hl
 match cs,hl with
 | [c0,c1],_=>
  have f0:Rd enc PG w spare held cA (([c0,c1].drop (0*PG.cellsOf cA)).take (PG.cellsOf cA)):=hf 0 (by decide)
  have f1:Rd enc PG w spare held cA (([c0,c1].drop (1*PG.cellsOf cA)).take (PG.cellsOf cA)):=hf 1 (by decide)
  rw[cA.cells] at f0 f1
  obtain⟨m0,q0,w0⟩:=aHc cA.und f0
  obtain⟨m1,q1,w1⟩:=aHc cA.und f1
  have w0:=aLa w0
  have w1:=aLa w1
  simp only[Nat.zero_mul,Nat.one_mul,List.drop_succ_cons,zLa,zLb,List.take_zero,lF,and_true] at q0 q1
  subst q0 q1
  obtain⟨n0,rfl⟩:=zLm w0.1
  obtain⟨n1,rfl⟩:=zLm w1.1
  exact⟨n0,n1,rfl,by omega,by omega⟩
theorem aRP{r:Reach}{base:Nat}{v:Value}{d:DataW H}{p:List MemPlace}(hval:Value.okWide PG w r base eJ v)(hd:DataW.Trod enc PG w 0 spare held eJ v d p):
  ∃a b:Nat,v=tS a b∧a<18446744073709551616∧b<18446744073709551616:=by
 have hu:PG.underlying eJ=some (.array 2 cA):=eJ.und
 simp only[Value.okWide,hu] at hval
 obtain⟨cs,rfl,_⟩:=hval
 obtain⟨a,b,e,ha,hb⟩:=u2c.rd (aTz hd)
 refine⟨a,b,?_,ha,hb⟩
 rw[tS]
 congr 1
 exact Array.toList_inj.1 e
end
def aM2:List (String×DataW Unit):=[("carrack/sha.k",Rows.laid_carrack_sha_k)]
theorem aUj(os:Os)(args:Array Value):laidMetH Tryz.prog aM2 ((World.doorLaid Tryz.prog 400 os).forCall (λ_ _=>0) ⟨#[],args,[]⟩).memory:=
 laidMetH_of_parts3 (fuel:=8) (laidMet_of_run' 8 (by kernel_rfl) (by kernel_rfl)) (by kernel_rfl) (by kernel_rfl)
theorem kOf{W:World}(h:laidMetH Tryz.prog aM2 W):mK (aJW W):=by
 rw[MakeChecks.laidMetH_plain _ _ _ (by kernel_rfl)] at h
 obtain⟨ps,h1,_⟩:=h
 obtain⟨e,fr,hh⟩:=aNJ (m:=3) (g:=0) (t:=fC) h1 (aId ..) (by kernel_rfl) (by kernel_rfl) (by kernel_rfl)
 have hk:(aLj (Rows.laid_carrack_sha_k:DataW Unit)).toArray=(kT.map wv).toArray:=by kernel_rfl
 rw[hk] at hh
 exact⟨e,fr,hh⟩
end Go.Proofs.YtcoajnpchhmgjaaGreatDoor
namespace Go.Proofs.YtcoajnpchhmgjaaGreatDoor
open Go Bld
theorem aBE:({data:=#[]}:ByteArray)=tx []:=rfl
theorem aG3(p:Pr)(i n:Nat)(path:List Tx):(oM p i n path).length=32:=by
 rw[oM]
 split
 ·split<;>rfl
 ·rfl
theorem Lf.boxC{h:PH}{r:Nat}{f:Lf}{fv:Value}(B:Bx h r (f.cells fv)):cG PG h (loadAt cB (pT r 0))=some (f.val fv):=cB.agg B (by show 0+5≤5;decide)
theorem Lf.boxP{h:PH}{r:Nat}{f:Lf}{fv:Value}(B:Bx h r (f.cells fv)):cG PG h (loadAt cM (pT r 2))=some f.p.val:=cM.agg B (by show 2+2≤5;decide)
theorem aPQ:∀(d:Nat) {h:PH} {f:Lf} {fv:Value} {i n:Nat} {b m:Nat} {A:List Tx} {K:List Nat},n≤2^d->1≤n->n≤4096->i<n->gB i n≤f.path.length->(∀x∈f.path,x.length=32)->f.p.k.length+f.p.v.length≤10000000->Bk b m A K h->fY h 1 fv (f.path.map jA)->Off b m fv->∀{k:cD},
  (∀h',Bk b m (upA f.p i n f.path++A) K h'->cU [b,m] h h'->k (.string (tx (oM f.p i n f.path))) h')->aT PG xJ #[pT b 0,f.val fv,.int .i64 (i:Int),.int .i64 (n:Int)] h k
 | d,h,f,fv,i,n,b,m,A,K,hd,h1,hn,hi,hdp,hall,hsm,H,S,hv,k,hk=>by
  apply xX.call
  unfold xX
  intro r1 hr1
  try rw[cZ]
  have u1:dC h (h.set r1 (.cells (Value.cells (f.val fv)) cB)):=cU.new hr1
  have B1:Bx (h.set r1 (.cells (Value.cells (f.val fv)) cB)) r1 (f.cells fv):=Bx.new
  generalize h.set r1 (.cells (Value.cells (f.val fv)) cB)=h1' at *
  have H1:=H.ext u1
  have S1:=S.ext u1
  by_cases e1:n=1
  ·have q:((n:Int)==1)=true:=by simp[e1]
   have hA:upA f.p i n f.path=[aAX f.p]:=by rw[upA,dif_neg (by omega)]
   have hD:oM f.p i n f.path=aFH f.p:=by rw[oM,dif_neg (by omega)]
   simp only[hE,q,cB.f2,fL,Lf.boxP B1,cE,reduceIte,cT,Nat.reduceAdd]
   refine aVG H1 hsm λh2 B2 u2=>?_
   rw[hA,hD] at hk
   exact hk h2 B2 (u1.upd.trans u2)
  ·have q:((n:Int)==1)=false:=by simp;omega
   have h2:2≤n:=by omega
   obtain⟨m1,m2⟩:=lH h2
   cases d with
   | zero=>simp at hd;omega
   | succ d=>
    obtain⟨a,b'⟩:=aEZ h2 hd
    have lp:cG PG h1' (loadAt cP (pT r1 4))=some fv:=by rw[cP.load,B1.cell];rfl
    simp only[hE,q,cE,reduceIte,cT,Nat.reduceAdd]
    refine aI0 h2 (by omega) ?_
    simp only[cB.f3,fL,lp,cE,reduceIte,cT,Nat.reduceAdd]
    have hpos:1≤gB i n:=by
     rw[gB,dif_pos h2];split<;>omega
    have hdl:=aJE 12 i n (by omega)
    refine aI8 12 (by omega) h1 hn hi ?_
    refine⟨lp,?_⟩
    have w1:IntKind.i64.wrap (((gB i n:Nat):Int)-1)=((gB i n-1:Nat):Int):=by rw[eZ (by omega) (by omega)];omega
    obtain⟨x,hx⟩:∃x,f.path[gB i n-1]? =some x:=⟨_,lS (by omega)⟩
    obtain⟨pa,ha1,ha2⟩:=S1.st hx
    have hgx:f.path.getD (gB i n-1) []=x:=by rw[aAM,hx];rfl
    have hxl:=hall x (sH hx)
    by_cases c:i<dR n
    ·have g:((i:Int)<((dR n:Nat):Int))=True:=eq_true (by omega)
     have he:gB i n=1+gB i (dR n):=by rw[gB,dif_pos h2,if_pos c]
     have hA:upA f.p i n f.path=rY (oM f.p i (dR n) f.path) x::upA f.p i (dR n) f.path:=by rw[upA,dif_pos h2,if_pos c,hgx]
     have hD:oM f.p i n f.path=zD (oM f.p i (dR n) f.path) x:=by rw[oM,dif_pos h2,if_pos c,hgx]
     simp only[w1,ha1,ha2,g,Lf.boxC B1,cE,reduceIte,cT,Nat.reduceAdd]
     refine aPQ d a (by omega) (by omega) c (by omega) hall hsm H1 S1 hv λh3 B3 u3=>?_
     have s1:cV PG (binOp .add bR (.string (tx [1])) (.string (tx (oM f.p i (dR n) f.path))))=some (.string (tx ([1]++oM f.p i (dR n) f.path))):=lQ (by rw[aG3];decide)
     have s2:cV PG (binOp .add bR (.string (tx ([1]++oM f.p i (dR n) f.path))) (.string (tx x)))=some (.string (tx (rY (oM f.p i (dR n) f.path) x))):=by
      rw[lQ (by rw[jE,aG3,hxl];decide)];rfl
     simp only[tx1,s1,s2,cE,reduceIte,cT,Nat.reduceAdd]
     refine aLt B3 (by simp[rY,aG3,hxl]) λh4 B4 u4=>?_
     rw[hA,hD,aML] at hk
     exact hk h4 B4 ((u1.upd.trans u3).trans u4)
    ·have g:((i:Int)<((dR n:Nat):Int))=False:=eq_false (by omega)
     have he:gB i n=1+gB (i-dR n) (n-dR n):=by rw[gB,dif_pos h2,if_neg c]
     have hA:upA f.p i n f.path=rY x (oM f.p (i-dR n) (n-dR n) f.path)::upA f.p (i-dR n) (n-dR n) f.path:=by rw[upA,dif_pos h2,if_neg c,hgx]
     have hD:oM f.p i n f.path=zD x (oM f.p (i-dR n) (n-dR n) f.path):=by rw[oM,dif_pos h2,if_neg c,hgx]
     have w3:IntKind.i64.wrap ((i:Int)-((dR n:Nat):Int))=((i-dR n:Nat):Int):=by rw[eZ (by omega) (by omega)];omega
     have w4:IntKind.i64.wrap ((n:Int)-((dR n:Nat):Int))=((n-dR n:Nat):Int):=by rw[eZ (by omega) (by omega)];omega
     have s1:cV PG (binOp .add bR (.string (tx [1])) (.string (tx x)))=some (.string (tx ([1]++x))):=lQ (by rw[hxl];decide)
     simp only[w1,ha1,ha2,g,w3,w4,tx1,s1,Lf.boxC B1,cE,reduceIte,cT,Nat.reduceAdd]
     refine aPQ d b' (by omega) (by omega) (by omega) (by omega) hall hsm H1 S1 hv λh3 B3 u3=>?_
     have s2:cV PG (binOp .add bR (.string (tx ([1]++x))) (.string (tx (oM f.p (i-dR n) (n-dR n) f.path))))=some (.string (tx (rY x (oM f.p (i-dR n) (n-dR n) f.path)))):=by
      rw[lQ (by rw[jE,aG3,hxl];decide)];rfl
     simp only[s2,cE,reduceIte,cT,Nat.reduceAdd]
     refine aLt B3 (by simp[rY,aG3,hxl]) λh4 B4 u4=>?_
     rw[hA,hD,aML] at hk
     exact hk h4 B4 ((u1.upd.trans u3).trans u4)
theorem aS3{h:PH}{f:Lf}{fv:Value}{b m:Nat}{A:List Tx}{K:List Nat}(H:Bk b m A K h)(S:fY h 1 fv (f.path.map jA))(hv:Off b m fv)(hpl:f.path.length≤1000000)(hsm:f.p.k.length+f.p.v.length≤10000000){k:cD}
  (hbad:¬OkC f->∀h',Bk b m A K h'->cU [b,m] h h'->k (.tuple #[.string (tx []),.bool false]) h')
  (hk:OkC f->∀h',Bk b m (aF2 f++A) K h'->cU [b,m] h h'->k (.tuple #[.string (tx (aIN f.n.toNat (aK5 f))),.bool true]) h'):
  aT PG aCT #[pT b 0,f.val fv] h k:=by
 apply sI.call
 unfold sI
 intro r1 hr1
 try rw[cZ]
 have u1:dC h (h.set r1 (.cells (Value.cells (f.val fv)) cB)):=cU.new hr1
 have B1:Bx (h.set r1 (.cells (Value.cells (f.val fv)) cB)) r1 (f.cells fv):=Bx.new
 generalize h.set r1 (.cells (Value.cells (f.val fv)) cB)=h1 at *
 have H1:=H.ext u1
 have S1:=S.ext u1
 have c0:dD h1 ⟨r1,0,none⟩=some (.int .i64 f.i):=B1.cell 0
 have c1:dD h1 ⟨r1,1,none⟩=some (.int .i64 f.n):=B1.cell 1
 have c4:dD h1 ⟨r1,4,none⟩=some fv:=B1.cell 4
 have lp:=aNI S1
 have no:¬OkC f->k (.tuple #[.string (tx []),.bool false]) h1:=λhn=>hbad hn h1 H1 u1.upd
 by_cases d1:f.n<1
 ·have g1:=eq_true d1
  simp only[cB.f1,fL,bT.load,c1,g1,aBE,cE,reduceIte,cT,Nat.reduceAdd]
  exact⟨λh=>by simp at h,no λO=>by have:=O.n1;omega⟩
 have g1:=eq_false d1
 by_cases d2:4096<f.n
 ·have g2:=eq_true d2
  simp only[cB.f1,fL,bT.load,c1,g1,g2,aBE,cE,reduceIte,cT,Nat.reduceAdd]
  exact⟨λh=>by simp at h,no λO=>by have:=O.n2;omega⟩
 have g2:=eq_false d2
 by_cases d3:f.i<0
 ·have g3:=eq_true d3
  simp only[cB.f0,cB.f1,fL,bT.load,c0,c1,g1,g2,g3,aBE,cE,reduceIte,cT,Nat.reduceAdd]
  exact⟨λh=>by simp at h,no λO=>by have:=O.i1;omega⟩
 have g3:=eq_false d3
 by_cases d4:f.n≤f.i
 ·have g4:=eq_true d4
  simp only[cB.f0,cB.f1,fL,bT.load,c0,c1,g1,g2,g3,g4,aBE,cE,reduceIte,cT,Nat.reduceAdd]
  exact⟨λh=>by simp at h,no λO=>by have:=O.i2;omega⟩
 have g4:=eq_false d4
 obtain⟨i,hi⟩:∃i:Nat,f.i=(i:Int):=⟨f.i.toNat,by omega⟩
 obtain⟨n,hn⟩:∃n:Nat,f.n=(n:Int):=⟨f.n.toNat,by omega⟩
 have lpath:cG PG h1 (loadAt cP (pT r1 4))=some fv:=by rw[cP.load];exact c4
 simp only[cB.f0,cB.f1,cB.f3,fL,bT.load,lpath,c0,c1,g1,g2,g3,g4,lp,cE,reduceIte,cT,Nat.reduceAdd]
 rw[hi,hn]
 refine aI8 12 (by omega) (by omega) (by omega) (by omega) ?_
 refine⟨λ_=>lpath,?_⟩
 by_cases d5:f.path.length=gB i n
 case neg=>
  have g5:((f.path.length:Int) !=((gB i n:Nat):Int))=true:=by simp;omega
  simp only[kU,g5,aBE,cE,reduceIte,cT,Nat.reduceAdd]
  exact no λO=>d5 (by have:=O.len;rw[hi,hn] at this;exact this)
 have g5:((f.path.length:Int) !=((gB i n:Nat):Int))=false:=by simp;omega
 simp only[kU,g5,cE,reduceIte,cT,Nat.reduceAdd]
 refine⟨λvs h'=>∃j:Nat,j≤f.path.length∧vs=[pT b 0,pT r1 0,.int .i64 (j:Int)]∧h'=h1∧∀x∈f.path.take j,x.length=32,iE f.path.length 2,⟨0,by omega,rfl,rfl,λx hx=>by simp at hx⟩,?_⟩
 rintro ρ h' ⟨j,hj,hvs,rfl,hal⟩
 simp only[iH,iU,lF,and_true] at hvs
 obtain⟨v0,v1,v2⟩:=hvs
 unfold aFD
 rw[v0,v1,v2]
 by_cases hlt:j<f.path.length
 ·have g:((j:Int)<(f.path.length:Int))=True:=eq_true (by omega)
  have gj:=rA (i:=j) (by omega)
  obtain⟨x,hx⟩:∃x,f.path[j]? =some x:=⟨_,lS hlt⟩
  obtain⟨pa,ha1,ha2⟩:=S1.st hx
  have lx:cV PG (Builtin.len_ #[bR] bT #[.string (tx x)])=some (.int .i64 (x.length:Int)):=by rw[lV bR.und,iD]
  by_cases hx32:x.length=32
  ·have q:((x.length:Int) !=32)=false:=by simp[hx32]
   simp only[cB.f3,fL,lpath,lp,g,ha1,ha2,lx,kU,q,gj,cE,reduceIte,cT,Nat.reduceAdd]
   refine⟨⟨j+1,by omega,rfl,by trivial,λy hy=>?_⟩,by simp[iE,v2];omega⟩
   rw[zLR,hx] at hy
   rcases jJ.1 hy with hy|hy
   ·exact hal y hy
   ·simp only[Option.toList_some,fW] at hy
    rw[hy];exact hx32
  ·have q:((x.length:Int) !=32)=true:=by simp;omega
   simp only[cB.f3,fL,lpath,lp,g,ha1,ha2,lx,kU,q,aBE,cE,reduceIte,cT,Nat.reduceAdd]
   exact no λO=>hx32 (O.all x (sH hx))
 ·have g:((j:Int)<(f.path.length:Int))=False:=eq_false (by omega)
  rw[mV (by omega)] at hal
  have O:OkC f:=⟨by omega,by omega,by omega,by omega,by rw[hi,hn];exact d5,hal⟩
  simp only[cB.f0,cB.f1,cB.f3,fL,bT.load,lpath,lp,g,c0,c1,Lf.boxC B1,cE,reduceIte,cT,Nat.reduceAdd]
  rw[hi,hn]
  refine aPQ 12 (by omega) (by omega) (by omega) (by omega) (by omega) hal hsm H1 S1 hv λh2 B2 u2=>?_
  have k1b:=H1.known b (by simp)
  have hr1b:r1∉[b,m]:=λhm'=>by
   simp only[gZ,kW,or_false] at hm'
   rcases hm' with rfl|rfl
   ·exact H.known _ (by simp) hr1
   ·exact H.known _ (by simp) hr1
  have B1':=B1.upd u2 hr1b
  have c1':dD h2 ⟨r1,1,none⟩=some (.int .i64 (n:Int)):=by rw[←hn];exact B1'.cell 1
  refine⟨c1',?_⟩
  refine aV5 B2 (by omega) (by rw[aG3];decide) λh3 B3 u3=>?_
  have hk:=hk O
  unfold aF2 aK5 at hk
  rw[hi,hn] at hk
  exact hk h3 B3 ((u1.upd.trans u2).trans u3)
theorem aOo{h:PH}{v:Value}{l:List Pr}(S:fY h 2 v (l.map Pr.cells))(hl:l.length≤1000000)(key:Tx){k:cD}(hk:k (.int .i64 ((gY l key:Nat):Int)) h):aT PG yM #[v,.string (tx key)] h k:=by
 apply aBP.call
 unfold aBP
 have lv:=S.len (t':=bT) cJ.und
 rw[jC] at lv
 refine⟨λvs h'=>∃j:Nat,j≤l.length∧vs=[v,.string (tx key),.int .i64 ((gY (l.take j) key:Nat):Int),.int .i64 (j:Int)]∧h'=h,iE l.length 3,⟨0,by omega,rfl,rfl⟩,?_⟩
 rintro ρ h' ⟨j,hj,hvs,rfl⟩
 simp only[iH,iU,lF,and_true] at hvs
 obtain⟨v0,v1,v2,v3⟩:=hvs
 unfold aFl aBi aEy
 rw[v0,v1,v2,v3]
 by_cases hlt:j<l.length
 ·have g:((j:Int)<(l.length:Int))=True:=eq_true (by omega)
  have gj:=rA (i:=j) (by omega)
  obtain⟨p,hp⟩:∃p,l[j]? =some p:=⟨_,lS hlt⟩
  obtain⟨x,o,e2,e3,-,-⟩:=S.pair hp
  have hpl:gY (l.take j) key≤j:=zLB (aMc _ _) (by rw[rN];omega)
  have gp:IntKind.i64.wrap (((gY (l.take j) key:Nat):Int)+1)=((gY (l.take j) key+1:Nat):Int):=by rw[eZ (by omega) (by omega)];omega
  have et:l.take (j+1)=l.take j++[p]:=by rw[zLR,hp];rfl
  by_cases c:p.k<key
  ·simp only[lv,g,e2,cM.f0,bR.load,e3,xD,c,gp,gj,cE,reduceIte,cT,Nat.reduceAdd]
   refine⟨⟨j+1,by omega,?_,by trivial⟩,by simp[iE,v3];omega⟩
   rw[et]
   unfold gY
   rw[aIf]
   simp[c]
  ·simp only[lv,g,e2,cM.f0,bR.load,e3,xD,c,gj,cE,reduceIte,cT,Nat.reduceAdd]
   refine⟨⟨j+1,by omega,?_,by trivial⟩,by simp[iE,v3];omega⟩
   rw[et]
   unfold gY
   rw[aIf]
   simp[c]
 ·have g:((j:Int)<(l.length:Int))=False:=eq_false (by omega)
  rw[mV (by omega)]
  simp only[lv,g,cE,reduceIte,cT,Nat.reduceAdd]
  exact hk
theorem aKB{h:PH}{v:Value}{l:List Pr}{j b m:Nat}{A:List Tx}{K:List Nat}(H:Bk b m A K h)(S:fY h 2 v (l.map Pr.cells))(hv:Off b m v)(hs:aAH l)(hl:l.length≤4096)(hj:j<l.length){k:cD}
  (hk:∀h' pv F,Bk b m A K h'->eS h' bR 1 pv ((jW l j).path.map jA) F->eP h F->cU [b,m] h h'->k ((jW l j).val pv) h'):
  aT PG qP #[pT b 0,v,.int .i64 (j:Int)] h k:=by
 apply uW.call
 unfold uW
 intro r1 hr1
 try rw[cZ]
 have hr1b:r1∉[b,m]:=λhm'=>by
  simp only[gZ,kW,or_false] at hm'
  rcases hm' with rfl|rfl
  ·exact H.known _ (by simp) hr1
  ·exact H.known _ (by simp) hr1
 have u1:dC h (h.set r1 (.cells (dP PG cB) cB)):=cU.new hr1
 have Z1:=cB.zbox (h:=h) (r:=r1)
 generalize h.set r1 (.cells (dP PG cB) cB)=h1 at *
 have lv:=S.len (t':=bT) cJ.und
 rw[jC] at lv
 obtain⟨p,hp⟩:∃p,l[j]? =some p:=⟨_,lS hj⟩
 obtain⟨x,o,e2,-,-,e3⟩:=(S.ext u1).pair hp
 simp only[lv,e2,e3,cE,reduceIte,cT,Nat.reduceAdd]
 refine aMe l.length (qZ _) hj (by omega) (H.ext u1) (S.ext u1) hv hs λh2 pv F B2 O2 f2 u2=>?_
 have e3':cG PG h2 (loadAt cM (pT x o))=some p.val:=by
  obtain⟨x',o',e2',-,-,e3'⟩:=((S.ext u1).upd u2 hv).pair hp
  have e:(some (pT x o))=some (pT x' o'):=e2.symm.trans e2'
  simp only[zL5,Value.pointer.injEq,Addr.mk.injEq,and_true] at e
  rw[e.1,e.2];exact e3'
 refine⟨e3',?_⟩
 obtain⟨pa,pc,epv,-⟩:=O2.slR.here
 have elf:jW l j=⟨(j:Int),(l.length:Int),p,mL l j⟩:=aHW hp
 have hb:cV PG (build cB #[(0,.int .i64 (j:Int)),(1,.int .i64 (l.length:Int)),(2,p.val),(3,pv)])=some ((jW l j).val pv):=by
  rw[epv,elf];exact aVS _ _ _ _ _ _
 have F1:r1∉F:=λhm=>Z1.known (f2 _ hm)
 have Z2:=Z1.upd u2 hr1b
 simp only[hb,cE,reduceIte,cT,Nat.reduceAdd]
 refine cB.put Z2 (o:=0) (vs:=(jW l j).cells pv) rfl (by show 0+5≤5;decide) (Lf.isC _ O2.slR.isc) λh3 B3 u3=>?_
 have B3:Bx h3 r1 ((jW l j).cells pv):=B3
 simp only[Lf.boxC B3,cE,reduceIte,cT,Nat.reduceAdd]
 refine hk h3 pv F (B2.upd u3 (λx hx hm=>?_)) ?_ (λx hx=>u1.none (f2 x hx)) ((u1.upd.trans u2).then u3 (λx hx=>?_))
 ·simp only[fW] at hm
  subst hm
  exact H.known _ hx hr1
 ·rw[elf]
  exact O2.upd u3 (λx hx=>by simp only[fW];rintro rfl;exact F1 hx)
 ·simp only[fW] at hx
  subst hx;exact .inr hr1
theorem nJ.push{h0 h1 h2:PH}{v:Value}{fs:List Lf}{b m:Nat}(H:nJ h0 h1 v fs)(kb:h0 b≠none)(km:h0 m≠none)(u:cU [b,m] h1 h2)(n01:∀x,h1 x=none->h0 x=none)(n02:∀x,h2 x=none->h0 x=none){f:Lf}{pv:Value}{G:List Nat}(O:eS h2 bR 1 pv (f.path.map jA) G)(fG:eP h1 G)(hl:fs.length≤1000){R:cD}
  (hR:∀h3 v' F',nJ h0 h3 v' (fs++[f])->eP h0 F'->cU F' h2 h3->R v' h3):
  dZ (jS PG (buildSlice cN 1 #[(0,f.val pv)])) λx40=>∀r39,h2 r39=none->dZ (cV PG (x40.2 r39)) λv41=>cW PG (Builtin.append_ #[cN,cN] cN #[v,v41]) (PH.set h2 r39 x40.1) R:=by
 obtain⟨l,F,e,OL,fF,L⟩:=H.here
 simp only[aLn,cE,reduceIte,cT,Nat.reduceAdd]
 intro r hr
 refine fT ?_
 try rw[cZ]
 have u4:dC h2 (h2.set r (.cells (f.cells pv).toArray cB)):=cU.new hr
 have s4:fY (h2.set r (.cells (f.cells pv).toArray cB)) 5 (.slice (some ⟨r,0,none⟩) 1 1) ([((f,pv):LV)].map qE):=(eS.lit (n:=1) (qE.rows [(f,pv)]) dL (by simp) (by decide) (by simp[qE])).slR
 generalize h2.set r (.cells (f.cells pv).toArray cB)=h4 at *
 have hF2:∀x∈F,x∉[b,m]:=fF.off kb km
 have hlen:l.length=fs.length:=by rw[←e,jC]
 refine jL cN.und cN.und cB.info cB.size cB.bytes cB.zero rfl (by decide) ((OL.upd u hF2).ext u4) s4 (λr hr u hu=>by
  obtain⟨y,hy,rfl⟩:=lI.1 hr
  simp only[fW] at hy
  subst hy
  exact Lf.isC _ O.slR.isc u hu) (by simp only[jC,zLQ];omega) ?_
 intro v5 h5 F5 O5 u5 k5 _
 rw[←qB] at O5
 have hFk:∀x∈F,h1 x≠none:=OL.known
 have GF:∀x∈G,x∉F:=λx hx hx'=>hFk x hx' (fG x hx)
 have f5:eP h0 F5:=λx hx=>by
  rcases k5 x hx with hx|hx
  ·exact fF x hx
  ·exact n02 x (u4.none hx)
 refine hR h5 v5 F ⟨⟨l++[(f,pv)],F5,by rw[qB,e];rfl,O5,f5,λy hy=>?_⟩⟩ fF (u4.upd.trans u5)
 rcases jJ.1 hy with hy|hy
 ·obtain⟨G',O',f',d'⟩:=L y hy
  have k1:∀x∈G',h1 x≠none:=O'.known
  refine⟨G',((O'.upd u (f'.off kb km)).ext u4).upd u5 (λx hx=>d' x hx),f',λx hx hx5=>?_⟩
  rcases k5 x hx5 with h|h
  ·exact d' x hx h
  ·exact((O'.upd u (f'.off kb km)).ext u4).known x hx h
 ·simp only[fW] at hy
  subst hy
  refine⟨G,(O.ext u4).upd u5 GF,λx hx=>n01 x (fG x hx),λx hx hx5=>?_⟩
  rcases k5 x hx5 with h|h
  ·exact GF x hx h
  ·exact(O.ext u4).known x hx h
theorem nJ.one{h0 h2:PH}{f:Lf}{pv:Value}{G:List Nat}(O:eS h2 bR 1 pv (f.path.map jA) G)(fG:eP h0 G)(n02:∀x,h2 x=none->h0 x=none){r:Nat}(hr:h2 r=none):
  nJ h0 (h2.set r (.cells (f.cells pv).toArray cB)) (.slice (some ⟨r,0,none⟩) 1 1) [f]∧dC h2 (h2.set r (.cells (f.cells pv).toArray cB)):=by
 have u4:dC h2 (h2.set r (.cells (f.cells pv).toArray cB)):=cU.new hr
 have O4:eS (h2.set r (.cells (f.cells pv).toArray cB)) cB 5 (.slice (some ⟨r,0,none⟩) 1 1) ([((f,pv):LV)].map qE) [r]:=eS.lit (n:=1) (qE.rows [(f,pv)]) dL (by simp) (by decide) (by simp[qE])
 generalize h2.set r (.cells (f.cells pv).toArray cB)=h4 at *
 refine⟨⟨⟨[(f,pv)],[r],rfl,O4,λx hx=>?_,λy hy=>?_⟩⟩,u4⟩
 ·simp only[fW] at hx
  subst hx;exact n02 _ hr
 ·simp only[fW] at hy
  subst hy
  refine⟨G,O.ext u4,fG,λx hx hx5=>?_⟩
  simp only[fW] at hx5
  subst hx5
  exact O.known _ hx hr
theorem Pf.boxC{h:PH}{r:Nat}{ab:Bool}{v:Value}(B:Bx h r [.bool ab,v]):cG PG h (loadAt cC (pT r 0))=some (Pf.val ab v):=cC.agg B (by show 0+2≤2;decide)
theorem aHN{l:List Pr}(H:qR l){key:Tx}:(gQ l key).isSome=true↔∃p,l[gY l key]? =some p∧p.k=key:=by
 constructor
 ·intro h
  obtain⟨p,hp⟩:=Option.isSome_iff_exists.1 h
  exact⟨p,aIz H hp,((uM H).1 hp).2⟩
 ·rintro⟨p,h1,h2⟩
  rw[(uM H).2 ⟨sH h1,h2⟩];rfl
theorem aQV{h:PH}{v:Value}{l:List Pr}{key:Tx}{b m:Nat}{A:List Tx}{K:List Nat}(H:Bk b m A K h)(M:MOk l)(S:fY h 2 v (l.map Pr.cells))(hv:Off b m v){k:cD}
  (hno:gQ l key=none->∀h',Bk b m A K h'->cU [b,m] h h'->k (.tuple #[Pf.val false (.slice none 0 0),.int .i64 3]) h')
  (hyes:(gQ l key).isSome=true->∀h' v',Bk b m A K h'->nJ h h' v' [jW l (gY l key)]->cU [b,m] h h'->k (.tuple #[Pf.val false v',.int .i64 0]) h'):
  aT PG aAp #[pT b 0,v,.string (tx key)] h k:=by
 apply yZ.call
 unfold yZ
 have hl:=M.len
 have kb:=H.known b (by simp)
 have km:=H.known m (by simp)
 intro r1 hr1
 try rw[cZ]
 have hr1b:r1∉[b,m]:=(eP.one hr1).off kb km r1 (by simp)
 have u1:dC h (h.set r1 (.cells (dP PG cC) cC)):=cU.new hr1
 have Z1:=cC.zbox (h:=h) (r:=r1)
 generalize h.set r1 (.cells (dP PG cC) cC)=h1 at *
 have H1:=H.ext u1
 have S1:=S.ext u1
 have lv:=S.len (t':=bT) cJ.und
 rw[jC] at lv
 have hple:=aII l key
 have no:gQ l key=none->dZ (cV PG (build cC #[])) λv33=>cW PG (dJ cC (pT r1 0) v33) h1 λv34 h35=>dZ (cG PG h35 (loadAt cC (pT r1 0))) λv36=>k (Value.tuple #[v36,(Value.int IntKind.i64 3)]) h35:=λhn=>by
  simp only[aF0,cE,reduceIte,cT,Nat.reduceAdd]
  refine cC.put (vs:=[.bool false,.slice none 0 0]) Z1 (o:=0) rfl (by show 0+2≤2;decide) (by simp[fK]) λh6 B6 u6=>?_
  have B6:Bx h6 r1 [.bool false,.slice none 0 0]:=B6
  simp only[Pf.boxC B6,cE,reduceIte,cT,Nat.reduceAdd]
  exact hno hn h6 (H1.upd u6 (λx hx hm=>by simp only[fW] at hm;subst hm;exact H.known _ hx hr1)) ((u1.upd (F:=[b,m])).then u6 (λx hx=>by simp only[fW] at hx;subst hx;exact .inr hr1))
 refine aOo S1 (by omega) key ?_
 by_cases c1:gY l key=l.length
 ·have q:(((gY l key:Nat):Int)==(l.length:Int))=true:=by rw[beq_iff_eq];omega
  simp only[lv,hE,q,cE,reduceIte,cT,Nat.reduceAdd]
  refine no ?_
  have:¬(gQ l key).isSome=true:=λh=>by
   obtain⟨p,h1,-⟩:=(aHN M.up).1 h
   have:=(zLx.1 h1).1
   omega
  simpa using this
 ·have q:(((gY l key:Nat):Int)==(l.length:Int))=false:=by rw[beq_eq_false_iff_ne];omega
  obtain⟨p,hp⟩:∃p,l[gY l key]? =some p:=⟨_,lS (by omega)⟩
  obtain⟨x,o,e2,e3,-,-⟩:=S1.pair hp
  by_cases c2:p.k=key
  ·have q2:(!decide (p.k=key))=false:=by simp[c2]
   simp only[lv,hE,q,e2,cM.f0,bR.load,e3,aEu,q2,cE,reduceIte,cT,Nat.reduceAdd]
   refine aKB H1 S1 hv M.small hl (by omega) λh2 pv F B2 O2 f2 u2=>?_
   have n02:∀x,h2 x=none->h1 x=none:=λx hx=>u2.grow2 (B2.known b (by simp)) (B2.known m (by simp)) hx
   simp only[aLn,cE,reduceIte,cT,Nat.reduceAdd]
   intro r9 hr9
   refine fT ?_
   try rw[cZ]
   obtain⟨L3,u3⟩:=nJ.one O2 f2 n02 hr9
   generalize h2.set r9 (.cells ((jW l (gY l key)).cells pv).toArray cB)=h3 at *
   simp only[aVR,cE,reduceIte,cT,Nat.reduceAdd]
   obtain⟨v3,ev3⟩:∃v3:Value,v3= .slice (some ⟨r9,0,none⟩) 1 1:=⟨_,rfl⟩
   rw[←ev3] at L3 ⊢
   refine cC.put (vs:=[.bool false,v3]) ((Z1.upd u2 hr1b).ext u3) (o:=0) rfl (by show 0+2≤2;decide) (by
    have:=L3.isc
    simp[fK];exact this) λh6 B6 u6=>?_
   have B6:Bx h6 r1 [.bool false,v3]:=B6
   simp only[Pf.boxC B6,cE,reduceIte,cT,Nat.reduceAdd]
   refine hyes ((aHN M.up).2 ⟨p,hp,c2⟩) h6 v3 ((B2.ext u3).upd u6 (λx hx hm=>by simp only[fW] at hm;subst hm;exact H.known _ hx hr1)) ((L3.upd u6 (λx hx=>by simp only[fW] at hx;subst hx;exact Z1.known)).of u1) (((u1.upd.trans u2).trans u3.upd).then u6 (λx hx=>by simp only[fW] at hx;subst hx;exact .inr hr1))
  ·have q2:(!decide (p.k=key))=true:=by simp[c2]
   simp only[lv,hE,q,e2,cM.f0,bR.load,e3,aEu,q2,cE,reduceIte,cT,Nat.reduceAdd]
   refine no ?_
   have:¬(gQ l key).isSome=true:=λh=>by
    obtain⟨p',h1,h2⟩:=(aHN M.up).1 h
    rw[hp] at h1
    obtain rfl:=aJJ h1
    exact c2 h2
   simpa using this
theorem aR3{h:PH}{v:Value}{l:List Pr}{key:Tx}{b m:Nat}{A:List Tx}{K:List Nat}(H:Bk b m A K h)(M:MOk l)(S:fY h 2 v (l.map Pr.cells))(hv:Off b m v){k:cD}
  (hbad:¬(1≤key.length∧key.length≤16)->∀h',Bk b m A K h'->cU [b,m] h h'->k (.tuple #[Pf.val false (.slice none 0 0),.int .i64 1]) h')
  (hyes:(1≤key.length∧key.length≤16)->(gQ l key).isSome=true->∀h',Bk b m A K h'->cU [b,m] h h'->k (.tuple #[Pf.val false (.slice none 0 0),.int .i64 4]) h')
  (hk:(1≤key.length∧key.length≤16)->gQ l key=none->∀h' v',Bk b m A K h'->nJ h h' v' (jG l key).lv->cU [b,m] h h'->k (.tuple #[Pf.val true v',.int .i64 0]) h'):
  aT PG aBb #[pT b 0,v,.string (tx key)] h k:=by
 apply rJ.call
 unfold rJ
 have hl:=M.len
 have kb:=H.known b (by simp)
 have km:=H.known m (by simp)
 intro r1 hr1
 try rw[cZ]
 have hr1b:r1∉[b,m]:=(eP.one hr1).off kb km r1 (by simp)
 have u1:dC h (h.set r1 (.cells (dP PG cC) cC)):=cU.new hr1
 have Z1:=cC.zbox (h:=h) (r:=r1)
 generalize h.set r1 (.cells (dP PG cC) cC)=h1 at *
 have H1:=H.ext u1
 have S1:=S.ext u1
 have lk:cV PG (Builtin.len_ #[bR] bT #[.string (tx key)])=some (.int .i64 (key.length:Int)):=by rw[lV bR.und,iD]
 have lv:=S.len (t':=bT) cJ.und
 rw[jC] at lv
 have hple:=aII l key
 have no:∀e:Int,(∀h',Bk b m A K h'->cU [b,m] h h'->k (.tuple #[Pf.val false (.slice none 0 0),.int .i64 e]) h')->dZ (cV PG (build cC #[])) λv33=>cW PG (dJ cC (pT r1 0) v33) h1 λv34 h35=>dZ (cG PG h35 (loadAt cC (pT r1 0))) λv36=>k (Value.tuple #[v36,(Value.int IntKind.i64 e)]) h35:=λe hn=>by
  simp only[aF0,cE,reduceIte,cT,Nat.reduceAdd]
  refine cC.put (vs:=[.bool false,.slice none 0 0]) Z1 (o:=0) rfl (by show 0+2≤2;decide) (by simp[fK]) λh6 B6 u6=>?_
  have B6:Bx h6 r1 [.bool false,.slice none 0 0]:=B6
  simp only[Pf.boxC B6,cE,reduceIte,cT,Nat.reduceAdd]
  exact hn h6 (H1.upd u6 (λx hx hm=>by simp only[fW] at hm;subst hm;exact H.known _ hx hr1)) ((u1.upd (F:=[b,m])).then u6 (λx hx=>by simp only[fW] at hx;subst hx;exact .inr hr1))
 by_cases d1:key.length<1
 ·have g1:((key.length:Int)<1)=True:=eq_true (by omega)
  simp only[lk,g1,cE,reduceIte,cT,Nat.reduceAdd]
  exact no 1 (hbad (by omega))
 have g1:((key.length:Int)<1)=False:=eq_false (by omega)
 by_cases d2:16<key.length
 ·have g2:((16:Int)<(key.length:Int))=True:=eq_true (by omega)
  simp only[lk,g1,g2,cE,reduceIte,cT,Nat.reduceAdd]
  exact no 1 (hbad (by omega))
 have g2:((16:Int)<(key.length:Int))=False:=eq_false (by omega)
 have hkl:1≤key.length∧key.length≤16:=by omega
 simp only[lk,g1,g2,cE,reduceIte,cT,Nat.reduceAdd]
 refine aOo S1 (by omega) key ?_
 obtain⟨n,hn⟩:∃n,n=gY l key:=⟨_,rfl⟩
 rw[←hn] at hple
 rw[←hn]
 have lvS:∀{t':TypeId},cV PG (Builtin.len_ #[cJ] t' #[v])=some (.int .i64 (l.length:Int)):=fun {t'}=>by
  have:=S.len (t':=t') cJ.und
  rw[jC] at this;exact this
 cases hg:(gQ l key).isSome with
 | true=>
  obtain⟨p,hp,c2⟩:=(aHN M.up).1 hg
  rw[←hn] at hp
  have hnl:=(zLx.1 hp).1
  have q:(((n:Nat):Int)<(l.length:Int))=True:=eq_true (by omega)
  obtain⟨x,o,e2,e3,-,-⟩:=S1.pair hp
  have q2:decide (p.k=key)=true:=by simp[c2]
  simp only[lv,q,e2,cM.f0,bR.load,e3,aEv,q2,cE,reduceIte,cT,Nat.reduceAdd]
  exact no 4 (hyes hkl hg)
 | false=>
  have hg':gQ l key=none:=by simpa using hg
  have hno:∀p,l[n]? =some p->p.k≠key:=λp hp e=>by
   have:=(aHN M.up).2 ⟨p,by rw[←hn];exact hp,e⟩
   rw[hg] at this;cases this
  have hpf:(jG l key).lv=(if 0<n then [jW l (n-1)] else [])++(if n<l.length then [jW l n] else []):=by
   unfold jG
   rw[hg,if_neg (by decide),←hn]
   by_cases h0:l=[]
   ·have:n=0:=by rw[h0] at hple;simpa using hple
    rw[if_pos h0,this,if_neg (by decide),if_neg (by rw[h0];decide)];rfl
   ·have hpos:0<l.length:=aG1.2 h0
    rw[if_neg h0]
    by_cases c0:n=0
    ·rw[if_pos c0,c0,if_neg (by decide),if_pos hpos];rfl
    ·have h0n:0<n:=by omega
     rw[if_neg c0,if_pos h0n]
     by_cases cl:n=l.length
     ·rw[if_pos cl,if_neg (by omega),cl];rfl
     ·rw[if_neg cl,if_pos (by omega)];rfl
  have tail:∀{r56:Nat} {h2 h4:PH} {v4:Value} {fs:List Lf},h1 r56=none->h2 r56≠none->dC h1 h2->Bk b m A K h4->fY h4 2 v (l.map Pr.cells)->nJ h2 h4 v4 fs->Bx h4 r56 [.bool true,v4]->Bx h4 r1 (Value.agg #[Value.bool false,Value.slice none 0 0]).cells.toList->fs.length≤5->cU [b,m] h h4->(∀x,h4 x=none->h2 x=none)->fs++(if n<l.length then [jW l n] else [])=(jG l key).lv->vQ k (pT b 0) v (pT r1 0) (.int .i64 ((n:Nat):Int)) (pT r56 0) h4:=by
   intro r56 h2 h4 v4 fs hr56 k56 u12 B4 S4 L4 X4 Y4 hfs U4 n42 hfin
   have hx56:r56∉[b,m]:=λhm'=>by
    simp only[gZ,kW,or_false] at hm'
    rcases hm' with rfl|rfl
    ·exact kb (u1.none hr56)
    ·exact km (u1.none hr56)
   have n61:r1≠r56:=λe=>Z1.known (e▸hr56)
   have kb2:h2 b≠none:=λe=>kb ((u1.trans u12).none e)
   have km2:h2 m≠none:=λe=>km ((u1.trans u12).none e)
   -- the end
   have last:∀{h5:PH} {v5:Value},Bk b m A K h5->nJ h2 h5 v5 (jG l key).lv->Bx h5 r56 [.bool true,v5]->Bx h5 r1 (Value.agg #[Value.bool false,Value.slice none 0 0]).cells.toList->cU [b,m] h h5->vK k (pT r1 0) (pT r56 0) h5:=by
    intro h5 v5 B5 L5 X5 Y5 U5
    unfold vK
    simp only[Pf.boxC X5,cE,reduceIte,cT,Nat.reduceAdd]
    refine cC.put (vs:=[.bool true,v5]) Y5 (o:=0) rfl (by show 0+2≤2;decide) (by
     have:=L5.isc
     simp[fK];exact this) λh6 B6 u6=>?_
    have B6:Bx h6 r1 [.bool true,v5]:=B6
    simp only[Pf.boxC B6,cE,reduceIte,cT,Nat.reduceAdd]
    exact hk hkl hg' h6 v5 (B5.upd u6 (λx hx hm=>by simp only[fW] at hm;subst hm;exact H.known _ hx hr1)) ((L5.upd u6 (λx hx=>by simp only[fW] at hx;subst hx;exact λe=>Z1.known (u12.none e))).of (u1.trans u12)) (U5.then u6 (λx hx=>by simp only[fW] at hx;subst hx;exact .inr hr1))
   unfold vQ
   by_cases c1:n<l.length
   ·have q:(((n:Nat):Int)<(l.length:Int))=True:=eq_true (by omega)
    have l4:cG PG h4 (loadAt cN (pT r56 1))=some v4:=by rw[cN.load,X4.cell];rfl
    simp only[lvS,q,cC.f1,fL,l4,cE,reduceIte,cT,Nat.reduceAdd]
    refine aKB B4 S4 hv M.small hl c1 λh5 pv F B5 O5 f5 u5=>?_
    have X5:=X4.upd u5 hx56
    have Y5:=Y4.upd u5 hr1b
    have l5:cG PG h5 (loadAt cN (pT r56 1))=some v4:=by rw[cN.load,X5.cell];rfl
    refine⟨l5,?_⟩
    have n52:∀x,h5 x=none->h2 x=none:=λx hx=>n42 x (u5.grow2 (B5.known b (by simp)) (B5.known m (by simp)) hx)
    refine L4.push kb2 km2 u5 n42 n52 O5 f5 (by omega) λh6 v6 F6 L6 f6 u6=>?_
    have n6:r56∉F6:=λhm=>k56 (f6 _ hm)
    have m6:r1∉F6:=λhm=>Z1.known (u12.none (f6 _ hm))
    have X6:=X5.upd u6 n6
    refine cN.put X6 (o:=1) (by show 1<2;decide) L6.isc λh7 X7 u7=>?_
    have X7:Bx h7 r56 [.bool true,v6]:=X7
    rw[if_pos c1] at hfin
    rw[hfin] at L6
    have U7:cU [b,m] h h7:=((U4.trans u5).then u6 (λx hx=>.inr ((u1.trans u12).none (f6 x hx)))).then u7 (λx hx=>by simp only[fW] at hx;subst hx;exact .inr (u1.none hr56))
    refine last ((B5.upd u6 (λx hx hm=>?_)).upd u7 (λx hx hm=>?_)) (L6.upd u7 (λx hx=>by simp only[fW] at hx;subst hx;exact k56)) X7 ((Y5.upd u6 m6).upd u7 (by simp only[fW];exact n61)) U7
    ·exact H.known _ hx ((u1.trans u12).none (f6 _ hm))
    ·simp only[fW] at hm;subst hm;exact H.known _ hx (u1.none hr56)
   ·have q:(((n:Nat):Int)<(l.length:Int))=False:=eq_false (by omega)
    simp only[lvS,q,cE,reduceIte,cT,Nat.reduceAdd]
    rw[if_neg c1,zLN] at hfin
    rw[hfin] at L4
    exact last B4 L4 X4 Y4 U4
  have go:∀{r56:Nat} {h2:PH},h1 r56=none->Bx h2 r56 [.bool true,.slice none 0 0]->dC h1 h2->(0<n->∀(K':cD),(∀h' v',Bk b m A K h'->fY h' 2 v (l.map Pr.cells)->nJ h2 h' v' [jW l (n-1)]->Bx h' r56 [.bool true,.slice none 0 0]->Bx h' r1 (Value.agg #[Value.bool false,Value.slice none 0 0]).cells.toList->cU [b,m] h h'->(∀x,h' x=none->h2 x=none)->K' v' h')->
    aT PG qP #[pT b 0,v,.int .i64 ((n-1:Nat):Int)] h2 λv64 h65=>cG PG h65 (loadAt cN (pT r56 1))=some (.slice none 0 0)∧(dZ (jS PG (buildSlice cN 1 #[(0,v64)])) λx67=>∀r66,h65 r66=none->dZ (cV PG (x67.2 r66)) λv68=>cW PG (Builtin.append_ #[cN,cN] cN #[.slice none 0 0,v68]) (PH.set h65 r66 x67.1) λv70 h71=>K' v70 h71)):=by
   intro r56 h2 hr56 X2 u12 hpos K' hK'
   have hx56:r56∉[b,m]:=λhm'=>by
    simp only[gZ,kW,or_false] at hm'
    rcases hm' with rfl|rfl
    ·exact kb (u1.none hr56)
    ·exact km (u1.none hr56)
   have H2:=H1.ext u12
   refine aKB H2 (S1.ext u12) hv M.small hl (by omega) λh5 pv F B5 O5 f5 u5=>?_
   have X5:=X2.upd u5 hx56
   have l5:cG PG h5 (loadAt cN (pT r56 1))=some (.slice none 0 0):=by rw[cN.load,X5.cell];rfl
   refine⟨l5,?_⟩
   have n52:∀x,h5 x=none->h2 x=none:=λx hx=>u5.grow2 (B5.known b (by simp)) (B5.known m (by simp)) hx
   refine(nJ.nil (h0:=h2) (h:=h2)).push (H2.known b (by simp)) (H2.known m (by simp)) u5 (λx hx=>hx) n52 O5 f5 (by simp) λh6 v6 F6 L6 f6 u6=>?_
   have n6:r56∉F6:=λhm=>X2.known (f6 _ hm)
   have m6:r1∉F6:=λhm=>Z1.known (u12.none (f6 _ hm))
   refine hK' h6 v6 (B5.upd u6 (λx hx hm=>H.known _ hx ((u1.trans u12).none (f6 _ hm)))) (((S1.ext u12).upd u5 hv).upd0 u6 (λhne a n' c e hm=>S.known hne e ((u1.trans u12).none (f6 _ hm)))) L6 (X5.upd u6 n6) (((Z1.ext u12).upd u5 hr1b).upd u6 m6) (((u1.trans u12).upd.trans u5).then u6 (λx hx=>.inr ((u1.trans u12).none (f6 x hx)))) (λx hx=>?_)
   ·by_cases hxF:x∈F6
    ·exact f6 x hxF
    ·cases e:h5 x with
     | none=>exact n52 x e
     | some o=>have:=u6 x o e hxF;rw[hx] at this;cases this
  by_cases c3:0<n
  ·have g3:((0:Int)<((n:Nat):Int))=True:=eq_true (by omega)
   have w1:IntKind.i64.wrap (((n:Nat):Int)-1)=((n-1:Nat):Int):=by rw[eZ (by omega) (by omega)];omega
   rw[if_pos c3] at hpf
   rcases Nat.lt_or_ge n l.length with c1|c1
   have q:(((n:Nat):Int)<(l.length:Int))=True:=eq_true (by omega)
   obtain⟨p,hp⟩:∃p,l[n]? =some p:=⟨_,lS c1⟩
   obtain⟨x,o,e2,e3,-,-⟩:=S1.pair hp
   have q2:decide (p.k=key)=false:=by simp[hno p hp]
   simp only[lv,q,e2,cM.f0,bR.load,e3,aEv,q2,aJp,g3,w1,cE,reduceIte,cT,Nat.reduceAdd]
   rotate_left 1
   have q:(((n:Nat):Int)<(l.length:Int))=False:=eq_false (by omega)
   simp only[lv,q,aJp,g3,w1,cE,reduceIte,cT,Nat.reduceAdd]
   all_goals
    intro r56 hr56
    try rw[cZ]
    refine cC.fill (vs:=[.bool true,.slice none 0 0]) hr56 rfl (by simp[fK]) λh2 X2 u2=>?_
    have l2:cG PG h2 (loadAt cN (pT r56 1))=some (.slice none 0 0):=by rw[cN.load,X2.cell];rfl
    simp only[cC.f1,fL,l2,cE,reduceIte,cT,Nat.reduceAdd]
    refine go hr56 X2 u2 c3 _ λh3 v3 B3 S3 L3 X3 Y3 U3 n3=>?_
    refine cN.put X3 (o:=1) (by show 1<2;decide) L3.isc λh4 X4 u4=>?_
    have X4:Bx h4 r56 [.bool true,v3]:=X4
    have n61:r1≠r56:=λe=>Z1.known (e▸hr56)
    refine tail hr56 X2.known u2 (B3.upd u4 (λx hx hm=>by simp only[fW] at hm;subst hm;exact H.known _ hx (u1.none hr56))) (S3.upd0 u4 (λhne a n' c e hm=>by simp only[fW] at hm;exact S.known hne e (hm▸u1.none hr56))) (L3.upd u4 (λx hx=>by simp only[fW] at hx;subst hx;exact X2.known)) X4 (Y3.upd u4 (by simp only[fW];exact n61)) (by simp) (U3.then u4 (λx hx=>by simp only[fW] at hx;subst hx;exact .inr (u1.none hr56))) (λx hx=>?_) hpf.symm
    by_cases hx56:x=r56
    ·subst hx56;exact absurd hx X4.known
    ·cases e:h3 x with
     | none=>exact n3 x e
     | some o=>have:=u4 x o e (by simp[hx56]);rw[hx] at this;cases this
  ·have g3:((0:Int)<((n:Nat):Int))=False:=eq_false (by omega)
   rw[if_neg c3,wN] at hpf
   rcases Nat.lt_or_ge n l.length with c1|c1
   have q:(((n:Nat):Int)<(l.length:Int))=True:=eq_true (by omega)
   obtain⟨p,hp⟩:∃p,l[n]? =some p:=⟨_,lS c1⟩
   obtain⟨x,o,e2,e3,-,-⟩:=S1.pair hp
   have q2:decide (p.k=key)=false:=by simp[hno p hp]
   simp only[lv,q,e2,cM.f0,bR.load,e3,aEv,q2,aJp,g3,cE,reduceIte,cT,Nat.reduceAdd]
   rotate_left 1
   have q:(((n:Nat):Int)<(l.length:Int))=False:=eq_false (by omega)
   simp only[lv,q,aJp,g3,cE,reduceIte,cT,Nat.reduceAdd]
   all_goals
    intro r56 hr56
    try rw[cZ]
    refine cC.fill (vs:=[.bool true,.slice none 0 0]) hr56 rfl (by simp[fK]) λh2 X2 u2=>?_
    exact tail hr56 X2.known u2 (H1.ext u2) (S1.ext u2) nJ.nil X2 (Z1.ext u2) (by simp) (u1.trans u2).upd (λx hx=>hx) hpf.symm
theorem aPE{h:PH}{s:Tx}(hs:s.length≤1000000){k:cD}(hk:∀h',dC h h'->k (.string (tx (be s.length 2++s))) h'):aT PG zG #[.string (tx s)] h k:=by
 apply aBo.call
 unfold aBo
 have ls:cV PG (Builtin.len_ #[bR] bT #[.string (tx s)])=some (.int .i64 (s.length:Int)):=by rw[lV bR.und,iD]
 have w:IntKind.u64.wrap (s.length:Int)=(s.length:Int):=gG (by omega) (by omega)
 simp only[ls,aIH,w,cE,reduceIte,cT,Nat.reduceAdd]
 refine sT (n:=s.length) (c:=2) (by omega) (by decide) λh1 u1=>?_
 have a:cV PG (binOp .add bR (.string (tx (be s.length 2))) (.string (tx s)))=some (.string (tx (be s.length 2++s))):=lQ (by rw[iF];omega)
 simp only[a,cE,reduceIte,cT,Nat.reduceAdd]
 exact hk h1 u1
theorem aQn{ab:Bool}{l:List Lf}(h:¬(l.length≤2∧∀f∈l,f.Ok)):lB ⟨ab,l⟩=([],1):=by
 unfold lB
 rw[if_neg]
 rintro⟨h1,h2⟩
 exact h ⟨h1,λf hf=>Lf.ok_iff.1 (aCD.1 h2 f hf)⟩
theorem aPi{ab:Bool}{l:List Lf}(h1:l.length≤2)(h2:∀f∈l,f.Ok):lB ⟨ab,l⟩=(aAs ⟨ab,l⟩,0):=by
 unfold lB
 rw[if_pos ⟨h1,aCD.2 λf hf=>Lf.ok_iff.2 (h2 f hf)⟩]
theorem aWy{h:PH}{r1 r27:Nat}{y:LV}(X:Bx h r27 (y.1.cells y.2))(P:fY h 1 y.2 (y.1.path.map jA))(hm:y.1.path.length≤16){out:Tx}(ho:out.length≤100000){i:Nat}(hi:i≤100){R:cD}{n17:gP}
  (hbad:¬(∀d∈y.1.path,d.length=32)->R (.tuple #[.string (tx []),.int .i64 1]) h)
  (hk:(∀d∈y.1.path,d.length=32)->n17 [pT r1 0,.string (tx (out++y.1.path.flatten)),.int .i64 ((i+1:Nat):Int)] h):
  iL [1,4,5,6,7] (λn163 ρ h=>aAr R n17 n163 (ρ 1) (ρ 4) (ρ 5) (ρ 6) (ρ 7) h) [pT r1 0,.string (tx out),.int .i64 (i:Int),pT r27 0,.int .i64 0] h:=by
 refine⟨λvs h'=>∃j:Nat,j≤y.1.path.length∧vs=[pT r1 0,.string (tx (out++(y.1.path.take j).flatten)),.int .i64 (i:Int),pT r27 0,.int .i64 (j:Int)]∧h'=h∧∀d∈y.1.path.take j,d.length=32,iE y.1.path.length 4,⟨0,by omega,by simp,rfl,λd hd=>by simp at hd⟩,?_⟩
 rintro ρ h' ⟨j,hj,hvs,rfl,hal⟩
 simp only[iH,iU,lF,and_true] at hvs
 obtain⟨v0,v1,v2,v3,v4⟩:=hvs
 unfold aAr
 rw[v0,v1,v2,v3,v4]
 have lp:cG PG h' (loadAt cP (pT r27 4))=some y.2:=by rw[cP.load,X.cell];rfl
 have ll:=aNI P
 by_cases hlt:j<y.1.path.length
 ·have g:((j:Int)<(y.1.path.length:Int))=True:=eq_true (by omega)
  have gj:=rA (i:=j) (by omega)
  obtain⟨x,hx⟩:∃x,y.1.path[j]? =some x:=⟨_,lS hlt⟩
  obtain⟨pa,ha1,ha2⟩:=P.st hx
  have lx:cV PG (Builtin.len_ #[bR] bT #[.string (tx x)])=some (.int .i64 (x.length:Int)):=by rw[lV bR.und,iD]
  by_cases hx32:x.length=32
  ·have q:((x.length:Int) !=32)=false:=by simp[hx32]
   have hfl:=aMM hal
   rw[rN] at hfl
   have s1:cV PG (binOp .add bR (.string (tx (out++(y.1.path.take j).flatten))) (.string (tx x)))=some (.string (tx ((out++(y.1.path.take j).flatten)++x))):=lQ (by rw[jE,hfl];omega)
   simp only[cB.f3,fL,lp,ll,g,ha1,ha2,lx,kU,q,s1,gj,cE,reduceIte,cT,Nat.reduceAdd]
   refine⟨⟨j+1,by omega,?_,by trivial,λz hz=>?_⟩,by simp[iE,v4];omega⟩
   ·rw[zLR,hx,zLD]
    simp
   ·rw[zLR,hx] at hz
    rcases jJ.1 hz with hz|hz
    ·exact hal z hz
    ·simp only[Option.toList_some,fW] at hz
     rw[hz];exact hx32
  ·have q:((x.length:Int) !=32)=true:=by simp;omega
   simp only[cB.f3,fL,lp,ll,g,ha1,ha2,lx,kU,q,aBE,cE,reduceIte,cT,Nat.reduceAdd]
   exact hbad λhall=>hx32 (hall x (sH hx))
 ·have g:((j:Int)<(y.1.path.length:Int))=False:=eq_false (by omega)
  have gi:=rA (i:=i) (by omega)
  rw[mV (by omega)] at hal ⊢
  simp only[cB.f3,fL,lp,ll,g,gi,cE,reduceIte,cT,Nat.reduceAdd]
  exact hk hal
theorem aOf{h:PH}{ab:Bool}{v:Value}{l:List LV}(S:fY h 5 v (l.map qE))(HS:LfS h l)(hl:l.length≤1000000){k:cD}
  (hk:∀h',dC h h'->k (.tuple #[.string (tx (lB ⟨ab,l.map (·.1)⟩).1),.int .i64 (lB ⟨ab,l.map (·.1)⟩).2]) h'):aT PG tC #[Pf.val ab v] h k:=by
 apply tA.call
 unfold tA
 intro r1 hr1
 try rw[cZ]
 have u1:dC h (h.set r1 (.cells (Value.cells (Pf.val ab v)) cC)):=cU.new hr1
 have X1:Bx (h.set r1 (.cells (Value.cells (Pf.val ab v)) cC)) r1 [.bool ab,v]:=Bx.new
 generalize h.set r1 (.cells (Value.cells (Pf.val ab v)) cC)=h1 at *
 have S1:=S.ext u1
 have lv:∀{h'':PH},dC h1 h''->cG PG h'' (loadAt cN (pT r1 1))=some v:=λu=>by rw[cN.load,(X1.ext u).cell];rfl
 have la:cG PG h1 (loadAt gF (pT r1 0))=some (.bool ab):=by rw[gF.load,X1.cell];rfl
 have ll:=aIU S
 by_cases c2:2<l.length
 ·have g2:((2:Int)<(l.length:Int))=True:=eq_true (by omega)
  simp only[cC.f1,fL,lv cU.refl,ll,g2,aBE,cE,reduceIte,cT,Nat.reduceAdd]
  rw[aQn (λh=>by have:=h.1;rw[jC] at this;omega)] at hk
  exact hk h1 u1
 have g2:((2:Int)<(l.length:Int))=False:=eq_false (by omega)
 have w2:IntKind.u64.wrap (l.length:Int)=(l.length:Int):=gG (by omega) (by omega)
 have rest:yA k (pT r1 0) (.string (tx (be (if ab then 2 else 1) 1))) h1:=by
  unfold yA
  simp only[cC.f1,fL,lv cU.refl,ll,aIH,w2,cE,reduceIte,cT,Nat.reduceAdd]
  refine sT (n:=l.length) (c:=1) (by omega) (by decide) λh2 u2=>?_
  have s1:cV PG (binOp .add bR (.string (tx (be (if ab then 2 else 1) 1))) (.string (tx (be l.length 1))))=some (.string (tx (be (if ab then 2 else 1) 1++be l.length 1))):=lQ (by rw[iF,iF];decide)
  simp only[s1,cE,reduceIte,cT,Nat.reduceAdd]
  refine⟨λvs h'=>∃i:Nat,i≤l.length∧vs=[pT r1 0,.string (tx ((be (if ab then 2 else 1) 1++be l.length 1)++lG ((l.take i).map (·.1)))),.int .i64 (i:Int)]∧dC h1 h'∧∀y∈l.take i,y.1.Ok,iE l.length 2,⟨0,by omega,by simp[lG],u2,λy hy=>by simp at hy⟩,?_⟩
  rintro ρ h' ⟨i,hi,hvs,u,hal⟩
  simp only[iH,iU,lF,and_true] at hvs
  obtain⟨v0,v1,v2⟩:=hvs
  unfold aE7
  rw[v0,v1,v2]
  by_cases hlt:i<l.length
  ·have g:((i:Int)<(l.length:Int))=True:=eq_true (by omega)
   obtain⟨y,hy⟩:∃y,l[i]? =some y:=⟨_,lS hlt⟩
   have hym:=sH hy
   obtain⟨pa,e1,e2⟩:=((S1.ext u)).lf hy
   have P:=((HS y hym).ext u1).ext u
   have bad:¬y.1.Ok->∀h2,dC h h2->k (.tuple #[.string (tx []),.int .i64 1]) h2:=λhno h2 u2=>by
    rw[aQn (λh=>hno (h.2 y.1 (zL4 hym)))] at hk
    exact hk h2 u2
   simp only[cC.f1,fL,lv u,ll,g,e1,e2,cE,reduceIte,cT,Nat.reduceAdd]
   intro r27 hr27
   try rw[cZ]
   refine cB.fill (vs:=y.1.cells y.2) hr27 rfl (Lf.isC _ (HS y hym).isc) λh3 X3 u3=>?_
   have e3:=(u1.trans u).trans u3
   have P3:=P.ext u3
   have lp:=aNI P3
   have c0:∀{h'':PH},dC h3 h''->dD h'' ⟨r27,0,none⟩=some (.int .i64 y.1.i):=λu=>(X3.ext u).cell 0
   have c1:∀{h'':PH},dC h3 h''->dD h'' ⟨r27,1,none⟩=some (.int .i64 y.1.n):=λu=>(X3.ext u).cell 1
   have c2':∀{h'':PH},dC h3 h''->dD h'' ⟨r27,2,none⟩=some (.string (tx y.1.p.k)):=λu=>(X3.ext u).cell 2
   have c3:∀{h'':PH},dC h3 h''->dD h'' ⟨r27,3,none⟩=some (.string (tx y.1.p.v)):=λu=>(X3.ext u).cell 3
   have c4:∀{h'':PH},dC h3 h''->dD h'' ⟨r27,4,none⟩=some y.2:=λu=>(X3.ext u).cell 4
   have lk:cV PG (Builtin.len_ #[bR] bT #[.string (tx y.1.p.k)])=some (.int .i64 (y.1.p.k.length:Int)):=by rw[lV bR.und,iD]
   have lw:cV PG (Builtin.len_ #[bR] bT #[.string (tx y.1.p.v)])=some (.int .i64 (y.1.p.v.length:Int)):=by rw[lV bR.und,iD]
   by_cases d1:y.1.i<0
   ·have g1:=eq_true d1
    simp only[cB.f0,bT.load,c0 cU.refl,g1,aBE,cE,reduceIte,cT,Nat.reduceAdd]
    exact bad (λO=>by have:=O.i0;omega) h3 e3
   have g1:=eq_false d1
   by_cases d2:4096<y.1.i
   ·have g2:=eq_true d2
    simp only[cB.f0,bT.load,c0 cU.refl,g1,g2,aBE,cE,reduceIte,cT,Nat.reduceAdd]
    exact bad (λO=>by have:=O.i1;omega) h3 e3
   have g2:=eq_false d2
   by_cases d3:y.1.n<0
   ·have g3:=eq_true d3
    simp only[cB.f0,cB.f1,fL,bT.load,c0 cU.refl,c1 cU.refl,g1,g2,g3,aBE,cE,reduceIte,cT,Nat.reduceAdd]
    exact bad (λO=>by have:=O.n0;omega) h3 e3
   have g3:=eq_false d3
   by_cases d4:4096<y.1.n
   ·have g4:=eq_true d4
    simp only[cB.f0,cB.f1,fL,bT.load,c0 cU.refl,c1 cU.refl,g1,g2,g3,g4,aBE,cE,reduceIte,cT,Nat.reduceAdd]
    exact bad (λO=>by have:=O.n1;omega) h3 e3
   have g4:=eq_false d4
   by_cases d5:16<y.1.p.k.length
   ·have g5:((16:Int)<(y.1.p.k.length:Int))=True:=eq_true (by omega)
    simp only[cB.f0,cB.f1,cB.f2,cM.f0,fL,bT.load,bR.load,c0 cU.refl,c1 cU.refl,c2' cU.refl,lk,g1,g2,g3,g4,g5,aBE,cE,reduceIte,cT,Nat.reduceAdd]
    exact bad (λO=>by have:=O.k;omega) h3 e3
   have g5:((16:Int)<(y.1.p.k.length:Int))=False:=eq_false (by omega)
   by_cases d6:64<y.1.p.v.length
   ·have g6:((64:Int)<(y.1.p.v.length:Int))=True:=eq_true (by omega)
    simp only[cB.f0,cB.f1,cB.f2,cM.f0,cM.f1,fL,Nat.reduceAdd,bT.load,bR.load,c0 cU.refl,c1 cU.refl,c2' cU.refl,c3 cU.refl,lk,lw,g1,g2,g3,g4,g5,g6,aBE,cE,reduceIte,cT,Nat.reduceAdd]
    exact bad (λO=>by have:=O.v;omega) h3 e3
   have g6:((64:Int)<(y.1.p.v.length:Int))=False:=eq_false (by omega)
   by_cases d7:16<y.1.path.length
   ·have g7:((16:Int)<(y.1.path.length:Int))=True:=eq_true (by omega)
    simp only[cB.f0,cB.f1,cB.f2,cB.f3,cM.f0,cM.f1,fL,Nat.reduceAdd,bT.load,bR.load,cP.load,c0 cU.refl,c1 cU.refl,c2' cU.refl,c3 cU.refl,c4 cU.refl,lk,lw,lp,g1,g2,g3,g4,g5,g6,g7,aBE,cE,reduceIte,cT,Nat.reduceAdd]
    exact bad (λO=>by have:=O.m;omega) h3 e3
   have g7:((16:Int)<(y.1.path.length:Int))=False:=eq_false (by omega)
   obtain⟨a,ha⟩:∃a:Nat,y.1.i=(a:Int):=⟨y.1.i.toNat,by omega⟩
   obtain⟨c,hc⟩:∃c:Nat,y.1.n=(c:Int):=⟨y.1.n.toNat,by omega⟩
   have wa:IntKind.u64.wrap y.1.i=(a:Int):=by rw[ha];exact gG (by omega) (by omega)
   have wc':IntKind.u64.wrap y.1.n=(c:Int):=by rw[hc];exact gG (by omega) (by omega)
   have wm:IntKind.u64.wrap (y.1.path.length:Int)=(y.1.path.length:Int):=gG (by omega) (by omega)
   obtain⟨out,hout⟩:∃out:Tx,out=(be (if ab then 2 else 1) 1++be l.length 1)++lG ((l.take i).map (·.1)):=⟨_,rfl⟩
   have hol:out.length≤10000:=by
    have:=aKq (l:=(l.take i).map (·.1)) (λf hf=>by
     obtain⟨z,hz,rfl⟩:=lI.1 hf
     exact hal z hz)
    rw[jC,rN] at this
    rw[hout,jE,jE,iF,iF]
    omega
   rw[←hout]
   simp only[cB.f0,cB.f1,cB.f2,cB.f3,cM.f0,cM.f1,fL,Nat.reduceAdd,bT.load,bR.load,cP.load,c0 cU.refl,c1 cU.refl,c2' cU.refl,c3 cU.refl,c4 cU.refl,lk,lw,lp,g1,g2,g3,g4,g5,g6,g7,aIH,wa,wc',wm,cE,reduceIte,cT,Nat.reduceAdd]
   refine sT (n:=a) (c:=8) (by omega) (by decide) λh4 u4=>?_
   have s4:cV PG (binOp .add bR (.string (tx out)) (.string (tx (be a 8))))=some (.string (tx (out++be a 8))):=lQ (by rw[iF];omega)
   simp only[c1 u4,c2' u4,c3 u4,c4 u4,s4,true_and,cE,reduceIte,cT,Nat.reduceAdd]
   refine sT (n:=c) (c:=8) (by omega) (by decide) λh5 u5=>?_
   have u45:=u4.trans u5
   have s5:cV PG (binOp .add bR (.string (tx (out++be a 8))) (.string (tx (be c 8))))=some (.string (tx ((out++be a 8)++be c 8))):=lQ (by simp only[jE,iF];omega)
   simp only[c2' u45,c3 u45,c4 u45,s5,true_and,cE,reduceIte,cT,Nat.reduceAdd]
   refine aPE (by omega) λh6 u6=>?_
   have u46:=u45.trans u6
   have s6:cV PG (binOp .add bR (.string (tx ((out++be a 8)++be c 8))) (.string (tx (be y.1.p.k.length 2++y.1.p.k))))=some (.string (tx (((out++be a 8)++be c 8)++(be y.1.p.k.length 2++y.1.p.k)))):=lQ (by simp only[jE,iF];omega)
   simp only[c3 u46,c4 u46,s6,true_and,cE,reduceIte,cT,Nat.reduceAdd]
   refine aPE (by omega) λh7 u7=>?_
   have u47:=u46.trans u7
   have s7:cV PG (binOp .add bR (.string (tx (((out++be a 8)++be c 8)++(be y.1.p.k.length 2++y.1.p.k)))) (.string (tx (be y.1.p.v.length 2++y.1.p.v))))=some (.string (tx ((((out++be a 8)++be c 8)++(be y.1.p.k.length 2++y.1.p.k))++(be y.1.p.v.length 2++y.1.p.v)))):=lQ (by simp only[jE,iF];omega)
   simp only[c4 u47,s7,true_and,cE,reduceIte,cT,Nat.reduceAdd]
   refine sT (n:=y.1.path.length) (c:=1) (by omega) (by decide) λh8 u8=>?_
   have u48:=u47.trans u8
   have s8:cV PG (binOp .add bR (.string (tx ((((out++be a 8)++be c 8)++(be y.1.p.k.length 2++y.1.p.k))++(be y.1.p.v.length 2++y.1.p.v)))) (.string (tx (be y.1.path.length 1))))=some (.string (tx (((((out++be a 8)++be c 8)++(be y.1.p.k.length 2++y.1.p.k))++(be y.1.p.v.length 2++y.1.p.v))++be y.1.path.length 1))):=lQ (by simp only[jE,iF];omega)
   simp only[s8,cE,reduceIte,cT,Nat.reduceAdd]
   refine aWy (X3.ext u48) (P3.ext u48) (by omega) (by simp only[jE,iF];omega) (by omega) (λhno=>?_) (λhall=>?_)
   ·exact bad (λO=>hno O.d) h8 (e3.trans u48)
   ·have O:y.1.Ok:=⟨by omega,by omega,by omega,by omega,by omega,by omega,by omega,hall⟩
    have et:l.take (i+1)=l.take i++[y]:=by rw[zLR,hy];rfl
    refine⟨⟨i+1,by omega,?_,(u.trans u3).trans u48,λz hz=>?_⟩,by simp[iE,v2];omega⟩
    ·have e1:lG ((l.take (i+1)).map (·.1))=lG ((l.take i).map (·.1))++aFZ y.1:=by rw[et,qB,List.map_singleton,aNU]
     have e2:(((((out++be a 8)++be c 8)++(be y.1.p.k.length 2++y.1.p.k))++(be y.1.p.v.length 2++y.1.p.v))++be y.1.path.length 1)++y.1.path.flatten=out++aFZ y.1:=by
      unfold aFZ
      rw[ha,hc]
      simp only[qQ,pH]
     rw[e1,e2,hout,pH]
    ·rw[et] at hz
     rcases jJ.1 hz with hz|hz
     ·exact hal z hz
     ·simp only[fW] at hz;rw[hz];exact O
  ·have g:((i:Int)<(l.length:Int))=False:=eq_false (by omega)
   rw[mV (by omega)] at hal ⊢
   simp only[cC.f1,fL,lv u,ll,g,cE,reduceIte,cT,Nat.reduceAdd]
   rw[aPi (by rw[jC];omega) (λf hf=>by
    obtain⟨z,hz,rfl⟩:=lI.1 hf
    exact hal z hz)] at hk
   have e:aAs ⟨ab,l.map (·.1)⟩=(be (if ab then 2 else 1) 1++be l.length 1)++lG (l.map (·.1)):=by
    unfold aAs
    rw[jC,pH]
   rw[e] at hk
   exact hk h' (u1.trans u)
 have tx2':({data:=#[2]}:ByteArray)=tx [2]:=rfl
 have tx1':({data:=#[1]}:ByteArray)=tx [1]:=rfl
 cases ab with
 | true=>
  simp only[cC.f0,cC.f1,fL,lv cU.refl,ll,g2,la,tx2',cE,reduceIte,cT,Nat.reduceAdd]
  exact rest
 | false=>
  simp only[cC.f0,cC.f1,fL,lv cU.refl,ll,g2,la,tx1',cE,reduceIte,cT,Nat.reduceAdd]
  exact rest
end Go.Proofs.YtcoajnpchhmgjaaGreatDoor
namespace Go.Proofs.YtcoajnpchhmgjaaGreatDoor
open Go
theorem aLd{st:kO}{n:Int}{x:Tx}{r:List UInt8}(h:jN st n=(x,(0,r))):st=(0,x++r)∧(x.length:Int)=n:=by
 obtain⟨e,s⟩:=st
 unfold jN at h
 split at h
 ·rename_i c
  obtain⟨c1,c2,c3⟩:=c
  simp only[Prod.mk.injEq,true_and] at h c1 c2 c3
  obtain⟨h1,h2⟩:=h
  subst h1 h2 c1
  refine⟨by rw[zL7],?_⟩
  rw[rN];omega
 ·simp only[Prod.mk.injEq] at h
  obtain⟨-,h2,-⟩:=h
  exfalso
  split at h2
  ·cases h2
  ·rename_i c;exact c h2
theorem aHb{st:kO}{c x:Nat}{r:List UInt8}(h:gU st c=(x,(0,r))):st=(0,be x c++r)∧x<256^c:=by
 unfold gU at h
 simp only[Prod.mk.injEq] at h
 obtain⟨h1,h2⟩:=h
 obtain⟨g1,g2⟩:=aLd (x:=(jN st (c:Int)).1) (r:=r) (by rw[←h2])
 have hl:(jN st (c:Int)).1.length=c:=by omega
 have hb:=aW7 (jN st (c:Int)).1
 rw[hl,h1] at hb
 refine⟨by rw[hb];exact g1,?_⟩
 have:=aNA (jN st (c:Int)).1
 rw[hl,h1] at this
 exact this
theorem aM6{st:kO}{x:Tx}{r:List UInt8}(h:mD st=(x,(0,r))):st=(0,(be x.length 2++x)++r)∧x.length≤65535:=by
 unfold mD at h
 obtain⟨g1,g2⟩:=aLd h
 obtain⟨k1,k2⟩:=aHb (st:=st) (c:=2) (x:=(gU st 2).1) (r:=x++r) (by rw[←g1])
 have:(gU st 2).1=x.length:=by omega
 rw[this] at k1 k2
 exact⟨by rw[k1,pH],by omega⟩
theorem aMI{st:kO}{x:Nat}{r:List UInt8}(h:kP st=(x,(0,r))):st=(0,be x 8++r)∧x≤4096:=by
 unfold kP at h
 split at h
 ·exfalso
  simp only[Prod.mk.injEq] at h
  obtain⟨-,h2⟩:=h
  unfold aKZ at h2
  simp only[Prod.mk.injEq] at h2
  obtain⟨h3,-⟩:=h2
  split at h3
  ·cases h3
  ·rename_i c;exact c h3
 ·rename_i c
  have e:(gU st 8).1=x:=by rw[h]
  exact⟨(aHb h).1,by omega⟩
theorem aNP:∀(n:Nat) (st:kO) (acc l:List Tx) (r:List UInt8),yC n st acc=(l,(0,r))->∃ds,l=acc++ds∧st=(0,ds.flatten++r)∧ds.length=n∧∀d∈ds,d.length=32
 | 0,st,acc,l,r,h=>by
  simp only[yC,Prod.mk.injEq] at h
  exact⟨[],by rw[h.1];simp,by rw[h.2];rfl,rfl,λd hd=>by cases hd⟩
 | n+1,st,acc,l,r,h=>by
  rw[yC] at h
  split at h
  ·obtain⟨ds,h1,h2,h3,h4⟩:=aNP n _ _ _ _ h
   obtain⟨g1,g2⟩:=aLd (st:=st) (n:=32) (x:=(jN st 32).1) (r:=ds.flatten++r) (by rw[←h2])
   refine⟨(jN st 32).1::ds,by rw[h1];simp,by rw[aEr,pH];exact g1,by simp[h3],λd hd=>?_⟩
   rcases gZ.1 hd with rfl|hd
   ·omega
   ·exact h4 d hd
  ·rename_i c
   exfalso
   simp only[Prod.mk.injEq] at h
   rw[h.2] at c
   exact c rfl
theorem aRg{st:kO}{f:Lf}{r:List UInt8}(h:qI st=(f,(0,r))):st=(0,aFZ f++r)∧f.Ok:=by
 unfold qI at h
 split at h
 ·rename_i hok
  simp only[Prod.mk.injEq] at h
  obtain⟨h1,h2⟩:=h
  rw[h1] at hok
  have O:=Lf.ok_iff.1 hok
  refine⟨?_,O⟩
  unfold aDX at h1 h2
  simp only at h1 h2
  generalize hm:yC (gU (mD (mD (kP (kP st).2).2).2).2 1).1 (gU (mD (mD (kP (kP st).2).2).2).2 1).2 []=M at h1 h2
  obtain⟨ml,ms⟩:=M
  simp only at h1 h2
  subst h2
  obtain⟨ds,p1,p2,p3,p4⟩:=aNP _ _ _ _ _ hm
  obtain⟨q1,q2⟩:=aHb (Prod.ext rfl p2)
  obtain⟨k1,k2⟩:=aM6 (Prod.ext rfl q1)
  obtain⟨m1,m2⟩:=aM6 (Prod.ext rfl k1)
  obtain⟨n1,n2⟩:=aMI (Prod.ext rfl m1)
  obtain⟨o1,o2⟩:=aMI (Prod.ext rfl n1)
  rw[wN] at p1
  rw[p1] at h1
  rw[o1]
  subst h1
  unfold aFZ
  simp only[qQ,pH,p3]
 ·exfalso
  simp only[Prod.mk.injEq] at h
  obtain⟨-,h2⟩:=h
  unfold aKZ at h2
  simp only[Prod.mk.injEq] at h2
  obtain⟨h3,-⟩:=h2
  split at h3
  ·cases h3
  ·rename_i c;exact c h3
theorem aLA:∀(n:Nat) (st:kO) (acc l:List Lf) (r:List UInt8),pB n st acc=(l,(0,r))->∃fs,l=acc++fs∧st=(0,lG fs++r)∧fs.length=n∧∀f∈fs,f.Ok
 | 0,st,acc,l,r,h=>by
  simp only[pB,Prod.mk.injEq] at h
  exact⟨[],by rw[h.1];simp,by rw[h.2];rfl,rfl,λd hd=>by cases hd⟩
 | n+1,st,acc,l,r,h=>by
  rw[pB] at h
  obtain⟨fs,h1,h2,h3,h4⟩:=aLA n _ _ _ _ h
  obtain⟨g1,g2⟩:=aRg (Prod.ext rfl h2)
  refine⟨(qI st).1::fs,by rw[h1];simp,by rw[lG,pH];exact g1,by simp[h3],λf hf=>?_⟩
  rcases gZ.1 hf with rfl|hf
  ·exact g2
  ·exact h4 f hf
theorem aSN{s:Tx}(h:(iC s).2=0):s=aAs (iC s).1∧(iC s).1.lv.length≤2∧∀f∈(iC s).1.lv,f.Ok:=by
 unfold iC at h ⊢
 split at h
 ·cases h
 ·rename_i c
  rw[if_neg c]
  split at h
  ·cases h
  ·rename_i d
   rw[if_neg d]
   simp only[ne_eq,Decidable.not_not] at d
   generalize hX:pB (gU (gU (0,s) 1).2 1).1 (gU (gU (0,s) 1).2 1).2 []=X at *
   obtain⟨l,e,r⟩:=X
   unfold aK6 at d
   simp only at d
   have he:e=0∧r=[]:=by
    split at d
    ·cases d
    ·rename_i c2
     exact⟨d,by
      cases r with
      | nil=>rfl
      | cons a b=>exact absurd ⟨d,by simp⟩ c2⟩
   obtain⟨rfl,rfl⟩:=he
   obtain⟨fs,p1,p2,p3,p4⟩:=aLA _ _ _ _ _ hX
   obtain⟨q1,q2⟩:=aHb (Prod.ext rfl p2)
   obtain⟨k1,k2⟩:=aHb (Prod.ext rfl q1)
   rw[wN] at p1
   subst p1
   rw[zLN] at k1
   simp only[Prod.mk.injEq,true_and] at k1
   refine⟨?_,by simp only;omega,p4⟩
   unfold aAs
   simp only
   rw[p3]
   have hk:(if decide ((gU (0,s) 1).1=2)=true then 2 else 1)=(gU (0,s) 1).1:=by
    by_cases h2:(gU (0,s) 1).1=2
    ·simp[h2]
    ·simp[h2];omega
   rw[hk]
   exact k1
def aC7:Nat->kO->List Tx->List Tx×kO
 | 0,st,acc=>(acc,st)
 | n+1,st,acc=>aC7 n (jN st 32).2 (acc++[(jN st 32).1])
def dLf(st:kO):Lf×kO:=
 let a:=gU st 8
 let b:=gU a.2 8
 let k:=mD b.2
 let v:=mD k.2
 let c:=gU v.2 1
 let m:=aC7 (min c.1 17) c.2 []
 (⟨((a.1%1000000:Nat):Int),((b.1%1000000:Nat):Int),⟨k.1,v.1⟩,m.1⟩,m.2)
def aAx:Nat->kO->List Lf->List Lf×kO
 | 0,st,acc=>(acc,st)
 | n+1,st,acc=>aAx n (dLf st).2 (acc++[(dLf st).1])
def aEP(s:Tx):Pf:=⟨decide ((gU (0,s) 1).1=2),(aAx (min (gU (gU (0,s) 1).2 1).1 3) (gU (gU (0,s) 1).2 1).2 []).1⟩
theorem aOV:∀(path acc:List Tx) (r:Tx),(∀d∈path,d.length=32)->aC7 path.length (0,path.flatten++r) acc=(acc++path,(0,r))
 | [],acc,r,_=>by simp[aC7]
 | d::path,acc,r,h=>by
  have hd:=h d (by simp)
  have e:jN (0,d++(path.flatten++r)) 32=(d,(0,path.flatten++r)):=by
   have:=(aH7 d).fwd (path.flatten++r)
   rw[hd] at this
   exact this
  rw[tT,aEr,pH,aC7,e]
  simp only
  rw[aOV path (acc++[d]) r (λx hx=>h x (by simp[hx])),pH]
  rfl
theorem aV8{f:Lf}(h:f.Ok)(r:Tx):dLf (0,aFZ f++r)=(f,(0,r)):=by
 obtain⟨i,n,p,path⟩:=f
 obtain⟨i0,i1,n0,n1,k,v,m,d⟩:=h
 simp only at i0 i1 n0 n1 k v m d
 obtain⟨i,rfl⟩:=zLm i0
 obtain⟨n,rfl⟩:=zLm n0
 unfold dLf aFZ
 simp only[qQ,pH]
 rw[(wQ (n:=i) (c:=8) (by omega)).fwd]
 simp only
 rw[(wQ (n:=n) (c:=8) (by omega)).fwd]
 simp only
 rw[show be p.k.length 2++(p.k++(be p.v.length 2++(p.v++(be path.length 1++(path.flatten++r)))))=(be p.k.length 2++p.k)++(be p.v.length 2++(p.v++(be path.length 1++(path.flatten++r)))) by rw[pH],
  (aG6 (l:=p.k) (by omega)).fwd]
 simp only
 rw[show be p.v.length 2++(p.v++(be path.length 1++(path.flatten++r)))=(be p.v.length 2++p.v)++(be path.length 1++(path.flatten++r)) by rw[pH],
  (aG6 (l:=p.v) (by omega)).fwd]
 simp only
 rw[(wQ (n:=path.length) (c:=1) (by omega)).fwd]
 simp only
 rw[aIQ (by omega),aOV path [] r d]
 simp only[wN]
 rw[aCK (by omega),aCK (by omega)]
theorem aME:∀(l acc:List Lf) (r:Tx),(∀f∈l,f.Ok)->aAx l.length (0,lG l++r) acc=(acc++l,(0,r))
 | [],acc,r,_=>by simp[aAx,lG]
 | f::l,acc,r,h=>by
  rw[tT,lG,pH,aAx,aV8 (h f (by simp))]
  simp only
  rw[aME l (acc++[f]) r (λx hx=>h x (by simp[hx])),pH]
  rfl
theorem aUC{p:Pf}(h2:p.lv.length≤2)(h:∀f∈p.lv,f.Ok):aEP (aAs p)=p:=by
 have e1:gU (0,aAs p) 1=((if p.ab then 2 else 1),(0,be p.lv.length 1++lG p.lv)):=by
  unfold aAs
  exact(wQ (n:=if p.ab then 2 else 1) (c:=1) (by split<;>decide)).fwd _
 have e2:gU (0,be p.lv.length 1++lG p.lv) 1=(p.lv.length,(0,lG p.lv)):=(wQ (n:=p.lv.length) (c:=1) (by omega)).fwd _
 have e3:aAx p.lv.length (0,lG p.lv) []=(p.lv,(0,[])):=by
  have:=aME p.lv [] [] h
  rw[zLN,wN] at this
  exact this
 unfold aEP
 rw[e1]
 simp only
 rw[e2]
 simp only
 rw[aIQ (by omega),e3]
 obtain⟨ab,lv⟩:=p
 cases ab<;>rfl
theorem aSU(s:Tx):(if lB (aEP s)=(s,0) then(aEP s,(0:Int)) else(Pf.zero,5))=if (iC s).2=0 then iC s else(Pf.zero,5):=by
 by_cases c:(iC s).2=0
 ·obtain⟨h1,h2,h3⟩:=aSN c
  have e:aEP s=(iC s).1:=by
   conv=>lhs;rw[h1]
   exact aUC h2 h3
  rw[if_pos c,e,aPi h2 h3,if_pos (by rw[←h1])]
  exact Prod.ext rfl c.symm
 ·rw[if_neg c,if_neg]
  intro h
  apply c
  unfold lB at h
  split at h
  ·rename_i hc
   simp only[Prod.mk.injEq,and_true] at h
   have:=aP0 hc.1 (λf hf=>Lf.ok_iff.1 (aCD.1 hc.2 f hf))
   rw[h] at this
   rw[this]
  ·simp at h
theorem aSH(s:Tx)(h:(iC s).2≠0):iC s=(Pf.zero,5):=by
 unfold iC at h ⊢
 split
 ·rfl
 ·rename_i c
  rw[if_neg c] at h
  split
  ·rfl
  ·rename_i d
   rw[if_neg d] at h
   exact absurd rfl h
theorem aNw(n:Int):cV PG (build gJ #[(0,.int .i64 n)])=some (.agg #[.int .i64 n,.int .i64 0,.int .u64 0,.string ⟨#[]⟩]):=by kernel_rfl
theorem aN7{h:PH}{a:Nat}{S:List UInt8}{e:Int}{s:List UInt8}(hR:wD h a S e s)(hS:S.length≤1000000000000){kind:Int}{out:Nat×List UInt8×(Int×List UInt8)}
  (ho:(kind=0∧out=((gU (e,s) 1).1,[],(gU (e,s) 1).2))∨(kind=1∧out=((gU (e,s) 8).1,[],(gU (e,s) 8).2))∨(kind=2∧out=(0,(mD (e,s)).1,(mD (e,s)).2))) {k:cD}
  (hk:∀h',wD h' a S out.2.2.1 out.2.2.2->cU [a] h h'->k (.tuple #[.int .u64 out.1,.string (tx out.2.1)]) h'):
  aT PG lT #[pT a 0,.agg #[.int .i64 kind,.int .i64 0,.int .u64 0,.string ⟨#[]⟩]] h k:=by
 apply oY.call
 unfold oY
 intro r hr
 rw[cZ]
 have u1:dC h (h.set r (.cells (Value.agg #[.int .i64 kind,.int .i64 0,.int .u64 0,.string ⟨#[]⟩]).cells gJ)):=cU.new hr
 have c0:dD (h.set r (.cells (Value.agg #[.int .i64 kind,.int .i64 0,.int .u64 0,.string ⟨#[]⟩]).cells gJ)) ⟨r,0,none⟩=some (.int .i64 kind):=by simp[dD,PH.set,Value.cells]
 generalize h.set r (.cells (Value.agg #[.int .i64 kind,.int .i64 0,.int .u64 0,.string ⟨#[]⟩]).cells gJ)=h1 at *
 have hR1:=hR.ext u1
 have small:∀c:Nat,c≤8->(jN (e,s) (c:Int)).1.length≤8:=λc hc=>zLB (aIe _ c) hc
 rcases ho with⟨rfl,rfl⟩|⟨rfl,rfl⟩|⟨rfl,rfl⟩
 ·have q:((0:Int)==0)=true:=rfl
  simp only[gJ.f0,bT.load,c0,q,cE,reduceIte]
  refine aJf hR1 hS 1 λh2 hR2 u2=>?_
  simp only[cE,reduceIte]
  refine aMQ (small 1 (by omega)) ?_
  exact hk _ hR2 (u1.upd.trans u2)
 ·have q:((1:Int)==0)=false:=rfl
  have q1:((1:Int)==1)=true:=rfl
  simp only[gJ.f0,bT.load,c0,q,q1,cE,reduceIte]
  refine aJf hR1 hS 8 λh2 hR2 u2=>?_
  simp only[cE,reduceIte]
  refine aMQ (small 8 (by omega)) ?_
  exact hk _ hR2 (u1.upd.trans u2)
 ·have q:((2:Int)==0)=false:=rfl
  have q1:((2:Int)==1)=false:=rfl
  have q2:((2:Int)==2)=true:=rfl
  simp only[gJ.f0,bT.load,c0,q,q1,q2,cE,reduceIte]
  refine aJf hR1 hS 2 λh2 hR2 u2=>?_
  by_cases hc:e=0∧0≤(2:Int)∧(2:Int)≤(s.length:Int)
  ·have hd:decide (e=0∧0≤(2:Int)∧(2:Int)≤(s.length:Int))=true:=by simpa using hc
   simp only[hd,cE,reduceIte]
   refine aMQ (l:=(jN (e,s) 2).1) (small 2 (by omega)) ?_
   have hlt:=aGx (e,s) 2
   have e1:IntKind.i64.wrap ((val (jN (e,s) 2).1:Nat):Int)=((gU (e,s) 2).1:Int):=by
    show IntKind.i64.wrap (((gU (e,s) 2).1:Nat):Int)=_
    rw[eZ (by omega) (by omega)]
   simp only[aIF,e1,cE,reduceIte]
   refine aJf hR2 hS _ λh3 hR3 u3=>?_
   simp only[cE,reduceIte]
   exact hk _ hR3 ((u1.upd.trans u2).trans u3)
  ·have hd:decide (e=0∧0≤(2:Int)∧(2:Int)≤(s.length:Int))=false:=by simpa using hc
   simp only[hd,cE,reduceIte]
   have hraw:jN (e,s) 2=([],(if e=0 then 6 else e,s)):=by unfold jN;rw[if_neg hc]
   have hne:(if e=0 then 6 else e)≠0:=by split<;>simp_all
   have ht:mD (e,s)=([],(if e=0 then 6 else e,s)):=by
    unfold mD gU
    show jN (jN (e,s) 2).2 _=_
    rw[hraw]
    show jN (if e=0 then 6 else e,s) _=_
    generalize (if e=0 then(6:Int) else e)=e' at *
    unfold jN
    rw[if_neg (by rintro⟨h1,_⟩;exact hne h1),if_neg hne]
   have:=hk h2
   rw[ht] at this
   rw[hraw] at hR2
   exact this hR2 (u1.upd.trans u2)
theorem aU9:cV PG (build gJ #[(0,.int .i64 3),(1,.int .i64 32)])=some (.agg #[.int .i64 3,.int .i64 32,.int .u64 0,.string ⟨#[]⟩]):=by kernel_rfl
theorem aYp(s:List UInt8):cV PG (build eY #[(0,.string (tx s))])=some (.agg #[.string (tx s),.int .i64 0,.int .i64 0]):=by kernel_rfl
theorem aT1{h:PH}{a:Nat}{S:List UInt8}{st:kO}(hR:wD h a S st.1 st.2)(hS:S.length≤1000000000000){k:cD}
  (hk:∀h',wD h' a S (jN st 32).2.1 (jN st 32).2.2->cU [a] h h'->k (.tuple #[.int .u64 0,.string (tx (jN st 32).1)]) h'):
  aT PG lT #[pT a 0,.agg #[.int .i64 3,.int .i64 32,.int .u64 0,.string ⟨#[]⟩]] h k:=by
 apply oY.call
 unfold oY
 intro r hr
 try rw[cZ]
 have u1:dC h (h.set r (.cells (Value.agg #[.int .i64 3,.int .i64 32,.int .u64 0,.string ⟨#[]⟩]).cells gJ)):=cU.new hr
 have X:Bx (h.set r (.cells (Value.agg #[.int .i64 3,.int .i64 32,.int .u64 0,.string ⟨#[]⟩]).cells gJ)) r [.int .i64 3,.int .i64 32,.int .u64 0,.string ⟨#[]⟩]:=Bx.new
 generalize h.set r (.cells (Value.agg #[.int .i64 3,.int .i64 32,.int .u64 0,.string ⟨#[]⟩]).cells gJ)=h1 at *
 have c0:dD h1 ⟨r,0,none⟩=some (.int .i64 3):=X.cell 0
 have c1:dD h1 ⟨r,1,none⟩=some (.int .i64 32):=X.cell 1
 have q0:((3:Int)==0)=false:=rfl
 have q1:((3:Int)==1)=false:=rfl
 have q2:((3:Int)==2)=false:=rfl
 have q3:((3:Int)==3)=true:=rfl
 simp only[gJ.f0,gJ.f1,fL,bT.load,c0,c1,hE,q0,q1,q2,q3,cE,reduceIte,cT,Nat.reduceAdd]
 refine aJf (hR.ext u1) hS 32 λh2 hR2 u2=>?_
 simp only[cE,reduceIte,cT,Nat.reduceAdd]
 exact hk h2 hR2 (u1.upd.trans u2)
theorem aJv{h:PH}{a:Nat}{S:List UInt8}{st:kO}(hR:wD h a S st.1 st.2)(hS:S.length≤1000000000000){k:cD}
  (hk:∀h',wD h' a S (gU st 1).2.1 (gU st 1).2.2->cU [a] h h'->k (.int .i64 (((gU st 1).1:Nat):Int)) h'):aT PG rO #[pT a 0] h k:=by
 apply aAh.call
 unfold aAh
 simp only[aNw,cE,reduceIte,cT,Nat.reduceAdd]
 refine aN7 hR hS (kind:=0) (.inl ⟨rfl,rfl⟩) λh1 R1 u1=>?_
 have hlt:=aGx st 1
 have w:IntKind.i64.wrap (((gU st 1).1:Nat):Int)=(((gU st 1).1:Nat):Int):=eZ (by omega) (by omega)
 simp only[aIF,w,cE,reduceIte,cT,Nat.reduceAdd]
 exact hk h1 R1 u1
theorem aNB{h:PH}{a:Nat}{S:List UInt8}{st:kO}(hR:wD h a S st.1 st.2)(hS:S.length≤1000000000000){k:cD}
  (hk:∀h',wD h' a S (gU st 8).2.1 (gU st 8).2.2->cU [a] h h'->k (.int .i64 (((gU st 8).1%1000000:Nat):Int)) h'):aT PG wX #[pT a 0] h k:=by
 apply aAk.call
 unfold aAk
 simp only[aNw,cE,reduceIte,cT,Nat.reduceAdd]
 refine aN7 hR hS (kind:=1) (.inr (.inl ⟨rfl,rfl⟩)) λh1 R1 u1=>?_
 have rm:∀{t:TypeId} {n:Nat},cV PG (binOp .rem t (.int .u64 (n:Int)) (.int .u64 1000000))=some (.int .u64 ((n%1000000:Nat):Int)):=fun {t n}=>by
  rw[aHY (by decide)];rfl
 have w:IntKind.i64.wrap (((gU st 8).1%1000000:Nat):Int)=(((gU st 8).1%1000000:Nat):Int):=by
  have:=zLy (gU st 8).1 (show 0<1000000 by decide)
  exact eZ (by omega) (by omega)
 simp only[rm,aIF,w,cE,reduceIte,cT,Nat.reduceAdd]
 exact hk h1 R1 u1
theorem aMo{h:PH}{a:Nat}{S:List UInt8}{st:kO}(hR:wD h a S st.1 st.2)(hS:S.length≤1000000000000){k:cD}
  (hk:∀h',wD h' a S (mD st).2.1 (mD st).2.2->cU [a] h h'->k (.string (tx (mD st).1)) h'):aT PG wY #[pT a 0] h k:=by
 apply aAZ.call
 unfold aAZ
 simp only[aNw,cE,reduceIte,cT,Nat.reduceAdd]
 refine aN7 hR hS (kind:=2) (.inr (.inr ⟨rfl,rfl⟩)) λh1 R1 u1=>?_
 simp only[cE,reduceIte,cT,Nat.reduceAdd]
 exact hk h1 R1 u1
theorem aXD(a b:Int):cV PG (build cB #[(0,.int .i64 a),(1,.int .i64 b)])=some (Lf.val ⟨a,b,⟨[],[]⟩,[]⟩ (.slice none 0 0)):=by kernel_rfl
theorem aRm:∀(n:Nat) (st:kO) (acc:List Tx),aC7 (n+1) st acc=aC7 n (jN st 32).2 (acc++[(jN st 32).1]):=λn st acc=>rfl
theorem aWY{hI h:PH}{r4 r32:Nat}{s:Tx}{st:kO}(hS:s.length≤1000000000000)(R:wD h r4 s st.1 st.2)(u:cU [r4] hI h)(n32:hI r32=none)(k4:hI r4≠none){a b:Int}{kk vv:Tx}(X:Bx h r32 (Lf.cells ⟨a,b,⟨kk,vv⟩,[]⟩ (.slice none 0 0))){c:Nat}(hc:c<256){t0 t2 t5 t6 t7:Value}{RR:cD}{n16:gP}
  (hk:∀h' pv G,wD h' r4 s (aC7 (min c 17) st []).2.1 (aC7 (min c 17) st []).2.2->cU [r4] hI h'->Bx h' r32 (Lf.cells ⟨a,b,⟨kk,vv⟩,[]⟩ pv)->eS h' bR 1 pv ((aC7 (min c 17) st []).1.map jA) G->eP hI G->(aC7 (min c 17) st []).1.length≤17->
   (dZ (cV PG (fieldAt cC t5 1)) λv78=>dZ (cG PG h' (loadAt cN v78)) λv79=>dZ (cG PG h' (loadAt cB (pT r32 0))) λv80=>
    dZ (jS PG (buildSlice cN 1 #[(0,v80)])) λx82=>∀r81,h' r81=none->dZ (cV PG (x82.2 r81)) λv83=>eV (PH.set h' r81 x82.1) λh84=>cW PG (Builtin.append_ #[cN,cN] cN #[v79,v83]) h84 λv85 h86=>
    dZ (cV PG (fieldAt cC t5 1)) λv87=>cW PG (dJ cN v87 v85) h86 λv88 h89=>dZ (cV PG (binOp BinOp.add bT t7 (Value.int IntKind.i64 1))) λv90=>n16 [t0,t2,pT r4 0,t5,t6,v90] h89)):
  iL [0,2,4,5,6,7,8,9,10] (λn50 ρ h=>aBd RR n16 n50 (ρ 0) (ρ 2) (ρ 4) (ρ 5) (ρ 6) (ρ 7) (ρ 8) (ρ 9) (ρ 10) h) [t0,t2,pT r4 0,t5,t6,t7,pT r32 0,.int .i64 ((c:Nat):Int),.int .i64 0] h:=by
 refine⟨λvs h'=>∃(j:Nat) (st':kO) (acc:List Tx) (pv:Value) (G:List Nat),j≤min c 17∧vs=[t0,t2,pT r4 0,t5,t6,t7,pT r32 0,.int .i64 ((c:Nat):Int),.int .i64 (j:Int)]∧wD h' r4 s st'.1 st'.2∧cU [r4] hI h'∧Bx h' r32 (Lf.cells ⟨a,b,⟨kk,vv⟩,[]⟩ pv)∧eS h' bR 1 pv (acc.map jA) G∧eP hI G∧r32∉G∧acc.length=j∧aC7 (min c 17-j) st' acc=aC7 (min c 17) st [],iE (min c 17) 8,⟨0,st,[],_,[],by omega,rfl,R,u,X,eS.nil,(λx hx=>by cases hx),by simp,rfl,rfl⟩,?_⟩
 rintro ρ h' ⟨j,st',acc,pv,G,hj,hvs,R',u',X',O',fG,nG,hal,hd⟩
 simp only[iH,iU,lF,and_true] at hvs
 obtain⟨w0,w1,w2,w3,w4,w5,w6,w7,w8⟩:=hvs
 unfold aBd
 rw[w0,w1,w2,w3,w4,w5,w6,w7,w8]
 by_cases hlt:j<min c 17
 ·have g1:((j:Int)<((c:Nat):Int))=True:=eq_true (by omega)
  have g2:((j:Int)<17)=True:=eq_true (by omega)
  have gj:=rA (i:=j) (by omega)
  simp only[g1,g2,aU9,cE,reduceIte,cT,Nat.reduceAdd]
  refine aT1 R' hS λh2 R2 u2=>?_
  have n432:r32≠r4:=λe=>k4 (e▸n32)
  have X2:=X'.upd u2 (by simp only[fW];exact n432)
  have l4:cG PG h2 (loadAt cP (pT r32 4))=some pv:=by rw[cP.load,X2.cell];rfl
  have G4:∀x∈G,x∉[r4]:=λx hx hm=>by
   simp only[fW] at hm
   subst hm;exact k4 (fG _ hx)
  have O2:=O'.upd u2 G4
  simp only[cB.f3,fL,l4,aLx,cE,reduceIte,cT,Nat.reduceAdd]
  intro r68 hr68
  refine fT ?_
  try rw[cZ]
  have u3:dC h2 (h2.set r68 (.cells #[.string (tx (jN st' 32).1)] bR)):=cU.new hr68
  have s3:fY (h2.set r68 (.cells #[.string (tx (jN st' 32).1)] bR)) 1 (.slice (some ⟨r68,0,none⟩) 1 1) ([(jN st' 32).1].map jA):=(eS.lit (n:=1) (rows:=[(jN st' 32).1].map jA) (λr hr=>by simp only[iH,iU,fW] at hr;subst hr;rfl) dL (by simp) (by decide) rfl).slR
  generalize h2.set r68 (.cells #[.string (tx (jN st' 32).1)] bR)=h3 at *
  refine jL cP.und cP.und bR.info bR.size bR.bytes bR.zero rfl (by decide) (O2.ext u3) s3 (λr hr u hu=>by
   obtain⟨y,hy,rfl⟩:=lI.1 hr
   exact jA.isC y u hu) (by simp only[jC,zLQ];omega) ?_
  intro v5 h5 F5 O5 u5 k5 _
  rw[←qB] at O5
  have X5:=(X2.ext u3).upd u5 nG
  refine cP.put X5 (o:=4) (by show 4<5;decide) O5.slR.isc λh6 X6 u6=>?_
  have X6:Bx h6 r32 (Lf.cells ⟨a,b,⟨kk,vv⟩,[]⟩ v5):=X6
  have n12:∀x,h2 x=none->hI x=none:=λx hx=>by
   cases e:hI x with
   | none=>rfl
   | some o=>
    exfalso
    by_cases hx4:x=r4
    ·subst hx4
     have:=R2.here
     rw[hx] at this;cases this
    ·have:=(u'.trans u2) x o e (by simp[hx4])
     rw[hx] at this;cases this
  have f5:eP hI F5:=λx hx=>by
   rcases k5 x hx with hx|hx
   ·exact fG x hx
   ·exact n12 x (u3.none hx)
  have n5:r32∉F5:=λhm=>by
   rcases k5 _ hm with hx|hx
   ·exact nG hx
   ·exact(X2.ext u3).known hx
  have U6:cU [r4] hI h6:=(((u'.trans u2).trans u3.upd).then u5 (λx hx=>.inr (fG x hx))).then u6 (λx hx=>by simp only[fW] at hx;subst hx;exact .inr n32)
  have R6:wD h6 r4 s (jN st' 32).2.1 (jN st' 32).2.2:=((R2.ext u3).upd u5 (λhm=>k4 (fG _ hm))).upd u6 (by simp only[fW];exact n432.symm)
  simp only[gj,cE,reduceIte,cT,Nat.reduceAdd]
  refine⟨⟨j+1,_,acc++[(jN st' 32).1],v5,F5,by omega,rfl,R6,U6,X6,O5.upd u6 (λx hx=>by simp only[fW];rintro rfl;exact n5 hx),f5,n5,by simp[hal],?_⟩,by simp[iE,w8];omega⟩
  rw[←hd,show min c 17-j=(min c 17-(j+1))+1 by omega,aRm]
 ·have hj':j=min c 17:=by omega
  rw[hj',Nat.sub_self] at hd
  have hd':aC7 (min c 17) st []=(acc,st'):=hd.symm
  rw[hd'] at hk
  have hcond:dZ (cV PG (binOp BinOp.lss bT (.int .i64 (j:Int)) (.int .i64 ((c:Nat):Int))))=λk=>k (.bool (decide ((j:Int)<(c:Int)))):=by
   funext k;rw[aQA];rfl
  have hk:=hk h' pv G R' u' X' O' fG (by simp only;omega)
  by_cases hjc:j<c
  ·have g1:((j:Int)<((c:Nat):Int))=True:=eq_true (by omega)
   have g2:((j:Int)<17)=False:=eq_false (by omega)
   simp only[g1,g2,cE,reduceIte,cT,Nat.reduceAdd]
   simp only[cE,reduceIte,cT,Nat.reduceAdd] at hk
   exact hk
  ·have g1:((j:Int)<((c:Nat):Int))=False:=eq_false (by omega)
   simp only[g1,cE,reduceIte,cT,Nat.reduceAdd]
   simp only[cE,reduceIte,cT,Nat.reduceAdd] at hk
   exact hk
theorem aPr(n:Nat)(st:kO)(acc:List Lf):aAx (n+1) st acc=aAx n (dLf st).2 (acc++[(dLf st).1]):=rfl
theorem wD.known{h:PH}{a:Nat}{S:List UInt8}{e:Int}{s:List UInt8}(H:wD h a S e s):h a≠none:=by rw[H.here];simp
theorem cU.grow1{h h1:PH}{K:List Nat}(u:cU K h h1)(hK:∀x∈K,h1 x≠none){x:Nat}(hx:h1 x=none):h x=none:=by
 cases e:h x with
 | none=>rfl
 | some o=>
  exfalso
  by_cases c:x∈K
  ·exact hK x c hx
  ·have:=u x o e c
   rw[hx] at this;cases this
theorem aYN(b:Bool):cV PG (build cC #[(0,.bool b)])=some (Pf.val b (.slice none 0 0)):=aJp b
theorem aOx{h:PH}{s:Tx}(hS:s.length≤1000000000){k:cD}
  (hk:∀h' v,nJ h h' v (iC s).1.lv->dC h h'->k (.tuple #[Pf.val (iC s).1.ab v,.int .i64 (iC s).2]) h'):aT PG yI #[.string (tx s)] h k:=by
 have hS12:s.length≤1000000000000:=by omega
 apply tN.call
 unfold tN
 intro r1 hr1
 try rw[cZ]
 have u1:dC h (h.set r1 (.cells (dP PG cC) cC)):=cU.new hr1
 have Z1:Bx (h.set r1 (.cells (dP PG cC) cC)) r1 [.bool false,.slice none 0 0]:=cC.zbox
 generalize h.set r1 (.cells (dP PG cC) cC)=h1 at *
 simp only[aYp,cE,reduceIte,cT,Nat.reduceAdd]
 intro r4 hr4
 try rw[cZ]
 have n14:r1≠r4:=Z1.apart hr4
 have u4:dC h1 (h1.set r4 (.cells (Value.cells (.agg #[.string (tx s),.int .i64 0,.int .i64 0])) eY)):=cU.new hr4
 have R4:wD (h1.set r4 (.cells (Value.cells (.agg #[.string (tx s),.int .i64 0,.int .i64 0])) eY)) r4 s ((0,s):kO).1 ((0,s):kO).2:=⟨by rw[dL];simp[Value.cells],by simp,qZ _⟩
 generalize h1.set r4 (.cells (Value.cells (.agg #[.string (tx s),.int .i64 0,.int .i64 0])) eY)=h4 at *
 refine aJv R4 hS12 λh5 R5 u5=>?_
 have Z5:=(Z1.ext u4).upd u5 (by simp only[fW];exact n14)
 obtain⟨ab,hab⟩:∃ab,ab=decide ((gU (0,s) 1).1=2):=⟨_,rfl⟩
 have qab:((((gU (0,s) 1).1:Nat):Int)==2)=ab:=by
  rw[hab]
  by_cases c:(gU (0,s) 1).1=2
  ·simp[c]
  ·have:¬((((gU (0,s) 1).1:Nat):Int)=2):=by omega
   simp[c,this]
 simp only[hE,qab,aYN,cE,reduceIte,cT,Nat.reduceAdd]
 intro r10 hr10
 try rw[cZ]
 have n110:r1≠r10:=Z5.apart hr10
 have n410:r4≠r10:=λe=>R5.known (e▸hr10)
 refine cC.fill (vs:=[.bool ab,.slice none 0 0]) hr10 rfl (by simp[fK]) λh6 X6 u6=>?_
 refine aJv (R5.ext u6) hS12 λhB RB uB=>?_
 have XB:=X6.upd uB (by simp only[fW];exact n410.symm)
 have ZB:=(Z5.ext u6).upd uB (by simp only[fW];exact n14)
 -- what is new since h
 have UB:cU [] h hB:=((u1.trans u4).upd.then u5 (λx hx=>by simp only[fW] at hx;subst hx;exact .inr (u1.none hr4))).trans u6 |>.then uB (λx hx=>by simp only[fW] at hx;subst hx;exact .inr (u1.none hr4))
 have nB:∀x,hB x=none->h x=none:=λx hx=>cU.grow1 UB (λy hy=>by cases hy) hx
 have k4B:hB r4≠none:=RB.known
 have k10B:hB r10≠none:=XB.known
 have h10h:h r10=none:=by
  cases e:h r10 with
  | none=>rfl
  | some o=>
   exfalso
   have:h5 r10=some o:=(((u1.trans u4).upd (F:=[])).then u5 (λx hx=>by simp only[fW] at hx;subst hx;exact .inr (u1.none hr4))) r10 o e (by simp)
   rw[hr10] at this;cases this
 obtain⟨n,hn⟩:∃n,n=(gU (gU (0,s) 1).2 1).1:=⟨_,rfl⟩
 rw[←hn]
 obtain⟨st0,hst0⟩:∃st0,st0=(gU (gU (0,s) 1).2 1).2:=⟨_,rfl⟩
 have RB:wD hB r4 s st0.1 st0.2:=by rw[hst0];exact RB
 have hdr:aEP s=⟨ab,(aAx (min n 3) st0 []).1⟩:=by rw[hab,hn,hst0];rfl
 refine⟨λvs h'=>∃(i:Nat) (st:kO) (fs:List Lf) (v:Value),i≤min n 3∧vs=[.string (tx s),pT r1 0,pT r4 0,pT r10 0,.int .i64 ((n:Nat):Int),.int .i64 (i:Int)]∧wD h' r4 s st.1 st.2∧Bx h' r10 [.bool ab,v]∧Bx h' r1 [.bool false,.slice none 0 0]∧nJ hB h' v fs∧cU [r4,r10] hB h'∧fs.length=i∧aAx (min n 3-i) st fs=aAx (min n 3) st0 [],iE (min n 3) 5,⟨0,st0,[],_,by omega,rfl,RB,XB,ZB,nJ.nil,cU.refl,rfl,rfl⟩,?_⟩
 rintro ρ h' ⟨i,st,fs,v,hi,hvs,R,X,Z,L,U,hfl,hd⟩
 simp only[iH,iU,lF,and_true] at hvs
 obtain⟨w0,w1,w2,w3,w4,w5⟩:=hvs
 unfold aE1
 rw[w0,w1,w2,w3,w4,w5]
 have nB':∀x,h' x=none->hB x=none:=λx hx=>U.grow1 (λy hy=>by
  simp only[gZ,kW,or_false] at hy
  rcases hy with rfl|rfl
  ·exact R.known
  ·exact X.known) hx
 by_cases hlt:i<min n 3
 ·have g1:((i:Int)<((n:Nat):Int))=True:=eq_true (by omega)
  have g2:((i:Int)<3)=True:=eq_true (by omega)
  have gi:=rA (i:=i) (by omega)
  simp only[g1,g2,cE,reduceIte,cT,Nat.reduceAdd]
  obtain⟨a,ha⟩:∃a,a=gU st 8:=⟨_,rfl⟩
  refine aNB R hS12 λh2 R2 u2=>?_
  rw[←ha] at R2 ⊢
  obtain⟨b,hb⟩:∃b,b=gU a.2 8:=⟨_,rfl⟩
  refine aNB R2 hS12 λh3 R3 u3=>?_
  rw[←hb] at R3 ⊢
  have u23:=u2.trans u3
  simp only[aXD,cE,reduceIte,cT,Nat.reduceAdd]
  intro r32 hr32
  try rw[cZ]
  have n432:r32≠r4:=λe=>R3.known (e▸hr32)
  have n32':h' r32=none:=u23.grow1 (λy hy=>by simp only[fW] at hy;subst hy;exact R3.known) hr32
  refine cB.fill (vs:=Lf.cells ⟨((a.1%1000000:Nat):Int),((b.1%1000000:Nat):Int),⟨[],[]⟩,[]⟩ (.slice none 0 0)) hr32 rfl (Lf.isC _ rfl) λh5' X5 u5'=>?_
  obtain⟨kk,hkk⟩:∃kk,kk=mD b.2:=⟨_,rfl⟩
  refine aMo (R3.ext u5') hS12 λh7 R7 u7=>?_
  rw[←hkk] at R7 ⊢
  have X7:=X5.upd u7 (by simp only[fW];exact n432)
  simp only[cB.f2,cM.f0,fL,cE,reduceIte,cT,Nat.reduceAdd]
  refine bR.put X7 (o:=2) (by show 2<5;decide) rfl λh8 X8 u8=>?_
  have X8:Bx h8 r32 (Lf.cells ⟨((a.1%1000000:Nat):Int),((b.1%1000000:Nat):Int),⟨kk.1,[]⟩,[]⟩ (.slice none 0 0)):=X8
  have R8:=R7.upd u8 (by simp only[fW];exact n432.symm)
  obtain⟨vv,hvv⟩:∃vv,vv=mD kk.2:=⟨_,rfl⟩
  refine aMo R8 hS12 λh9 R9 u9=>?_
  rw[←hvv] at R9 ⊢
  have X9:=X8.upd u9 (by simp only[fW];exact n432)
  simp only[cB.f2,cM.f1,fL,Nat.reduceAdd,cE,reduceIte,cT,Nat.reduceAdd]
  refine bR.put X9 (o:=3) (by show 3<5;decide) rfl λh10 X10 u10=>?_
  have X10:Bx h10 r32 (Lf.cells ⟨((a.1%1000000:Nat):Int),((b.1%1000000:Nat):Int),⟨kk.1,vv.1⟩,[]⟩ (.slice none 0 0)):=X10
  have R10':=R9.upd u10 (by simp only[fW];exact n432.symm)
  obtain⟨c,hc⟩:∃c,c=gU vv.2 1:=⟨_,rfl⟩
  refine aJv R10' hS12 λh11 R11 u11=>?_
  rw[←hc] at R11 ⊢
  have hc256:c.1<256:=by rw[hc];exact aGx vv.2 1
  have X11:=X10.upd u11 (by simp only[fW];exact n432)
  have s32:∀x∈[r32],x∈[r4]∨h' x=none:=λx hx=>by simp only[fW] at hx;subst hx;exact .inr n32'
  have U11:cU [r4] h' h11:=(((((u23.trans u5'.upd).trans u7).then u8 s32).trans u9).then u10 s32).trans u11
  refine aWY hS12 R11 U11 n32' R.known X11 hc256 λh12 pv G R12 U12 X12 O12 f12 hl12=>?_
  generalize hm:aC7 (min c.1 17) c.2 []=mm at R12 O12 hl12
  have hdl:dLf st=(⟨((a.1%1000000:Nat):Int),((b.1%1000000:Nat):Int),⟨kk.1,vv.1⟩,mm.1⟩,mm.2):=by
   rw[ha] at *
   rw[←hm,hc,hvv,hkk,hb]
   rfl
  have n1032:r10≠r4:=n410.symm
  have X12':Bx h12 r10 [.bool ab,v]:=X.upd U12 (by simp only[fW];exact n1032)
  have Z12:=Z.upd U12 (by simp only[fW];exact n14)
  have l10:cG PG h12 (loadAt cN (pT r10 1))=some v:=by rw[cN.load,X12'.cell];rfl
  have l32:cG PG h12 (loadAt cB (pT r32 0))=some (Lf.val ⟨((a.1%1000000:Nat):Int),((b.1%1000000:Nat):Int),⟨kk.1,vv.1⟩,mm.1⟩ pv):=Lf.boxC (f:=⟨((a.1%1000000:Nat):Int),((b.1%1000000:Nat):Int),⟨kk.1,vv.1⟩,mm.1⟩) X12
  simp only[cC.f1,fL,l10,l32,cE,reduceIte,cT,Nat.reduceAdd]
  have n12B:∀x,h12 x=none->hB x=none:=λx hx=>nB' x (U12.grow1 (λy hy=>by simp only[fW] at hy;subst hy;exact R12.known) hx)
  refine nJ.push (b:=r4) (m:=r4) (h1:=h') (f:=⟨((a.1%1000000:Nat):Int),((b.1%1000000:Nat):Int),⟨kk.1,vv.1⟩,mm.1⟩) L k4B k4B (U12.mono λx hx=>.inl (by simp only[fW] at hx;simp[hx])) nB' n12B O12 f12 (by omega) λh13 v13 F13 L13 f13 u13=>?_
  have q10:r10∉F13:=λhm'=>k10B (f13 _ hm')
  have q4:r4∉F13:=λhm'=>k4B (f13 _ hm')
  have q1:r1∉F13:=λhm'=>ZB.known (f13 _ hm')
  have X13:=X12'.upd u13 q10
  refine cN.put X13 (o:=1) (by show 1<2;decide) L13.isc λh14 X14 u14=>?_
  have X14:Bx h14 r10 [.bool ab,v13]:=X14
  simp only[gi,cE,reduceIte,cT,Nat.reduceAdd]
  refine⟨⟨i+1,mm.2,fs++[(⟨((a.1%1000000:Nat):Int),((b.1%1000000:Nat):Int),⟨kk.1,vv.1⟩,mm.1⟩:Lf)],v13,by omega,rfl,((R12.upd u13 q4).upd u14 (by simp only[fW];exact n410)),X14,(Z12.upd u13 q1).upd u14 (by simp only[fW];exact n110),L13.upd u14 (λx hx=>by simp only[fW] at hx;subst hx;exact k10B),?_,by simp[hfl],?_⟩,by simp[iE,w5];omega⟩
  ·exact((U.trans (U12.mono λx hx=>.inl (by simp only[fW] at hx;simp[hx]))).then u13 (λx hx=>.inr (f13 x hx))).trans (u14.mono λx hx=>.inl (by simp only[fW] at hx;simp[hx]))
  ·rw[←hd,show min n 3-i=(min n 3-(i+1))+1 by omega,aPr,hdl]
 ·have hi':i=min n 3:=by omega
  rw[hi',Nat.sub_self] at hd
  have hfs:(aAx (min n 3) st0 []).1=fs:=by rw[←hd];rfl
  have hdr:aEP s=⟨ab,fs⟩:=by rw[hdr,hfs]
  have EX:∀{h'':PH},cU [r4,r10,r1] hB h''->dC h h'':=fun {h''} w=>UB.then w (λx hx=>by
   simp only[gZ,kW,or_false] at hx
   rcases hx with rfl|rfl|rfl
   ·exact .inr (u1.none hr4)
   ·exact .inr h10h
   ·exact .inr hr1)
  have fin:dZ (cG PG h' (loadAt cC (pT r10 0))) λv91=>aT PG tC #[v91] h' λv92 h93=>dZ (cV PG (extract v92 0)) λv94=>dZ (cV PG (extract v92 1)) λv95=>dZ (cG PG h93 (jQ BinOp.neq bT (.tmp 80) (.const (Value.int IntKind.i64 0)) v95 (Value.int IntKind.i64 0))) λv96=>
    oK (yV v96) false (λk99=>k99 v94 h93) h93 λv97 h98=>oK (yV v96) false (λk102=>k102 (.string (tx s)) h98) h98 λv100 h101=>oK (yV v96) false (λk105=>dZ (cG PG h101 (jQ BinOp.neq bR (.tmp 83) (.tmp 84) v97 v100)) λv106=>k105 v106 h101) h101 λv103 h104=>dZ (fJ v96 (Value.bool true) v103) λv107=>
    dH v107 (dZ (cV PG (build cC #[])) λv108=>cW PG (dJ cC (pT r1 0) v108) h104 λv109 h110=>dZ (cG PG h110 (loadAt cC (pT r1 0))) λv111=>k (Value.tuple #[v111,(Value.int IntKind.i64 5)]) h110)
    (dZ (cG PG h104 (loadAt cC (pT r10 0))) λv112=>cW PG (dJ cC (pT r1 0) v112) h104 λv113 h114=>dZ (cG PG h114 (loadAt cC (pT r1 0))) λv115=>k (Value.tuple #[v115,(Value.int IntKind.i64 0)]) h114):=by
   obtain⟨l,F,el,OL,fF,LL⟩:=L.here
   have hll:l.length≤1000000:=by
    have:l.length=fs.length:=by rw[←el,jC]
    omega
   simp only[Pf.boxC X,cE,reduceIte,cT,Nat.reduceAdd]
   refine aOf (ab:=ab) OL.slR LL.lfs hll λh2 u2=>?_
   rw[el,←hdr]
   have hpe:=aSU s
   have U2:cU [r4,r10,r1] hB h2:=(U.trans u2.upd).mono λx hx=>.inl (by simp only[gZ,kW,or_false] at hx;rcases hx with rfl|rfl<;>simp)
   have L2:nJ hB h2 v fs:=L.upd u2 (by simp)
   by_cases cp:lB (aEP s)=(s,0)
   ·rw[if_pos cp] at hpe
    have h0:(iC s).2=0:=by
     by_cases c:(iC s).2=0
     ·exact c
     ·rw[if_neg c] at hpe;exact absurd (show(0:Int)=5 from congrArg Prod.snd hpe) (by decide)
    rw[if_pos h0] at hpe
    rw[←hpe,hdr] at hk
    rw[cp]
    have q1:((0:Int) !=0)=false:=rfl
    have q2:(!decide (s=s))=false:=by simp
    simp only[kU,q1,aEu,q2,Pf.boxC (X.ext u2),cE,reduceIte,cT,Nat.reduceAdd]
    refine cC.put (vs:=[.bool ab,v]) (Z.ext u2) (o:=0) rfl (by show 0+2≤2;decide) (by
     have:=L.isc
     simp[fK];exact this) λh3 Z3 u3=>?_
    have Z3:Bx h3 r1 [.bool ab,v]:=Z3
    simp only[Pf.boxC Z3,cE,reduceIte,cT,Nat.reduceAdd]
    refine hk h3 v ?_ (EX (U2.trans (u3.mono λx hx=>.inl (by simp only[fW] at hx;simp[hx]))))
    have L3:nJ hB h3 v fs:=L2.upd u3 (λx hx=>by simp only[fW] at hx;subst hx;exact ZB.known)
    obtain⟨l',F',e',O',f',L'⟩:=L3.here
    exact⟨l',F',e',O',λx hx=>nB x (f' x hx),λy hy=>by
     obtain⟨G,a1,a2,a3⟩:=L' y hy
     exact⟨G,a1,λx hx=>nB x (a2 x hx),a3⟩⟩
   ·rw[if_neg cp] at hpe
    have h0:(iC s).2≠0:=λc=>by
     rw[if_pos c] at hpe
     have:=congrArg Prod.snd hpe
     rw[c] at this;cases this
    rw[aSH s h0] at hk
    have bad:dZ (cV PG (build cC #[])) λv108=>cW PG (dJ cC (pT r1 0) v108) h2 λv109 h110=>dZ (cG PG h110 (loadAt cC (pT r1 0))) λv111=>k (Value.tuple #[v111,(Value.int IntKind.i64 5)]) h110:=by
     simp only[aF0,cE,reduceIte,cT,Nat.reduceAdd]
     refine cC.put (vs:=[.bool false,.slice none 0 0]) (Z.ext u2) (o:=0) rfl (by show 0+2≤2;decide) (by simp[fK]) λh3 Z3 u3=>?_
     have Z3:Bx h3 r1 [.bool false,.slice none 0 0]:=Z3
     simp only[Pf.boxC Z3,cE,reduceIte,cT,Nat.reduceAdd]
     exact hk h3 _ nJ.nil (EX (U2.trans (u3.mono λx hx=>.inl (by simp only[fW] at hx;simp[hx]))))
    by_cases c0:(lB (aEP s)).2=0
    ·have q1:((lB (aEP s)).2 !=0)=false:=by simp[c0]
     have q2:(!decide ((lB (aEP s)).1=s))=true:=by
      have:¬(lB (aEP s)).1=s:=λe=>cp (Prod.ext e c0)
      simp[this]
     simp only[kU,q1,aEu,q2,cE,reduceIte,cT,Nat.reduceAdd]
     try simp only[cE,reduceIte,cT,Nat.reduceAdd] at bad
     exact bad
    ·have q1:((lB (aEP s)).2 !=0)=true:=by simpa using c0
     simp only[kU,q1,cE,reduceIte,cT,Nat.reduceAdd]
     try simp only[cE,reduceIte,cT,Nat.reduceAdd] at bad
     exact bad
  by_cases hin:i<n
  ·have g1:((i:Int)<((n:Nat):Int))=True:=eq_true (by omega)
   have g2:((i:Int)<3)=False:=eq_false (by omega)
   simp only[g1,g2,cE,reduceIte,cT,Nat.reduceAdd]
   try simp only[cE,reduceIte,cT,Nat.reduceAdd] at fin
   exact fin
  ·have g1:((i:Int)<((n:Nat):Int))=False:=eq_false (by omega)
   simp only[g1,cE,reduceIte,cT,Nat.reduceAdd]
   try simp only[cE,reduceIte,cT,Nat.reduceAdd] at fin
   exact fin
theorem fY.lfc{h:PH}{v:Value}{l:List LV}(S:fY h 5 v (l.map qE)){j:Nat}{y:LV}(hy:l[j]? =some y):
  ∃b o,cV PG (indexAt cN v (.int .i64 (j:Int)))=some (pT b o)∧dD h ⟨b,o,none⟩=some (.int .i64 y.1.i)∧dD h ⟨b,o+1,none⟩=some (.int .i64 y.1.n)∧dD h ⟨b,o+2,none⟩=some (.string (tx y.1.p.k))∧dD h ⟨b,o+2+1,none⟩=some (.string (tx y.1.p.v)):=by
 obtain⟨b,o,h1,h2,-⟩:=S.fields cN.und cB.info cB.size (k:=.i64) (j:=j) (r:=qE y) (by rw[sC,hy];rfl)
 exact⟨b,o,h1,h2 0 _ rfl,h2 1 _ rfl,h2 2 _ rfl,h2 3 _ rfl⟩
theorem nJ.offs{h0 h:PH}{v:Value}{fs:List Lf}(H:nJ h0 h v fs){b m:Nat}(kb:h0 b≠none)(km:h0 m≠none):∃l:List LV,l.map (·.1)=fs∧fY h 5 v (l.map qE)∧LfS h l∧Off b m v∧∀y∈l,Off b m y.2:=by
 obtain⟨l,F,e,O,f,L⟩:=H.here
 refine⟨l,e,O.slR,L.lfs,λa n c ev=>f.off kb km _ (aFs O a n c ev),λy hy a n c ev=>?_⟩
 obtain⟨G,OG,fG,-⟩:=L y hy
 exact fG.off kb km _ (aFs OG a n c ev)
def wL:List Lf->List Tx
 | []=>[]
 | f::l=>(if (nI f).isSome then aF2 f else [])++wL l
theorem aPd(l:List Lf)(f:Lf):wL (l++[f])=wL l++(if (nI f).isSome then aF2 f else []):=by
 induction l with
 | nil=>simp[wL]
 | cons a l ih=>simp[wL,ih]
theorem aPG(root:Tx)(l:List Lf)(f:Lf):mJ root (l++[f])=(mJ root l&&(nI f==some root)):=by
 unfold mJ
 simp
theorem aM1{h:PH}{root:Tx}{ab:Bool}{v:Value}{l:List LV}{b m:Nat}{A:List Tx}{K:List Nat}(H:Bk b m A K h)(S:fY h 5 v (l.map qE))(HS:LfS h l)(ov:Off b m v)(oy:∀y∈l,Off b m y.2)(hl:l.length≤1000)(hb:∀y∈l,y.1.Bd){k:cD}
  (hk:∀h',Bk b m (wL (l.map (·.1))++A) K h'->cU [b,m] h h'->k (.bool (mJ root (l.map (·.1)))) h'):
  aT PG wZ #[pT b 0,.string (tx root),Pf.val ab v] h k:=by
 apply aAf.call
 unfold aAf
 intro r1 hr1
 try rw[cZ]
 have hr1b:r1∉[b,m]:=(eP.one hr1).off (H.known b (by simp)) (H.known m (by simp)) r1 (by simp)
 have u1:dC h (h.set r1 (.cells (Value.cells (Pf.val ab v)) cC)):=cU.new hr1
 have X1:Bx (h.set r1 (.cells (Value.cells (Pf.val ab v)) cC)) r1 [.bool ab,v]:=Bx.new
 generalize h.set r1 (.cells (Value.cells (Pf.val ab v)) cC)=h1 at *
 refine⟨λvs h'=>∃i:Nat,i≤l.length∧vs=[pT b 0,.string (tx root),pT r1 0,.bool (mJ root ((l.take i).map (·.1))),.int .i64 (i:Int)]∧Bk b m (wL ((l.take i).map (·.1))++A) K h'∧cU [b,m] h1 h',iE l.length 4,⟨0,by omega,rfl,H.ext u1,cU.refl⟩,?_⟩
 rintro ρ h' ⟨i,hi,hvs,B,u⟩
 simp only[iH,iU,lF,and_true] at hvs
 obtain⟨v0,v1,v2,v3,v4⟩:=hvs
 unfold aEz
 rw[v0,v1,v2,v3,v4]
 have X:=X1.upd u hr1b
 have lv:cG PG h' (loadAt cN (pT r1 1))=some v:=by rw[cN.load,X.cell];rfl
 have ll:=aIU S
 by_cases hlt:i<l.length
 ·have g:((i:Int)<(l.length:Int))=True:=eq_true (by omega)
  have gi:=rA (i:=i) (by omega)
  obtain⟨y,hy⟩:∃y,l[i]? =some y:=⟨_,lS hlt⟩
  have hym:=sH hy
  obtain⟨pa,e1,e2⟩:=((S.ext u1).upd u ov).lf hy
  have hbd:=hb y hym
  have et:(l.take (i+1)).map (·.1)=(l.take i).map (·.1)++[y.1]:=by rw[zLR,hy];simp
  have key:∀(t:Tx) (o:Bool) {h2:PH},Bk b m ((if (nI y.1).isSome then aF2 y.1 else [])++(wL ((l.take i).map (·.1))++A)) K h2->cU [b,m] h' h2->(o&&decide (t=root))=(nI y.1==some root)->
    (∃i':Nat,i'≤l.length∧([pT b 0,.string (tx root),pT r1 0,.bool (mJ root ((l.take i).map (·.1))&&(o&&decide (t=root))),.int .i64 ((i+1:Nat):Int)]:List Value)=[pT b 0,.string (tx root),pT r1 0,.bool (mJ root ((l.take i').map (·.1))),.int .i64 (i':Int)]∧Bk b m (wL ((l.take i').map (·.1))++A) K h2∧cU [b,m] h1 h2):=by
   intro t o h2 B2 u2 ho
   refine⟨i+1,by omega,?_,B2.mono λa ha=>?_,u.trans u2⟩
   ·rw[et,aPG,ho]
   ·rw[et,aPd] at ha
    simp only[jJ] at ha ⊢
    rcases ha with(ha|ha)|ha
    ·exact .inr (.inl ha)
    ·exact .inl ha
    ·exact .inr (.inr ha)
  simp only[cC.f1,fL,lv,ll,g,e1,e2,cE,reduceIte,cT,Nat.reduceAdd]
  refine aS3 B (((HS y hym).ext u1).upd u (oy y hym)) (oy y hym) (by have:=hbd.m;omega) (by have:=hbd.k;have:=hbd.v;omega) (λhno h2 B2 u2=>?_) (λhok h2 B2 u2=>?_)
  ·have hc:=aOB hno
   have hfin:=key [] false (B2.mono λa ha=>by rw[hc] at ha;simpa using ha) u2 (by rw[hc];rfl)
   simp only[wO,aFT] at hfin
   cases hcl:mJ root ((l.take i).map (·.1)) with
   | true=>
    simp only[gi,cE,reduceIte,cT,Nat.reduceAdd]
    exact⟨hfin,by simp[iE,v4];omega⟩
   | false=>
    simp only[gi,cE,reduceIte,cT,Nat.reduceAdd]
    exact⟨hfin,by simp[iE,v4];omega⟩
  ·have hc:=aOX hok
   have hfin:=key (aIN y.1.n.toNat (aK5 y.1)) true (B2.mono λa ha=>by rw[hc] at ha;simpa using ha) u2 (by
    rw[hc,zLo]
    by_cases c:aIN y.1.n.toNat (aK5 y.1)=root
    ·simp[c]
    ·simp[c])
   simp only[zLo] at hfin
   cases hcl:mJ root ((l.take i).map (·.1)) with
   | true=>
    rw[hcl] at hfin
    simp only[zLo] at hfin
    simp only[aEv,gi,cE,reduceIte,cT,Nat.reduceAdd]
    exact⟨hfin,by simp[iE,v4];omega⟩
   | false=>
    rw[hcl] at hfin
    simp only[wO] at hfin
    simp only[gi,cE,reduceIte,cT,Nat.reduceAdd]
    exact⟨hfin,by simp[iE,v4];omega⟩
 ·have g:((i:Int)<(l.length:Int))=False:=eq_false (by omega)
  rw[mV (by omega)] at B
  rw[mV (by omega)]
  simp only[cC.f1,fL,lv,ll,g,cE,reduceIte,cT,Nat.reduceAdd]
  exact hk h' B (u1.upd.trans u)
def aGX(l:List Lf)(q:Pr):Bool:=match l with
 | [f]=>f.p==q
 | _=>false
theorem aS7{l:List Lf}(h:l.length≠1)(q:Pr):aGX l q=false:=by
 match l,h with
 | [],_=>rfl
 | [f],h=>exact absurd rfl h
 | _::_::_,_=>rfl
theorem aQo(root s k v:Tx):aAU root s k v=((iC s).2==0 && !(iC s).1.ab&&aGX (iC s).1.lv ⟨k,v⟩&&mJ root (iC s).1.lv):=by
 unfold aAU aGX
 rfl
def aF8(s:Tx):List Tx:=if (iC s).2=0∧(iC s).1.ab=false∧(iC s).1.lv.length=1 then wL (iC s).1.lv else []
theorem aQ4{h:PH}{root s key value:Tx}{b m:Nat}{A:List Tx}{K:List Nat}(H:Bk b m A K h)(hs:s.length≤1000000000){k:cD}(hk:∀h',Bk b m (aF8 s++A) K h'->cU [b,m] h h'->k (.bool (aAU root s key value)) h'):
  aT PG aAj #[pT b 0,.string (tx root),.string (tx s),.string (tx key),.string (tx value)] h k:=by
 apply aC6.call
 unfold aC6
 have kb:=H.known b (by simp)
 have km:=H.known m (by simp)
 refine aOx hs λh1 v L1 u1=>?_
 have hbd:=aKR s
 have hl2:=aI6 s
 rw[aQo] at hk
 unfold aF8 at hk
 generalize iC s=P at *
 obtain⟨⟨ab,fs⟩,e⟩:=P
 simp only at L1 hbd hl2 hk ⊢
 simp only[cE,reduceIte,cT,Nat.reduceAdd]
 intro r5 hr5
 try rw[cZ]
 have hr5h:h r5=none:=u1.none hr5
 refine cC.fill (vs:=[.bool ab,v]) hr5 rfl (by
  have:=L1.isc
  simp[fK];exact this) λh2 X2 u2=>?_
 have e2:=u1.trans u2
 have L2:=L1.upd u2 (by simp)
 obtain⟨l,el,S2,HS2,ov,oy⟩:=L2.offs kb km
 have hll:l.length=fs.length:=by rw[←el,jC]
 have B2:=H.ext e2
 have la:cG PG h2 (loadAt gF (pT r5 0))=some (.bool ab):=by rw[gF.load,X2.cell];rfl
 have lv:cG PG h2 (loadAt cN (pT r5 1))=some v:=by rw[cN.load,X2.cell];rfl
 have ll:=aIU S2
 have bad:¬(e=0∧ab=false∧fs.length=1)->k (.bool false) h2:=λhn=>by
  have:=hk h2
  rw[if_neg hn] at this
  have hf:(e==0 && !ab&&aGX fs ⟨key,value⟩&&mJ root fs)=false:=by
   by_cases c0:e=0
   ·cases ab with
    | true=>simp
    | false=>rw[aS7 (λh=>hn ⟨c0,rfl,h⟩)];simp
   ·simp[c0]
  rw[hf] at this
  exact this B2 e2.upd
 by_cases c0:e=0
 case neg=>
  have q:(e !=0)=true:=by simpa using c0
  simp only[kU,q,cE,reduceIte,cT,Nat.reduceAdd]
  exact bad λh=>c0 h.1
 have q:(e !=0)=false:=by simp[c0]
 cases ab with
 | true=>
  simp only[kU,q,cC.f0,la,cE,reduceIte,cT,Nat.reduceAdd]
  exact bad λh=>by cases h.2.1
 | false=>
  by_cases c1:fs.length=1
  case neg=>
   have q1:((l.length:Int) !=1)=true:=by simp;omega
   simp only[kU,q,q1,cC.f0,cC.f1,fL,la,lv,ll,cE,reduceIte,cT,Nat.reduceAdd]
   exact bad λh=>c1 h.2.2
  have q1:((l.length:Int) !=1)=false:=by simp;omega
  obtain⟨y,rfl⟩:=List.length_eq_one_iff.1 (show l.length=1 by omega)
  simp only[iH,iU] at el
  subst el
  simp only[kU,q,q1,cC.f0,cC.f1,fL,la,lv,ll,Pf.boxC X2,cE,reduceIte,cT,Nat.reduceAdd]
  refine aM1 B2 S2 HS2 ov oy (by simp) (λz hz=>hbd z.1 (by simp only[fW] at hz;subst hz;simp)) λh3 B3 u3=>?_
  have U3:cU [b,m] h h3:=e2.upd.trans u3
  have hk:=hk h3
  rw[if_pos ⟨c0,rfl,c1⟩] at hk
  have hk:=hk B3 U3
  have X3:=X2.upd u3 (λhm=>by
   have:=(eP.one hr5h).off kb km r5 (by simp)
   exact this hm)
  have lv3:cG PG h3 (loadAt cN (pT r5 1))=some v:=by rw[cN.load,X3.cell];rfl
  obtain⟨x,o,i1,-,-,i4,i5⟩:=(S2.upd u3 ov).lfc (j:=0) (y:=y) rfl
  rw[show((0:Nat):Int)=0 from rfl] at i1
  simp only[c0,beq_self_eq_true,Bool.not_false,zLo] at hk
  have hpe:aGX [y.1] ⟨key,value⟩=(decide (y.1.p.k=key)&&decide (y.1.p.v=value)):=by
   rw[zLl]
   obtain⟨⟨_,_,⟨pk,pv⟩,_⟩,_⟩:=y
   simp[aGX]
  rw[hpe] at hk
  simp only[iH,iU]
  cases hc:mJ root [y.1] with
  | false=>
   rw[hc,aFT] at hk
   simp only[cE,reduceIte,cT,Nat.reduceAdd]
   exact hk
  | true=>
   rw[hc,Bool.and_true] at hk
   by_cases ck:y.1.p.k=key
   ·have d:=decide_eq_true ck
    rw[d,zLo] at hk
    simp only[lv3,i1,cC.f1,cB.f2,cM.f0,cM.f1,fL,bR.load,i4,i5,aEv,d,cE,reduceIte,cT,Nat.reduceAdd]
    exact hk
   ·have d:=decide_eq_false ck
    rw[d,wO] at hk
    simp only[lv3,i1,cC.f1,cB.f2,cM.f0,fL,bR.load,i4,aEv,d,cE,reduceIte,cT,Nat.reduceAdd]
    exact hk
def aAS(root:Tx)(l:List Lf)(k:Tx):Bool:=match l with
 | []=>root==jX []
 | [f]=>(f.i==0&&decide (k<f.p.k))||(f.i==IntKind.i64.wrap (f.n-1)&&decide (f.p.k<k))
 | f::g::_=>f.n==g.n&&(IntKind.i64.wrap (f.i+1)==g.i)&&decide (f.p.k<k)&&decide (k<g.p.k)
theorem aOw(root s k:Tx):aAO root s k=((iC s).2==0&&(iC s).1.ab&&decide (1≤k.length)&&decide (k.length≤16)&&mJ root (iC s).1.lv&&aAS root (iC s).1.lv k):=by
 unfold aAO aAS
 rfl
def aH1(s k:Tx):List Tx:=if (iC s).2=0∧(iC s).1.ab=true∧1≤k.length∧k.length≤16 then wL (iC s).1.lv++(if (iC s).1.lv=[] then rQ [] else []) else []
theorem aTZ{h:PH}{root s key:Tx}{b m:Nat}{A:List Tx}{K:List Nat}(H:Bk b m A K h)(hs:s.length≤1000000000){k:cD}(hk:∀h',Bk b m (aH1 s key++A) K h'->cU [b,m] h h'->k (.bool (aAO root s key)) h'):
  aT PG aCO #[pT b 0,.string (tx root),.string (tx s),.string (tx key)] h k:=by
 apply sN.call
 unfold sN
 have kb:=H.known b (by simp)
 have km:=H.known m (by simp)
 have lk:cV PG (Builtin.len_ #[bR] bT #[.string (tx key)])=some (.int .i64 (key.length:Int)):=by rw[lV bR.und,iD]
 refine aOx hs λh1 v L1 u1=>?_
 have hbd:=aKR s
 have hl2:=aI6 s
 rw[aOw] at hk
 unfold aH1 at hk
 generalize iC s=P at *
 obtain⟨⟨ab,fs⟩,e⟩:=P
 simp only at L1 hbd hl2 hk ⊢
 simp only[cE,reduceIte,cT,Nat.reduceAdd]
 intro r5 hr5
 try rw[cZ]
 have hr5h:h r5=none:=u1.none hr5
 refine cC.fill (vs:=[.bool ab,v]) hr5 rfl (by
  have:=L1.isc
  simp[fK];exact this) λh2 X2 u2=>?_
 have e2:=u1.trans u2
 have L2:=L1.upd u2 (by simp)
 obtain⟨l,el,S2,HS2,ov,oy⟩:=L2.offs kb km
 have hll:l.length=fs.length:=by rw[←el,jC]
 have B2:=H.ext e2
 have la:cG PG h2 (loadAt gF (pT r5 0))=some (.bool ab):=by rw[gF.load,X2.cell];rfl
 have ll:=aIU S2
 have bad:¬(e=0∧ab=true∧1≤key.length∧key.length≤16)->k (.bool false) h2:=λhn=>by
  have:=hk h2
  rw[if_neg hn] at this
  have hf:(e==0&&ab&&decide (1≤key.length)&&decide (key.length≤16)&&mJ root fs&&aAS root fs key)=false:=by
   by_cases c0:e=0
   ·cases ab with
    | false=>simp
    | true=>
     by_cases c1:1≤key.length
     ·have c2:¬key.length≤16:=λh=>hn ⟨c0,rfl,c1,h⟩
      simp[c2]
     ·simp[c1]
   ·simp[c0]
  rw[hf] at this
  exact this B2 e2.upd
 by_cases c0:e=0
 case neg=>
  have q:(e !=0)=true:=by simpa using c0
  simp only[kU,q,cE,reduceIte,cT,Nat.reduceAdd]
  exact bad λh=>c0 h.1
 have q:(e !=0)=false:=by simp[c0]
 cases ab with
 | false=>
  simp only[kU,q,cC.f0,la,cE,reduceIte,cT,Nat.reduceAdd]
  exact bad λh=>by cases h.2.1
 | true=>
  by_cases d1:key.length<1
  ·have g1:((key.length:Int)<1)=True:=eq_true (by omega)
   simp only[kU,q,cC.f0,la,lk,g1,cE,reduceIte,cT,Nat.reduceAdd]
   exact bad λh=>by omega
  have g1:((key.length:Int)<1)=False:=eq_false (by omega)
  by_cases d2:16<key.length
  ·have g2:((16:Int)<(key.length:Int))=True:=eq_true (by omega)
   simp only[kU,q,cC.f0,la,lk,g1,g2,cE,reduceIte,cT,Nat.reduceAdd]
   exact bad λh=>by omega
  have g2:((16:Int)<(key.length:Int))=False:=eq_false (by omega)
  have f1:decide (1≤key.length)=true:=decide_eq_true (by omega)
  have f2:decide (key.length≤16)=true:=decide_eq_true (by omega)
  simp only[kU,q,cC.f0,la,lk,g1,g2,Pf.boxC X2,cE,reduceIte,cT,Nat.reduceAdd]
  refine aM1 B2 S2 HS2 ov oy (by omega) (λz hz=>hbd z.1 (by rw[←el];exact zL4 hz)) λh3 B3 u3=>?_
  rw[el] at B3 ⊢
  have U3:cU [b,m] h h3:=e2.upd.trans u3
  have X3:=X2.upd u3 (λhm=>by
   have:=(eP.one hr5h).off kb km r5 (by simp)
   exact this hm)
  have lv3:cG PG h3 (loadAt cN (pT r5 1))=some v:=by rw[cN.load,X3.cell];rfl
  have S3:=S2.upd u3 ov
  have hk:∀h',Bk b m ((wL fs++(if fs=[] then rQ [] else []))++A) K h'->cU [b,m] h h'->k (.bool (mJ root fs&&aAS root fs key)) h':=λh' hB hU=>by
   have:=hk h'
   rw[if_pos ⟨c0,rfl,by omega,by omega⟩,f1,f2,c0] at this
   simp only[beq_self_eq_true,zLo,Bool.and_self] at this
   exact this hB hU
  cases hc:mJ root fs with
  | false=>
   rw[hc] at hk
   simp only[wO] at hk
   simp only[cE,reduceIte,cT,Nat.reduceAdd]
   have hne:fs≠[]:=λh=>by rw[h] at hc;cases hc
   rw[if_neg hne,zLN] at hk
   exact hk h3 B3 U3
  | true=>
   rw[hc] at hk
   simp only[zLo] at hk
   subst el
   match l,S3,ll,hl2,hk,B3 with
   | [],S3,ll,hl2,hk,B3=>
    have q0:(((([]:List LV).length:Nat):Int)==0)=true:=rfl
    simp only[lv3,ll,hE,q0,cC.f1,fL,cE,reduceIte,cT,Nat.reduceAdd]
    refine aUs B3 (l:=[]) (by simp) (eS.nil (e:=cM) (size:=2)).slR (λa n c e=>by cases e) (λp hp=>by cases hp) λh4 B4 u4=>?_
    have:=hk h4 (B4.mono λa ha=>by
     simp only[iU,if_true,jJ] at ha ⊢
     rcases ha with(ha|ha)|ha
     ·cases ha
     ·exact .inl ha
     ·exact .inr (.inr ha)) (U3.trans u4)
    simp only[aEv,cE,reduceIte,cT,Nat.reduceAdd]
    have ht:aAS root (([]:List LV).map (·.1)) key=decide (root=jX []):=by
     rw[zLl];simp[aAS]
    rw[ht] at this
    exact this
   | [y],S3,ll,hl2,hk,B3=>
    have q0:((([y].length:Nat):Int)==0)=false:=rfl
    have q1:((([y].length:Nat):Int)==1)=true:=rfl
    obtain⟨x,o,i1,i2,i3,i4,-⟩:=S3.lfc (j:=0) (y:=y) rfl
    rw[show((0:Nat):Int)=0 from rfl] at i1
    have hk:=hk h3 (B3.mono λa ha=>by simpa using ha) U3
    have ht:aAS root ([y].map (·.1)) key=((y.1.i==0&&decide (key<y.1.p.k))||(y.1.i==IntKind.i64.wrap (y.1.n-1)&&decide (y.1.p.k<key))):=rfl
    rw[ht] at hk
    simp only[lv3,ll,hE,q0,q1,i1,cC.f1,cB.f0,cB.f1,cB.f2,cM.f0,fL,bT.load,bR.load,i2,i3,i4,cE,reduceIte,cT,Nat.reduceAdd]
    cases hi:y.1.i==0 with
    | true=>
     rw[hi] at hk
     simp only[zLo] at hk
     simp only[i1,cB.f0,cB.f1,cB.f2,cM.f0,bT.load,bR.load,i2,i3,i4,aNE,hE,cE,reduceIte,cT,Nat.reduceAdd]
     cases hj:y.1.i==IntKind.i64.wrap (y.1.n-1) with
     | true=>
      rw[hj] at hk
      simp only[zLo] at hk
      by_cases ck:key<y.1.p.k
      ·have d:=decide_eq_true ck
       rw[d] at hk
       simp only[Bool.true_or] at hk
       simp only[i1,cB.f2,cM.f0,bR.load,i4,xD,d,cE,reduceIte,cT,Nat.reduceAdd]
       exact hk
      ·have d:=decide_eq_false ck
       rw[d] at hk
       simp only[aKO] at hk
       simp only[i1,cB.f2,cM.f0,bR.load,i4,xD,d,cE,reduceIte,cT,Nat.reduceAdd]
       exact hk
     | false=>
      rw[hj] at hk
      simp only[wO,Bool.or_false] at hk
      by_cases ck:key<y.1.p.k
      ·have d:=decide_eq_true ck
       rw[d] at hk
       simp only[d,cE,reduceIte,cT,Nat.reduceAdd]
       exact hk
      ·have d:=decide_eq_false ck
       rw[d] at hk
       simp only[d,cE,reduceIte,cT,Nat.reduceAdd]
       exact hk
    | false=>
     rw[hi] at hk
     simp only[wO,aKO] at hk
     simp only[i1,cB.f0,cB.f1,bT.load,i2,i3,hE,cE,reduceIte,cT,Nat.reduceAdd]
     cases hj:y.1.i==IntKind.i64.wrap (y.1.n-1) with
     | true=>
      rw[hj] at hk
      simp only[zLo] at hk
      simp only[i1,cB.f2,cM.f0,bR.load,i4,xD,cE,reduceIte,cT,Nat.reduceAdd]
      exact hk
     | false=>
      rw[hj] at hk
      simp only[wO] at hk
      simp only[cE,reduceIte,cT,Nat.reduceAdd]
      exact hk
   | y::z::r,S3,ll,hl2,hk,B3=>
    have q0:((((y::z::r).length:Nat):Int)==0)=false:=by simp;omega
    have q1:((((y::z::r).length:Nat):Int)==1)=false:=by simp;omega
    obtain⟨x,o,i1,i2,i3,i4,-⟩:=S3.lfc (j:=0) (y:=y) rfl
    obtain⟨x',o',j1,j2,j3,j4,-⟩:=S3.lfc (j:=1) (y:=z) rfl
    rw[show((0:Nat):Int)=0 from rfl] at i1
    rw[show((1:Nat):Int)=1 from rfl] at j1
    have hk:=hk h3 (B3.mono λa ha=>by simpa using ha) U3
    have ht:aAS root ((y::z::r).map (·.1)) key=(y.1.n==z.1.n&&(IntKind.i64.wrap (y.1.i+1)==z.1.i)&&decide (y.1.p.k<key)&&decide (key<z.1.p.k)):=rfl
    rw[ht] at hk
    have hsw:(z.1.i==IntKind.i64.wrap (y.1.i+1))=(IntKind.i64.wrap (y.1.i+1)==z.1.i):=by
     rw[zLl];simp only[beq_iff_eq];exact eq_comm
    simp only[lv3,ll,hE,q0,q1,i1,j1,cC.f1,cB.f0,cB.f1,cB.f2,cM.f0,fL,bT.load,bR.load,i2,i3,i4,j2,j3,j4,cE,reduceIte,cT,Nat.reduceAdd]
    cases h1':y.1.n==z.1.n with
    | false=>
     rw[h1'] at hk
     simp only[wO] at hk
     simp only[cE,reduceIte,cT,Nat.reduceAdd]
     exact hk
    | true=>
     rw[h1'] at hk
     simp only[zLo] at hk
     simp only[i1,j1,cB.f0,bT.load,i2,j2,hE,hsw,cE,reduceIte,cT,Nat.reduceAdd]
     cases h2':IntKind.i64.wrap (y.1.i+1)==z.1.i with
     | false=>
      rw[h2'] at hk
      simp only[wO] at hk
      simp only[cE,reduceIte,cT,Nat.reduceAdd]
      exact hk
     | true=>
      rw[h2'] at hk
      simp only[zLo] at hk
      simp only[i1,cB.f2,cM.f0,bR.load,i4,xD,cE,reduceIte,cT,Nat.reduceAdd]
      by_cases c3:y.1.p.k<key
      ·have d:=decide_eq_true c3
       rw[d] at hk
       simp only[zLo] at hk
       simp only[j1,cB.f2,cM.f0,bR.load,j4,aNE,d,cE,reduceIte,cT,Nat.reduceAdd]
       exact hk
      ·have d:=decide_eq_false c3
       rw[d] at hk
       simp only[wO] at hk
       simp only[d,cE,reduceIte,cT,Nat.reduceAdd]
       exact hk
end Go.Proofs.YtcoajnpchhmgjaaGreatDoor
namespace Go.Proofs.YtcoajnpchhmgjaaGreatDoor
open Go Bld
theorem aSp:jS PG (buildSlice cJ 0 #[])=some (.cells #[] cM,λr=>pure (.slice (some ⟨r,0,none⟩) 0 0)):=by kernel_rfl
theorem aLC{h:PH}{v x:Value}{l ys:List Pr}{F:List Nat}(O:eS h cM 2 v (l.map Pr.cells) F)(S:fY h 2 x (ys.map Pr.cells))(hl:l.length+ys.length≤1000000){t:TypeId}{k:cD}
  (hk:∀v' h' F',eS h' cM 2 v' ((l++ys).map Pr.cells) F'->cU F h h'->(∀b∈F',b∈F∨h b=none)->k v' h'):cW PG (Builtin.append_ #[cJ,cJ] t #[v,x]) h k:=by
 refine jL cJ.und cJ.und cM.info cM.size cM.bytes cM.zero rfl (by decide) O S (Pr.isCell ys) (by simp;omega) ?_
 intro v' h' F' O' u' k' _
 rw[←qB] at O'
 exact hk v' h' F' O' u' k'
theorem vF.now{h h1 h':PH}{b:Nat}{s:St}{G F:List Nat}{n:List Pr}{nv bv v:Value}(H:vF h b s G)(hb:h b=some (.cells #[nv,.int .u64 ((s.height-(s.blocks.length-1):Nat):Int),bv] dK (0,0)))(u:dC h h1)(O:eS h1 cM 2 v (n.map Pr.cells) F)(fF:eP h F)(hok:St.Ok {s with now:=n})
  (e:h'=h1.set b (.cells #[v,.int .u64 ((s.height-(s.blocks.length-1):Nat):Int),bv] dK (0,0))):vF h' b {s with now:=n} (G++F)∧cU [b] h h'∧(∀g∈G++F,g∈G∨h g=none):=by
 subst e
 obtain⟨nv',bv',bl,h1',h2,h3,h4,h5,h6,h7,h8,h9⟩:=H.here
 rw[hb] at h1'
 simp only[zL5,Obj.cells.injEq,Array.mk.injEq,lF,and_true,true_and] at h1'
 obtain⟨rfl,rfl⟩:=h1'
 have uu:cU [b] h (h1.set b (.cells #[v,.int .u64 ((s.height-(s.blocks.length-1):Nat):Int),bv] dK (0,0))):=u.upd.trans (cU.set (by simp))
 have hG:∀g∈G,g∉[b]:=λg hg=>by simp only[fW];rintro rfl;exact h8 hg
 have hF:∀g∈F,g∉[b]:=λg hg=>by
  simp only[fW];rintro rfl
  have:=fF _ hg
  rw[hb] at this;cases this
 have O':=O.upd (cU.set (F:=[b]) (r:=b) (o:=(.cells #[v,.int .u64 ((s.height-(s.blocks.length-1):Nat):Int),bv] dK (0,0))) (by simp)) hF
 refine⟨⟨⟨v,bv,bl,dL,O'.slR,h3.upd uu λa n c e=>hG _ (h7 a n c e),λx hx=>⟨(h4 x hx).1.upd uu λa n c e=>hG _ ((h4 x hx).2 a n c e),λa n c e=>zLj _ ((h4 x hx).2 a n c e)⟩,h5,λa n c e=>zLk _ (aFs O' a n c e),λa n c e=>zLj _ (h7 a n c e),?_,λg hg=>?_⟩,hok⟩,uu,λg hg=>?_⟩
 ·intro hm
  rcases jJ.1 hm with hm|hm
  ·exact h8 hm
  ·exact hF _ hm (by simp)
 ·rcases jJ.1 hg with hg|hg
  ·obtain⟨o,ho⟩:=aGu.1 (h9 g hg)
   rw[uu.get ho (hG g hg)];simp
  ·exact O'.known g hg
 ·rcases jJ.1 hg with hg|hg
  ·exact .inl hg
  ·exact .inr (fF g hg)
theorem aWo{h:PH}{b:Nat}{s:St}{G:List Nat}(H:vF h b s G)(k v:Tx){kk:cD}(hk:∀h' G',vF h' b (aB6 s k v).1 G'->cU [b] h h'->(∀g∈G',g∈G∨h g=none)->kk (.int .i64 (aB6 s k v).2) h'):
  aT PG mY #[pT b 0,.string (tx k),.string (tx v)] h kk:=by
 apply wT.call
 unfold wT
 have fin1:(k.length<1∨16<k.length∨64<v.length)->kk (.int .i64 1) h:=λhb=>by
  have:=hk h G (by unfold aB6;rw[if_pos hb];exact H) cU.refl (λg hg=>.inl hg)
  unfold aB6 at this
  rw[if_pos hb] at this
  exact this
 by_cases d1:k.length<1
 ·have g1:((k.length:Int)==0)=true:=by simp;exact zLL (by omega)
  simp only[bR.len,iD,g1,cE,reduceIte]
  exact fin1 (.inl d1)
 have g1:((k.length:Int)==0)=false:=by simp;rintro rfl;simp at d1
 by_cases d2:16<k.length
 ·have g2:((16:Int)<(k.length:Int))=True:=eq_true (by omega)
  simp only[bR.len,iD,g1,g2,cE,reduceIte]
  exact fin1 (.inr (.inl d2))
 have g2:((16:Int)<(k.length:Int))=False:=eq_false (by omega)
 by_cases d3:64<v.length
 ·have g3:((64:Int)<(v.length:Int))=True:=eq_true (by omega)
  simp only[bR.len,iD,g1,g2,g3,cE,reduceIte]
  exact fin1 (.inr (.inr d3))
 have g3:((64:Int)<(v.length:Int))=False:=eq_false (by omega)
 have hr:¬(k.length<1∨16<k.length∨64<v.length):=by omega
 have hok:=H.ok
 have hH:=H
 obtain⟨A,M,B,c⟩:=hok.up.cut k
 obtain⟨nv,bv,bl,h1,h2,h3,h4,h5,h6,h7,h8,h9⟩:=H.here
 have c0:dD h ⟨b,0,none⟩=some nv:=by simp[dD,h1]
 have hlen:s.now.length=A.length+(M.length+B.length):=by rw[c.eq];simp
 have hfew:=hok.few
 have hget:=c.get hok.up
 simp only[bR.len,iD,g1,g2,g3,cE,reduceIte]
 refine aNm H c ?_
 obtain⟨w1,x1,x2⟩:=h2.cutP (lo:=some (.int .i64 (A.length:Int))) (hi:=none) (a:=A.length) (m:=s.now.length) (.inr ⟨_,rfl⟩) (.inl ⟨rfl,rfl⟩) (by omega) (qZ _)
 rw[zLG] at x2
 simp only[dK.f0,cJ.load,c0,x1,cE,reduceIte]
 -- what is left, laid
 have fin:∀t9,fY h 2 t9 (B.map Pr.cells)->¬(gQ s.now k=none∧4096≤s.now.length)->rU kk (pT b 0) (.string (tx k)) (.string (tx v)) (.int .i64 (A.length:Int)) t9 h:=by
  intro t9 S9 hc
  unfold rU
  simp only[aSp,cE,reduceIte]
  intro r hr'
  refine fT ?_
  try rw[cZ]
  have u1:dC h (h.set r (.cells #[] cM)):=cU.new hr'
  have O1:eS (h.set r (.cells #[] cM)) cM 2 (.slice (some ⟨r,0,none⟩) 0 0) (([]:List Pr).map Pr.cells) [r]:=eS.lit (n:=0) (Pr.rows []) dL (by simp) (by decide) rfl
  generalize h.set r (.cells #[] cM)=h1' at *
  have f1:eP h [r]:=eP.one hr'
  have hb1:=u1.get h1
  have c0:dD h1' ⟨b,0,none⟩=some nv:=by simp[dD,hb1]
  obtain⟨w2,y1,y2⟩:=(h2.ext u1).cutP (lo:=none) (hi:=some (.int .i64 (A.length:Int))) (a:=0) (m:=A.length) (.inl ⟨rfl,rfl⟩) (.inr ⟨_,rfl⟩) (by omega) (by omega)
  have eA:(s.now.take A.length).drop 0=A:=by rw[zLa,c.eq,List.take_left]
  rw[eA] at y2
  simp only[dK.f0,cJ.load,c0,y1,cE,reduceIte]
  refine aLC O1 y2 (by simp;omega) λv2 h2' F2 O2 u2 k2=>?_
  rw[wN] at O2
  have e2:dC h h2':=u1.fresh u2 f1
  have f2:eP h F2:=f1.grow u1 k2
  have hpb:cV PG (build cM #[(0,.string (tx k)),(1,.string (tx v))])=some (Pr.val ⟨k,v⟩):=aPF ⟨k,v⟩
  have hpl:=aS0 ⟨k,v⟩
  simp only[hpb,hpl,cE,reduceIte]
  intro r3 hr3
  refine fT ?_
  try rw[cZ]
  have u3:dC h2' (h2'.set r3 (.cells #[.string (tx k),.string (tx v)] cM)):=cU.new hr3
  have s3:fY (h2'.set r3 (.cells #[.string (tx k),.string (tx v)] cM)) 2 (.slice (some ⟨r3,0,none⟩) 1 1) ([(⟨k,v⟩:Pr)].map Pr.cells):=(eS.lit (n:=1) (Pr.rows [⟨k,v⟩]) dL (by simp) (by decide) rfl).slR
  generalize h2'.set r3 (.cells #[.string (tx k),.string (tx v)] cM)=h3' at *
  have e3:dC h h3':=e2.trans u3
  refine aLC (O2.ext u3) s3 (by simp;omega) λv4 h4' F4 O4 u4 k4=>?_
  have e4:dC h h4':=e3.fresh u4 f2
  have f4:eP h F4:=f2.grow e3 k4
  refine aLC O4 (S9.ext e4) (by simp;omega) λv5 h5' F5 O5 u5 k5=>?_
  have e5:dC h h5':=e4.fresh u5 f4
  have f5:eP h F5:=f4.grow e4 k5
  have eL:(A++[(⟨k,v⟩:Pr)])++B=mZ s.now ⟨k,v⟩:=by rw[c.set hok.up];simp
  rw[eL] at O5
  have hb5:=e5.get h1
  have hvc:fK v5=true:=by obtain⟨_,_,e,_⟩:=O5.slR.here;rw[e];rfl
  try simp only[dK.f0,cE,reduceIte]
  refine iY cJ.und rfl hb5 (by simp) hvc cJ.info cJ.size ?_
  have hs:aB6 s k v=({s with now:=mZ s.now ⟨k,v⟩},0):=by unfold aB6;rw[if_neg hr,if_neg hc]
  rw[hs] at hk
  obtain⟨q1,q2,q3⟩:=vF.now hH h1 e5 O5 f5 (hok.setOk hr hc) rfl
  exact hk _ _ q1 q2 q3
 rcases c.mid with e|⟨q,e,e2⟩
 ·have gM:decide (M≠[])=false:=by simp[e]
  have hgn:gQ s.now k=none:=by rw[gM] at hget;simpa using hget
  have eB:s.now.drop A.length=B:=by rw[c.eq,List.drop_left,e,wN]
  rw[eB] at x2
  have ln:=h2.len (t':=bT) cJ.und
  rw[jC] at ln
  by_cases d4:4096≤s.now.length
  ·have g4:((4096:Int)≤(s.now.length:Int))=True:=eq_true (by omega)
   simp only[gM,dK.f0,cJ.load,c0,ln,g4,cE,reduceIte]
   have hs:aB6 s k v=(s,2):=by unfold aB6;rw[if_neg hr,if_pos ⟨hgn,d4⟩]
   rw[hs] at hk
   exact hk h G hH cU.refl (λg hg=>.inl hg)
  ·have g4:((4096:Int)≤(s.now.length:Int))=False:=eq_false (by omega)
   simp only[gM,dK.f0,cJ.load,c0,ln,g4,cE,reduceIte]
   exact fin w1 x2 (λh=>d4 h.2)
 ·have gM:decide (M≠[])=true:=by simp[e]
  have hgn:¬gQ s.now k=none:=λh=>by rw[h,gM] at hget;simp at hget
  have gi:IntKind.i64.wrap ((A.length:Int)+1)=((A.length+1:Nat):Int):=by rw[eZ (by omega) (by omega)];omega
  have hM1:M.length=1:=by rw[e];rfl
  obtain⟨w3,z1,z2⟩:=h2.cutP (lo:=some (.int .i64 ((A.length+1:Nat):Int))) (hi:=none) (a:=A.length+1) (m:=s.now.length) (.inr ⟨_,rfl⟩) (.inl ⟨rfl,rfl⟩) (by omega) (qZ _)
  have eB:(s.now.take s.now.length).drop (A.length+1)=B:=by
   rw[zLG,c.eq,←pH]
   have:A.length+1=(A++M).length:=by rw[jE,hM1]
   rw[this,List.drop_left]
  rw[eB] at z2
  simp only[gM,dK.f0,cJ.load,c0,gi,z1,cE,reduceIte]
  exact fin w3 z2 (λh=>hgn h.1)
theorem aVu{h:PH}{b:Nat}{s:St}{G:List Nat}(H:vF h b s G)(k:Tx){kk:cD}(hk:∀h' G',vF h' b (aEp s k).1 G'->cU [b] h h'->(∀g∈G',g∈G∨h g=none)->kk (.int .i64 (aEp s k).2) h'):
  aT PG nP #[pT b 0,.string (tx k)] h kk:=by
 apply nD.call
 unfold nD
 have hok:=H.ok
 have hH:=H
 obtain⟨A,M,B,c⟩:=hok.up.cut k
 obtain⟨nv,bv,bl,h1,h2,h3,h4,h5,h6,h7,h8,h9⟩:=H.here
 have c0:dD h ⟨b,0,none⟩=some nv:=by simp[dD,h1]
 have hlen:s.now.length=A.length+(M.length+B.length):=by rw[c.eq];simp
 have hfew:=hok.few
 have hget:=c.get hok.up
 refine aNm H c ?_
 rcases c.mid with e|⟨q,e,e2⟩
 ·have gM:decide (M≠[])=false:=by simp[e]
  have hgn:gQ s.now k=none:=by rw[gM] at hget;simpa using hget
  simp only[gM,cE,reduceIte]
  have hs:aEp s k=(s,3):=by unfold aEp;rw[if_pos hgn]
  rw[hs] at hk
  exact hk h G hH cU.refl (λg hg=>.inl hg)
 ·have gM:decide (M≠[])=true:=by simp[e]
  have hgn:¬gQ s.now k=none:=λh=>by rw[h,gM] at hget;simp at hget
  have gi:IntKind.i64.wrap ((A.length:Int)+1)=((A.length+1:Nat):Int):=by rw[eZ (by omega) (by omega)];omega
  have hM1:M.length=1:=by rw[e];rfl
  obtain⟨w3,z1,z2⟩:=h2.cutP (lo:=some (.int .i64 ((A.length+1:Nat):Int))) (hi:=none) (a:=A.length+1) (m:=s.now.length) (.inr ⟨_,rfl⟩) (.inl ⟨rfl,rfl⟩) (by omega) (qZ _)
  have eB:(s.now.take s.now.length).drop (A.length+1)=B:=by
   rw[zLG,c.eq,←pH]
   have:A.length+1=(A++M).length:=by rw[jE,hM1]
   rw[this,List.drop_left]
  rw[eB] at z2
  obtain⟨w2,y1,y2⟩:=h2.cutP (lo:=none) (hi:=some (.int .i64 (A.length:Int))) (a:=0) (m:=A.length) (.inl ⟨rfl,rfl⟩) (.inr ⟨_,rfl⟩) (by omega) (by omega)
  have eA:(s.now.take A.length).drop 0=A:=by rw[zLa,c.eq,List.take_left]
  rw[eA] at y2
  simp only[gM,dK.f0,cJ.load,c0,gi,y1,z1,aSp,cE,reduceIte]
  intro r hr'
  refine fT ?_
  try rw[cZ]
  have u1:dC h (h.set r (.cells #[] cM)):=cU.new hr'
  have O1:eS (h.set r (.cells #[] cM)) cM 2 (.slice (some ⟨r,0,none⟩) 0 0) (([]:List Pr).map Pr.cells) [r]:=eS.lit (n:=0) (Pr.rows []) dL (by simp) (by decide) rfl
  generalize h.set r (.cells #[] cM)=h1' at *
  have f1:eP h [r]:=eP.one hr'
  refine aLC O1 (y2.ext u1) (by simp;omega) λv2 h2' F2 O2 u2 k2=>?_
  rw[wN] at O2
  have e2:dC h h2':=u1.fresh u2 f1
  have f2:eP h F2:=f1.grow u1 k2
  have hb2:=e2.get h1
  refine⟨by simp[dD,hb2],?_⟩
  refine aLC O2 (z2.ext e2) (by omega) λv5 h5' F5 O5 u5 k5=>?_
  have e5:dC h h5':=e2.fresh u5 f2
  have f5:eP h F5:=f2.grow e2 k5
  rw[←c.del] at O5
  have hb5:=e5.get h1
  have hvc:fK v5=true:=by obtain⟨_,_,e,_⟩:=O5.slR.here;rw[e];rfl
  try simp only[dK.f0,cE,reduceIte]
  refine iY cJ.und rfl hb5 (by simp) hvc cJ.info cJ.size ?_
  have hs:aEp s k=({s with now:=zM s.now k},0):=by unfold aEp;rw[if_neg hgn]
  rw[hs] at hk
  obtain⟨q1,q2,q3⟩:=vF.now hH h1 e5 O5 f5 ⟨hok.up.del _,λp hp=>hok.fit p (aOC.1 hp).1,zLB (aMc _ _) hok.few,hok.blk,hok.h1,hok.h2,hok.h3,hok.h4⟩ rfl
  exact hk _ _ q1 q2 q3
theorem aCl{h:PH}{b:Nat}{s:St}{G:List Nat}(H:vF h b s G){kk:cD}(hk:kk (.int .u64 s.height) h):aT PG jT #[pT b 0] h kk:=by
 apply nE.call
 unfold nE
 have hok:=H.ok
 obtain⟨nv,bv,bl,h1,h2,h3,h4,h5,h6,h7,h8,h9⟩:=H.here
 have c1:dD h ⟨b,0+1,none⟩=some (.int .u64 ((s.height-(s.blocks.length-1):Nat):Int)):=by simp[dD,h1]
 have c2:dD h ⟨b,0+2,none⟩=some bv:=by simp[dD,h1]
 have ln:=h3.len (t':=bT) fI.und
 rw[jC,show bl.length=s.blocks.length by rw[←h5,jC]] at ln
 have a1:=hok.h1
 have a2:=hok.h2
 have a3:=hok.h3
 have a4:=hok.h4
 have e1:IntKind.i64.wrap ((s.blocks.length:Int)-1)=((s.blocks.length-1:Nat):Int):=by rw[eZ (by omega) (by omega)];omega
 have e2:IntKind.u64.wrap ((s.blocks.length-1:Nat):Int)=((s.blocks.length-1:Nat):Int):=gG (by omega) (by omega)
 have e3:IntKind.u64.wrap (((s.height-(s.blocks.length-1):Nat):Int)+((s.blocks.length-1:Nat):Int))=(s.height:Int):=by rw[gG (by omega) (by omega)];omega
 simp only[dK.f1,dK.f2,cA.load,fI.load,c1,c2,ln,e1,aBN,e2,e3,cE,reduceIte]
 exact hk
theorem aVp{h:PH}{v x:Value}{l ys:List (Value×List Pr)}{F:List Nat}(O:eS h cJ 1 v (l.map aEN) F)(S:fY h 1 x (ys.map aEN))(hy:∀y∈ys,fK y.1=true)(hl:l.length+ys.length≤1000000){t:TypeId}{k:cD}
  (hk:∀v' h' F',eS h' cJ 1 v' ((l++ys).map aEN) F'->cU F h h'->(∀b∈F',b∈F∨h b=none)->k v' h'):cW PG (Builtin.append_ #[fI,fI] t #[v,x]) h k:=by
 refine jL fI.und fI.und cJ.info cJ.size cJ.bytes cJ.zero rfl (by decide) O S ?_ (by simp;omega) ?_
 ·intro r hr u hu
  obtain⟨y,hyy,rfl⟩:=lI.1 hr
  simp only[aEN,fW] at hu
  subst hu
  exact hy y hyy
 intro v' h' F' O' u' k' _
 rw[←qB] at O'
 exact hk v' h' F' O' u' k'
theorem aWS{h:PH}{b:Nat}{s:St}{G:List Nat}(H:vF h b s G){kk:cD}(hk:∀h' G',vF h' b (jO s).1 G'->cU [b] h h'->(∀g∈G',g∈G∨h g=none)->kk (.tuple #[.int .u64 ((jO s).2.1:Int),.int .i64 (jO s).2.2]) h'):
  aT PG wG #[pT b 0] h kk:=by
 apply nC.call
 unfold nC
 refine aCl H ?_
 have hok:=H.ok
 have hH:=H
 have a1:=hok.h1
 have a2:=hok.h2
 have a3:=hok.h3
 have a4:=hok.h4
 by_cases d1:s.height=18446744073709551615
 ·have e1:IntKind.u64.wrap ((s.height:Int)+1)=0:=by
   rw[d1];rfl
  simp only[e1,show((0:Int)==0)=true from rfl,cE,reduceIte]
  have hs:jO s=(s,(0,12)):=by unfold jO;rw[if_pos d1]
  rw[hs] at hk
  exact hk h G hH cU.refl (λg hg=>.inl hg)
 have e1:IntKind.u64.wrap ((s.height:Int)+1)=((s.height+1:Nat):Int):=by rw[gG (by omega) (by omega)];omega
 have g1:(((s.height+1:Nat):Int)==0)=false:=by simp;omega
 obtain⟨nv,bv,bl,h1,h2,h3,h4,h5,h6,h7,h8,h9⟩:=H.here
 have c0:dD h ⟨b,0,none⟩=some nv:=by simp[dD,h1]
 have c2:dD h ⟨b,0+2,none⟩=some bv:=by simp[dD,h1]
 have ln:=h3.len (t':=bT) fI.und
 have hbn:bl.length=s.blocks.length:=by rw[←h5,jC]
 rw[jC,hbn] at ln
 by_cases d2:4096≤s.blocks.length
 ·have g2:((4096:Int)≤(s.blocks.length:Int))=True:=eq_true (by omega)
  simp only[e1,g1,dK.f2,fI.load,c2,ln,g2,cE,reduceIte]
  have hs:jO s=(s,(0,2)):=by unfold jO;rw[if_neg d1,if_pos d2]
  rw[hs] at hk
  exact hk h G hH cU.refl (λg hg=>.inl hg)
 have g2:((4096:Int)≤(s.blocks.length:Int))=False:=eq_false (by omega)
 have l0:jS PG (buildSlice fI 0 #[])=some (.cells #[] cJ,λr=>pure (.slice (some ⟨r,0,none⟩) 0 0)):=by kernel_rfl
 simp only[e1,g1,dK.f0,dK.f2,cJ.load,fI.load,c0,c2,ln,g2,l0,cE,reduceIte]
 intro r hr'
 refine fT ?_
 try rw[cZ]
 have u1:dC h (h.set r (.cells #[] cJ)):=cU.new hr'
 have O1:eS (h.set r (.cells #[] cJ)) cJ 1 (.slice (some ⟨r,0,none⟩) 0 0) (([]:List (Value×List Pr)).map aEN) [r]:=eS.lit (n:=0) (aEN.rows []) dL (by simp) (by decide) rfl
 generalize h.set r (.cells #[] cJ)=h1' at *
 have f1:eP h [r]:=eP.one hr'
 refine aVp O1 (h3.ext u1) (λy hy=>(h4 y hy).1.isc) (by simp;omega) λv2 h2' F2 O2 u2 k2=>?_
 rw[wN] at O2
 have e2:dC h h2':=u1.fresh u2 f1
 have f2:eP h F2:=f1.grow u1 k2
 have hb2:=e2.get h1
 refine⟨by simp[dD,hb2],?_⟩
 have hnl:∃a n c,nv= .slice a n c:=by obtain⟨a,c,e,_⟩:=h2.here;exact⟨a,_,c,e⟩
 have l1:jS PG (buildSlice fI 1 #[(0,nv)])=some (.cells #[nv] cJ,λr=>pure (.slice (some ⟨r,0,none⟩) 1 1)):=by
  obtain⟨a,n,c,rfl⟩:=hnl
  kernel_rfl
 simp only[l1,cE,reduceIte]
 intro r3 hr3
 refine fT ?_
 try rw[cZ]
 have u3:dC h2' (h2'.set r3 (.cells #[nv] cJ)):=cU.new hr3
 have s3:fY (h2'.set r3 (.cells #[nv] cJ)) 1 (.slice (some ⟨r3,0,none⟩) 1 1) ([((nv:Value),s.now)].map aEN):=(eS.lit (n:=1) (aEN.rows [(nv,s.now)]) dL (by simp) (by decide) rfl).slR
 generalize h2'.set r3 (.cells #[nv] cJ)=h3' at *
 have e3:dC h h3':=e2.trans u3
 refine aVp (O2.ext u3) s3 (λy hy=>by simp only[fW] at hy;subst hy;exact h2.isc) (by simp;omega) λv5 h5' F5 O5 u5 k5=>?_
 have e5:dC h h5':=e3.fresh u5 f2
 have f5:eP h F5:=f2.grow e3 k5
 have hb5:=e5.get h1
 try simp only[dK.f2,cE,reduceIte]
 refine iY fI.und rfl hb5 (by simp) O5.slR.isc fI.info fI.size ?_
 have ew:(#[nv,.int .u64 ((s.height-(s.blocks.length-1):Nat):Int),bv]:Array Value).setIfInBounds (0+2) v5= #[nv,.int .u64 ((s.height-(s.blocks.length-1):Nat):Int),v5]:=rfl
 rw[ew]
 have u6:cU [b] h5' (h5'.set b (.cells #[nv,.int .u64 ((s.height-(s.blocks.length-1):Nat):Int),v5] dK (0,0))):=cU.set (by simp)
 have b6:(h5'.set b (.cells #[nv,.int .u64 ((s.height-(s.blocks.length-1):Nat):Int),v5] dK (0,0))) b=some (.cells #[nv,.int .u64 ((s.height-(s.blocks.length-1):Nat):Int),v5] dK (0,0)):=dL
 generalize h5'.set b (.cells #[nv,.int .u64 ((s.height-(s.blocks.length-1):Nat):Int),v5] dK (0,0))=h6' at *
 have hs:jO s=({s with blocks:=s.blocks++[s.now],height:=s.height+1},(s.height+1,0)):=by unfold jO;rw[if_neg d1,if_neg d2]
 rw[hs] at hk
 have uu:cU [b] h h6':=e5.upd.trans u6
 have hG:∀g∈G,g∉[b]:=λg hg=>by simp only[fW];rintro rfl;exact h8 hg
 have hF:∀g∈F5,g∉[b]:=λg hg=>by
  simp only[fW];rintro rfl
  have:=f5 _ hg
  rw[h1] at this;cases this
 have O6:=O5.upd u6 hF
 have hnew:vF h6' b {s with blocks:=s.blocks++[s.now],height:=s.height+1} (G++F5):=by
  refine⟨⟨nv,v5,bl++[(nv,s.now)],?_,h2.upd uu λa n c e=>hG _ (h6 a n c e),O6.slR,λx hx=>?_,by rw[qB,h5];rfl,λa n c e=>zLj _ (h6 a n c e),λa n c e=>zLk _ (aFs O6 a n c e),?_,λg hg=>?_⟩,?_⟩
  ·have eh:s.height+1-((s.blocks++[s.now]).length-1)=s.height-(s.blocks.length-1):=by
    simp only[jE,zLQ]
    omega
   show h6' b=some (.cells #[nv,.int .u64 ((s.height+1-((s.blocks++[s.now]).length-1):Nat):Int),v5] dK (0,0))
   rw[eh];exact b6
  ·rw[jJ] at hx
   rcases hx with hx|hx
   ·exact⟨(h4 x hx).1.upd uu λa n c e=>hG _ ((h4 x hx).2 a n c e),λa n c e=>zLj _ ((h4 x hx).2 a n c e)⟩
   ·simp only[fW] at hx
    subst hx
    exact⟨h2.upd uu λa n c e=>hG _ (h6 a n c e),λa n c e=>zLj _ (h6 a n c e)⟩
  ·intro hm
   rcases jJ.1 hm with hm|hm
   ·exact h8 hm
   ·exact hF _ hm (by simp)
  ·rcases jJ.1 hg with hg|hg
   ·obtain⟨o,ho⟩:=aGu.1 (h9 g hg)
    rw[uu.get ho (hG g hg)];simp
   ·exact O6.known g hg
  ·refine⟨hok.up,hok.fit,hok.few,λb hb=>?_,?_,?_,?_,?_⟩
   ·simp only[jJ,fW] at hb
    rcases hb with hb|rfl
    ·exact hok.blk b hb
    ·exact⟨hok.up,hok.fit,hok.few⟩
   ·simp
   ·simp only[jE,zLQ];omega
   ·simp only[jE,zLQ];omega
   ·show s.height+1<18446744073709551616
    omega
 refine aCl hnew ?_
 refine hk h6' (G++F5) hnew uu λg hg=>?_
 rcases jJ.1 hg with hg|hg
 ·exact .inl hg
 ·exact .inr (f5 g hg)
structure SAc where
 kind:Int
 key:Tx
 val:Tx
def SAc.cells(c:SAc):List Value:=[.int .i64 c.kind,.string (tx c.key),.string (tx c.val)]
def SAc.v(c:SAc):Value:=.agg c.cells.toArray
theorem SAc.rows(l:List SAc):Rows 3 (l.map SAc.cells):=λr hr=>by
 obtain⟨p,-,rfl⟩:=lI.1 hr;rfl
end Go.Proofs.YtcoajnpchhmgjaaGreatDoor
namespace Go.Proofs.YtcoajnpchhmgjaaGreatDoor
open Go Go.Sort Go.Shelf
def Pl.v(q:Pl):Value:=.agg q.cells.toArray
theorem Pl.isC(q:Pl):∀v∈q.cells,fK v=true:=by
 intro v hv
 simp only[Pl.cells,gZ,kW,or_false] at hv
 rcases hv with rfl|rfl<;>rfl
theorem aRA(x:Nat):cV PG (build dX #[(0,.int .u64 (x:Int))])=some (Pl.v ⟨(x:Int),0⟩):=by kernel_rfl
theorem Bx.place{h:PH}{r:Nat}{q:Pl}(B:Bx h r q.cells):cG PG h (loadAt dX (pT r 0))=some q.v:=dX.agg B (by show 0+2≤2;decide)
theorem aSm{h:PH}{c:Nat}{s:Ch}{F:List Nat}(H:iO c s h F){kk:cD}(hk:∀h',dC h h'->kk (Pl.v ⟨(s.first:Int),0⟩) h'):aT PG aCN #[pT c 0] h kk:=by
 apply aBO.call
 unfold aBO
 obtain⟨sp,m,cp,nv,bv,lk,P,perm,ok⟩:=H
 intro r1 hr1
 try rw[cZ]
 have u1:dC h (h.set r1 (.cells (dP PG dX) dX)):=cU.new hr1
 have l1:cG PG (h.set r1 (.cells (dP PG dX) dX)) (loadAt cA (pT c 1))=some (.int .u64 s.first):=Ch.load1 (P.cell.ext u1)
 simp only[eK.f1,l1,aRA,cE,reduceIte,cT,Nat.reduceAdd]
 refine dX.fill (vs:=Pl.cells ⟨(s.first:Int),0⟩) hr1 rfl (Pl.isC _) λh2 B2 u2=>?_
 simp only[B2.place,cE,reduceIte,cT,Nat.reduceAdd]
 exact hk h2 u2
end Go.Proofs.YtcoajnpchhmgjaaGreatDoor
