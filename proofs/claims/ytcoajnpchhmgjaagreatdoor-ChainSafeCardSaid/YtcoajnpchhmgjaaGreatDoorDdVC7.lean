/- The texts of this claim, put together. -/
import Derived.Test.YtcoajnpchhmgjaaGreatDoorDdVC6
import Derived.Test.YtcoajnpchhmgjaaGreatDoorCards
import Derived.Test.YtcoajnpchhmgjaaGreatDoorTie
import Derived.WalkKit
import Derived.ProofKit
set_option linter.unusedSimpArgs false
set_option linter.unusedVariables false
set_option linter.unusedSectionVars false
set_option maxRecDepth 100000
open Go.Instr (loadAt fieldAt indexAt extract buildSlice build)
namespace Go.Proofs.YtcoajnpchhmgjaaGreatDoor
open Go
theorem aVC(f0 f1 f2 f3 f4 f5:Value)(e0 e1 e2 e3 e4 e5:Int):iP PG (buildSlice kG 6 #[(0,.agg #[f0,.int .i64 e0]),(1,.agg #[f1,.int .i64 e1]),(2,.agg #[f2,.int .i64 e2]),(3,.agg #[f3,.int .i64 e3]),(4,.agg #[f4,.int .i64 e4]),(5,.agg #[f5,.int .i64 e5])])=some (.cells #[f0,.int .i64 e0,f1,.int .i64 e1,f2,.int .i64 e2,f3,.int .i64 e3,f4,.int .i64 e4,f5,.int .i64 e5] eO,λr=>pure (.slice (some ⟨r,0,none⟩) 6 6)):=by kernel_rfl
theorem aRo(L:List Pr)(p:Pr):(oV L p).length≤L.length+1:=by
 have:∀L:List Pr,(L.filter λq=>decide (q.k<p.k)).length+(L.filter λq=>decide (p.k<q.k)).length≤L.length:=by
  intro L
  induction L with
  | nil=>simp
  | cons a L ih=>
   by_cases h1:a.k<p.k
   ·have h2:¬p.k<a.k:=λh=>zLY _ (List.lt_trans h1 h)
    rw[List.filter_cons_of_pos (by simpa using h1),List.filter_cons_of_neg (by simpa using h2),wT,wT]
    omega
   ·by_cases h2:p.k<a.k
    ·rw[List.filter_cons_of_neg (by simpa using h1),List.filter_cons_of_pos (by simpa using h2),wT,wT]
     omega
    ·rw[List.filter_cons_of_neg (by simpa using h1),List.filter_cons_of_neg (by simpa using h2),wT]
     omega
 have h:=this L
 unfold oV
 rw[lH,wT]
 omega
theorem aO3(p:Pk):(aAv p).length≤64:=by
 unfold aAv aHZ
 split
 ·exact zLB (Nat.le_of_eq rfl) (show 32≤64 by decide)
 ·simp
noncomputable def qJ(s:Ch)(p:Pk)(pf:Tx)(x:Int):List (Int×Bool):=[(1,p.right&&(p.f==1-s.id)),(10,decide (IntKind.u64.wrap ((s.st.height:Int)+1)<p.t)),(4,!(jI s.st.now (jF 114 p.s.toNat)).isSome),(11,(lZ s.cl x).isSome),(9,aAM (qB s.cl x) pf (jF 99 p.s.toNat) (rB p)),(2,decide (s.st.now.length+2≤4096))]
def Ch.received(s:Ch)(p:Pk):Ch:=((s.put (jF 114 p.s.toNat) [1]).put (jF 97 p.s.toNat) (aAv p)).add ⟨2,p⟩
theorem aS1{h:PH}{c:Nat}{s:Ch}{F:List Nat}(hK:oA h)(H:jX c s h F)(h0F:0∉F){p:Pk}(w:p.wf){pf:Tx}{x:Int}(hl:s.nts.length<1000000){kk:eJ}
  (hbad:pZ s (qJ s p pf x)≠0->∀h',jX c s h' F->fE h h'->kk (.int .i64 (pZ s (qJ s p pf x))) h')
  (hk:pZ s (qJ s p pf x)=0->∀h' F',jX c (s.received p) h' F'->jZ h F h' F'->kk (.int .i64 0) h'):
  cR PG aDb #[pT c 0,p.v,.string (tx pf),.int .u64 x] h kk:=by
 apply wJ.call
 unfold wJ
 obtain⟨n,hn⟩:=zLm w.1
 have hn2:n<18446744073709551616:=by have:=w.2.1;omega
 intro r1 hr1
 try rw[eY]
 have u1:fE h (h.set r1 (.cells (Value.cells (pT c 0)) fO)):=eW.new hr1
 have B1:Bx (h.set r1 (.cells (Value.cells (pT c 0)) fO)) r1 [pT c 0]:=Bx.new
 generalize h.set r1 (.cells (Value.cells (pT c 0)) fO)=h1 at *
 intro r3 hr3
 try rw[eY]
 have u3:fE h1 (h1.set r3 (.cells (Value.cells p.v) bR)):=eW.new hr3
 have B3:Bx (h1.set r3 (.cells (Value.cells p.v) bR)) r3 p.cells:=Bx.new
 generalize h1.set r3 (.cells (Value.cells p.v) bR)=h3 at *
 intro r5 hr5
 try rw[eY]
 have u5:fE h3 (h3.set r5 (.cells (Value.cells (.string (tx pf))) cT)):=eW.new hr5
 have B5:Bx (h3.set r5 (.cells (Value.cells (.string (tx pf))) cT)) r5 [.string (tx pf)]:=Bx.new
 generalize h3.set r5 (.cells (Value.cells (.string (tx pf))) cT)=h5 at *
 have e5:=(u1.trans u3).trans u5
 have C1:=(B1.ext u3).ext u5
 have C3:=B3.ext u5
 have H5:=(jX.good c s).ext H e5
 have k1:h r1=none:=hr1
 have k3:h r3=none:=u1.none hr3
 have lc:∀{h'':PH},fE h5 h''->bT PG h'' (loadAt fO (pT r1 0))=some (pT c 0):=λv=>by rw[fO.load,(C1.ext v).cell];rfl
 have lpk:∀{h'':PH},fE h5 h''->bT PG h'' (loadAt bR (pT r3 0))=some p.v:=λv=>(C3.ext v).pk rfl
 have ls:∀{h'':PH},fE h5 h''->bT PG h'' (loadAt dT (pT r3 1))=some (.int .u64 (n:Int)):=λv=>by rw[dT.load,(C3.ext v).cell,←hn];rfl
 have lt:∀{h'':PH},fE h5 h''->bT PG h'' (loadAt dT (pT r3 2))=some (.int .u64 p.t):=λv=>by rw[dT.load,(C3.ext v).cell];rfl
 have lpf:∀{h'':PH},fE h5 h''->bT PG h'' (loadAt cT (pT r5 0))=some (.string (tx pf)):=λv=>by rw[cT.load,(B5.ext v).cell];rfl
 simp only[lc eW.refl,oU,eK,reduceIte,eX,Nat.reduceAdd]
 refine aKa (f:=λroot=>aAM root pf (jF 99 p.s.toNat) (rB p)) H5 rfl (λh' u root k' hk'=>?_) λh4 f1 f2 c1 c2 R1 R2 u4=>?_
 ·show cR PG aCb #[.string (tx root),pT r5 0,pT r3 0] h' k'
  apply tF.call
  unfold tF
  simp only[lpf u,lpk u,bR.f1,iG,ls u,eK,reduceIte,eX,Nat.reduceAdd]
  refine aLW hn2 λh6 u6=>?_
  refine⟨lpk (u.trans u6),lpf (u.trans u6),?_⟩
  refine aHe w (hK.ext ((e5.trans u).trans u6)) λh7 u7=>?_
  refine⟨lpf ((u.trans u6).trans u7),?_⟩
  refine aRj (hK.ext (((e5.trans u).trans u6).trans u7)) λh8 u8=>?_
  have:=hk' h8 ((u6.trans u7).trans u8)
  rw[hn] at this
  exact this
 have e4:=e5.trans u4
 simp only[eK,reduceIte,eX,Nat.reduceAdd]
 intro r13 hr13
 try rw[eY]
 have u6:fE h4 (h4.set r13 (.cells (fY PG eO) eO)):=eW.new hr13
 have Z13:=eO.zbox (h:=h4) (r:=r13)
 generalize h4.set r13 (.cells (fY PG eO) eO)=h6 at *
 intro r15 hr15
 try rw[eY]
 have u7:fE h6 (h6.set r15 (.cells (fY PG eO) eO)):=eW.new hr15
 have Z15:=eO.zbox (h:=h6) (r:=r15)
 have n1315:r13≠r15:=Z13.apart hr15
 have Y13:=Z13.ext u7
 generalize h6.set r15 (.cells (fY PG eO) eO)=h7 at *
 have k13:h4 r13=none:=hr13
 have k15:h4 r15=none:=u6.none hr15
 refine eO.put (vs:=[f1,.int .i64 11]) Y13 (o:=0) rfl (by show 0+2≤2;decide) (by simp only[jG,mD,or_false];rintro z (rfl|rfl);exact c1;rfl) λh8 B8 u8=>?_
 refine eO.put (vs:=[f2,.int .i64 9]) (Z15.upd u8 (by simpa using n1315.symm)) (o:=0) rfl (by show 0+2≤2;decide) (by simp only[jG,mD,or_false];rintro z (rfl|rfl);exact c2;rfl) λh9 B9 u9=>?_
 have e49:fE h4 h9:=((u6.trans u7).fresh u8 (gQ.one k13)).fresh u9 (gQ.one k15)
 have D13:=B8.upd u9 (by simpa using n1315)
 have v59:fE h5 h9:=u4.trans e49
 have H9:=(jX.good c s).ext H5 v59
 obtain⟨sp,m,cp,nv,bv,lk,P,perm,ok⟩:=H9
 have H9:jX c s h9 F:=⟨sp,m,cp,nv,bv,lk,P,perm,ok⟩
 have hid:=ok.id
 have w1:IntKind.i64.wrap (1-s.id)=1-s.id:=gD (by omega) (by omega)
 have l13:∀{h'':PH},fE h9 h''->bT PG h'' (loadAt eO (pT r13 0))=some (.agg #[f1,.int .i64 11]):=λv=>eO.agg (D13.ext v) (by show 0+2≤2;decide)
 have l15:∀{h'':PH},fE h9 h''->bT PG h'' (loadAt eO (pT r15 0))=some (.agg #[f2,.int .i64 9]):=λv=>eO.agg (B9.ext v) (by show 0+2≤2;decide)
 simp only[lc v59,lpk v59,gH.f1,iG,Ch.load5 P.cell,w1,oU,aJN,l13 eW.refl,l15 eW.refl,eK,reduceIte,eX,Nat.reduceAdd]
 refine aPn λh10 f0 c0 R0 u10=>?_
 have v510:=v59.trans u10
 refine⟨l15 u10,l13 u10,lc v510,?_⟩
 simp only[aVC,eK,reduceIte,eX,Nat.reduceAdd]
 intro r38 hr38
 refine iK ?_
 try rw[eY]
 obtain⟨rs,hrs⟩:∃rs:List RuV,rs=[(f0,1,p.right&&(p.f==1-s.id)),(.func (.func tB) #[] #[pT r3 0,pT r1 0],10,decide (IntKind.u64.wrap ((s.st.height:Int)+1)<p.t)),(.func (.func sT) #[] #[pT r1 0,pT r3 0],4,!(jI s.st.now (jF 114 p.s.toNat)).isSome),(f1,11,(lZ s.cl x).isSome),(f2,9,aAM (qB s.cl x) pf (jF 99 p.s.toNat) (rB p)),(.func (.func tR) #[] #[pT r1 0],2,decide (s.st.now.length+2≤4096))]:=⟨_,rfl⟩
 have ecells:(#[f0,.int .i64 1,.func (.func tB) #[] #[pT r3 0,pT r1 0],.int .i64 10,.func (.func sT) #[] #[pT r1 0,pT r3 0],.int .i64 4,f1,.int .i64 11,f2,.int .i64 9,.func (.func tR) #[] #[pT r1 0],.int .i64 2]:Array Value)=(rs.map nH).flatten.toArray:=by rw[hrs];rfl
 have ers:aL0 s rs=pZ s (qJ s p pf x):=by rw[aNY,hrs];rfl
 rw[ecells]
 have u11:fE h10 (h10.set r38 (.cells (rs.map nH).flatten.toArray eO)):=eW.new hr38
 have S11:iR (h10.set r38 (.cells (rs.map nH).flatten.toArray eO)) 2 (.slice (some ⟨r38,0,none⟩) 6 6) (rs.map nH):=(gU.lit (nH.rows rs) fP (by rw[hrs];simp) (by decide) (by simp)).slR
 generalize h10.set r38 (.cells (rs.map nH).flatten.toArray eO)=h11 at *
 have v511:=v510.trans u11
 have e411:=(e49.trans u10).trans u11
 have H11:=(jX.good c s).ext H5 v511
 have hrules:aG9 h11 rs:=λy hy=>by
  rw[hrs] at hy
  simp only[jG,mD,or_false] at hy
  rcases hy with rfl|rfl|rfl|rfl|rfl|rfl
  ·exact⟨c0,R0.ext u11⟩
  ·refine⟨rfl,λh' u k' hk'=>?_⟩
   show cR PG tB #[pT r3 0,pT r1 0] h' k'
   apply tP.call
   unfold tP
   obtain⟨sp,m,cp,nv,bv,lk,P,perm,ok⟩:=(jX.good c s).ext H11 u
   obtain⟨Fs,St,-,-⟩:=P.fSt
   simp only[lt (v511.trans u),lc (v511.trans u),gH.f0,iC.f0,bR.f2,iG,Ch.load0 P.cell,eK,reduceIte,eX,Nat.reduceAdd]
   refine aKZ St ?_
   refine⟨lt (v511.trans u),?_⟩
   simp only[eK,reduceIte,eX,Nat.reduceAdd]
   exact hk' h' eW.refl
  ·refine⟨rfl,λh' u k' hk'=>?_⟩
   show cR PG sT #[pT r1 0,pT r3 0] h' k'
   apply tC.call
   unfold tC
   obtain⟨sp,m,cp,nv,bv,lk,P,perm,ok⟩:=(jX.good c s).ext H11 u
   simp only[lc (v511.trans u),gH.f0,iC.f0,bR.f1,iG,Ch.load0 P.cell,ls (v511.trans u),eK,reduceIte,eX,Nat.reduceAdd]
   refine aI6 hn2 λh12 u12=>?_
   have P12:=kI.good.ext P u12
   refine⟨Ch.load0 P12.cell,lc ((v511.trans u).trans u12),?_⟩
   obtain⟨Fs,St,-,-⟩:=P12.fSt
   refine aQF St _ ?_
   simp only[eK,reduceIte,eX,Nat.reduceAdd]
   have:=hk' h12 u12
   rw[hn] at this
   exact this
  ·exact⟨c1,R1.ext e411⟩
  ·exact⟨c2,R2.ext e411⟩
  ·refine⟨rfl,λh' u k' hk'=>?_⟩
   show cR PG tR #[pT r1 0] h' k'
   apply aBP.call
   unfold aBP
   simp only[lc (v511.trans u),gH.f0,eK,reduceIte,eX,Nat.reduceAdd]
   exact aPT (n:=2) ((jX.good c s).ext H11 u) (by decide) (hk' h' eW.refl)
 refine aNC H11 S11 hrules (by rw[hrs];simp) λh12 u12=>?_
 rw[ers]
 have H12:=(jX.good c s).ext H11 u12
 have v512:=v511.trans u12
 have e12:=e5.trans v512
 unfold aDB
 by_cases he:pZ s (qJ s p pf x)=0
 case neg=>
  have q:(pZ s (qJ s p pf x)==0)=false:=by simpa using he
  simp only[jO,q,eK,reduceIte,eX,Nat.reduceAdd]
  exact hbad he h12 H12 e12
 obtain⟨-,hall⟩:=aK6 he (by
  intro y hy
  simp only[qJ,jG,mD,or_false] at hy
  rcases hy with rfl|rfl|rfl|rfl|rfl|rfl<;>simp)
 have broom:s.st.now.length+2≤4096:=by
  have:=hall (2,decide (s.st.now.length+2≤4096)) (by simp[qJ])
  simpa using this
 have q1:({data:=#[1]}:ByteArray)=tx [1]:=rfl
 simp only[he,jO,lc v512,gH.f0,bR.f1,iG,ls v512,q1,eK,reduceIte,eX,Nat.reduceAdd]
 refine aI6 hn2 λh13 u13=>?_
 refine⟨lc (v512.trans u13),?_⟩
 have H13:=(jX.good c s).ext H12 u13
 have v513:=v512.trans u13
 refine aNT H13 (by rw[wM];decide) (by rw[wM];decide) (by decide) (aMQ (n:=2) (by decide) broom) λh14 F14 H14 s14=>?_
 have nF:∀{r:Nat},h r=none->r∉F:=λhr hm=>(jX.good c s).known H _ hm hr
 have D1:=(C1.ext v513).upd s14.upd (nF k1)
 have D3:=(C3.ext v513).upd s14.upd (nF k3)
 have m1:r1∉F14:=λhm=>by
  rcases s14.grow _ hm with hx|hx
  ·exact nF k1 hx
  ·exact(C1.ext v513).known hx
 have m3:r3∉F14:=λhm=>by
  rcases s14.grow _ hm with hx|hx
  ·exact nF k3 hx
  ·exact(C3.ext v513).known hx
 have lc14:∀{h'':PH},fE h14 h''->bT PG h'' (loadAt fO (pT r1 0))=some (pT c 0):=λv=>by rw[fO.load,(D1.ext v).cell];rfl
 have lp14:∀{h'':PH},fE h14 h''->bT PG h'' (loadAt bR (pT r3 0))=some p.v:=λv=>(D3.ext v).pk rfl
 have ls14:bT PG h14 (loadAt dT (pT r3 1))=some (.int .u64 (n:Int)):=by rw[dT.load,D3.cell,←hn];rfl
 simp only[lc14 eW.refl,gH.f0,bR.f1,iG,ls14,lp14 eW.refl,eK,reduceIte,eX,Nat.reduceAdd]
 refine aLh hn2 λh15 u15=>?_
 refine⟨lp14 u15,lc14 u15,?_⟩
 have K14:oA h14:=by
  obtain⟨tt,fr,h0⟩:=hK.ext (e5.trans v513)
  exact⟨tt,fr,s14.upd.get h0 h0F⟩
 refine aNg w (K14.ext u15) λh16 u16=>?_
 have u1416:=u15.trans u16
 refine⟨lc14 u1416,?_⟩
 have H16:=(jX.good c _).ext H14 u1416
 have hlen:=aRo s.st.now ⟨jF 114 n,[1]⟩
 refine aNT H16 (by rw[wM];decide) (by rw[wM];decide) (aO3 _) (λ⟨_,hx⟩=>by
  have:4096≤(oV s.st.now ⟨jF 114 n,[1]⟩).length:=hx
  omega) λh17 F17 H17 s17=>?_
 have E1:=(D1.ext u1416).upd s17.upd m1
 have E3:=(D3.ext u1416).upd s17.upd m3
 have lc17:bT PG h17 (loadAt fO (pT r1 0))=some (pT c 0):=by rw[fO.load,E1.cell];rfl
 have lp17:bT PG h17 (loadAt bR (pT r3 0))=some p.v:=E3.pk rfl
 simp only[lc17,lp17,eK,reduceIte,eX,Nat.reduceAdd]
 refine aMA H17 2 w hl λh18 F18 H18 s18=>?_
 have es:((s.put (jF 114 n) [1]).put (jF 97 n) (aAv p)).add ⟨2,p⟩=s.received p:=by unfold Ch.received;rw[hn];rfl
 rw[es] at H18
 exact hk he h18 F18 H18 (((((jZ.ext (e5.trans v513)).trans s14).trans (jZ.ext u1416)).trans s17).trans s18)
def Ch.told(s:Ch)(x:Int)(root:Tx):Ch:={s with cl:=(aAw s.cl ⟨x,tx root⟩).2}
theorem aQt{h:PH}{c:Nat}{s:Ch}{F:List Nat}(H:jX c s h F)(x:Int)(root:Tx){kk:eJ}
  (hk:∀h' F',jX c (s.told x root) h' F'->jZ h F h' F'->kk (.int .i64 (aAw s.cl ⟨x,tx root⟩).1) h'):cR PG aCG #[pT c 0,.int .u64 x,.string (tx root)] h kk:=by
 apply aBG.call
 unfold aBG
 obtain⟨sp,m,cp,nv,bv,lk,P,perm,ok⟩:=H
 simp only[gH.f2,iG,Ch.load6 P.cell,eK,reduceIte,eX,Nat.reduceAdd]
 obtain⟨Fc,⟨hs,C⟩,hFc,back⟩:=P.fCli
 refine aWN C ⟨x,tx root⟩ λh1 hs1 F1 C1 u1 g1=>?_
 obtain⟨F2,P2,s2⟩:=back (aCn cp (aAw s.cl ⟨x,tx root⟩).2) h1 F1 ⟨hs1,C1⟩ ⟨u1,g1⟩
 exact hk h1 F2 ⟨sp,m,cp,nv,bv,lk,P2,perm,⟨ok.id,ok.len,ok.first,ok.seq,ok.seq1,ok.nts,ok.wf,ok.bwf⟩⟩ s2
def aEt(s:St)(key:Tx)(x:Nat):Tx×Int:=match tY s x with
 | none=>([],3)
 | some b=>if (jI b key).isSome then mG (kK b key) else if 1≤key.length∧key.length≤16 then mG (kK b key) else([],1)
theorem St.Ok.mok{s:St}(H:s.Ok){x:Nat}{b:List Pr}(hb:tY s x=some b):MOk b:=by
 have hm:b∈s.blocks:=uJ (aJR hb).2
 obtain⟨h1,h2,h3⟩:=H.blk b hm
 exact⟨h1,h3,λp hp=>by have:=h2 p hp;unfold aNB at this;omega,λp hp=>by have:=h2 p hp;unfold aNB at this;omega⟩
theorem aSi{h:PH}{c:Nat}{s:Ch}{F:List Nat}(hK:oA h)(H:jX c s h F)(key:Tx){x:Nat}(hx:x<18446744073709551616){kk:eJ}
  (hk:∀h',fE h h'->kk (.tuple #[.string (tx (aEt s.st key x).1),.int .i64 (aEt s.st key x).2]) h'):cR PG aCq #[pT c 0,.string (tx key),.int .u64 (x:Int)] h kk:=by
 apply aBv.call
 unfold aBv
 obtain⟨sp,m,cp,nv,bv,lk,P,perm,ok⟩:=H
 have hst:=P.okst
 simp only[gH.f0,iC.f0,Ch.load0 P.cell,eK,reduceIte,eX,Nat.reduceAdd]
 obtain⟨Fs,S,-,-⟩:=P.fSt
 have q0:({data:=#[]}:ByteArray)=tx []:=rfl
 unfold aEt at hk
 refine aXG S x hx (λe v h1 F1 O1 f1 u1=>?_) (λb v h1 F1 e O1 f1 u1=>?_)
 ·rw[e] at hk
  have q:((3:Int) !=0)=true:=by decide
  simp only[lR,q,q0,eK,reduceIte,eX,Nat.reduceAdd]
  exact hk h1 u1
 ·rw[e] at hk
  simp only at hk
  have M:=hst.mok e
  have B1:=O1.slR
  simp only[lR,eK,reduceIte,eX,Nat.reduceAdd]
  -- the end
  have fin:∀{h4:PH} {ab:Bool} {v4:Value} {r:Nat},fE h1 h4->Bx h4 r [.bool ab,v4]->oN h1 h4 v4 (kK b key).lv->ab=(kK b key).ab->(∀h',fE h h'->kk (.tuple #[.string (tx (mG (kK b key)).1),.int .i64 (mG (kK b key)).2]) h')->qF kk (.int .i64 0) (pT r 0) h4:=by
   intro h4 ab v4 r u4 B4 L4 eab hk
   unfold qF
   have l4:bT PG h4 (loadAt eH (pT r 0))=some (Pf.val ab v4):=eH.agg B4 (by show 0+2≤2;decide)
   simp only[lR,l4,eK,reduceIte,eX,Nat.reduceAdd]
   obtain⟨l,F',el,O,-,L⟩:=L4.here
   have epf:(⟨ab,l.map (·.1)⟩:Pf)=kK b key:=by rw[el,eab]
   have hpf:=aIj M key
   refine aRt O.slR L.lfs (by
    have:l.length=(kK b key).lv.length:=by rw[←el];simp
    have:=hpf.1;omega) (λy hy=>by
    have hm:y.1∈(kK b key).lv:=by rw[←el];exact zL4 hy
    obtain⟨j,hj,ej⟩:=hpf.2 _ hm
    have:=(aNb M hj).m
    rw[ej];omega) λh5 u5=>?_
   rw[epf]
   simp only[eK,reduceIte,eX,Nat.reduceAdd]
   exact hk h5 ((u1.trans u4).trans u5)
  refine aRa M (hK.ext u1) B1 (λhno h2 u2=>?_) (λhyes h2 v2 L2 u2=>?_)
  ·have hns:(jI b key).isSome=false:=by rw[hno];rfl
   rw[hns] at hk
   simp only[zLr,if_false] at hk
   simp only[eK,reduceIte,eX,Nat.reduceAdd]
   intro r14 hr14
   try rw[eY]
   refine eH.fill (vs:=[.bool false,.slice none 0 0]) hr14 rfl (by simp[iF]) λh3 B3 u3=>?_
   have q:((3:Int) !=0)=true:=by decide
   have e3:=u2.trans u3
   simp only[lR,q,eK,reduceIte,eX,Nat.reduceAdd]
   have bad:∀{h4:PH} {e:Int},fE h3 h4->e≠0->(∀h',fE h h'->kk (.tuple #[.string (tx []),.int .i64 e]) h')->eZ PG (fQ eH (pT r14 0) (Pf.val false (.slice none 0 0))) h4 λv23 h24=>qF kk (.int .i64 e) (pT r14 0) h24:=by
    intro h4 e u4 hne hk
    refine eH.put (vs:=[.bool false,.slice none 0 0]) (B3.ext u4) (o:=0) rfl (by show 0+2≤2;decide) (by simp[iF]) λh5 B5 u5=>?_
    unfold qF
    have q:(e !=0)=true:=by simpa using hne
    simp only[lR,q,q0,eK,reduceIte,eX,Nat.reduceAdd]
    exact hk h5 (((u1.trans e3).trans u4).fresh u5 (gQ.one ((u1.trans u2).none hr14)))
   refine aRe M ((hK.ext u1).ext e3) (B1.ext e3) (λhb h4 u4=>?_) (λhs h4 u4=>?_) (λh1' h2' _ h4 v4 L4 u4=>?_)
   ·rw[if_neg hb] at hk
    simp only[eK,reduceIte,eX,Nat.reduceAdd]
    exact bad u4 (by decide) hk
   ·rw[hns] at hs;cases hs
   ·rw[if_pos ⟨h1',h2'⟩] at hk
    simp only[eK,reduceIte,eX,Nat.reduceAdd]
    refine eH.put (vs:=[.bool true,v4]) (B3.ext u4) (o:=0) rfl (by show 0+2≤2;decide) (by
     have:=L4.isc
     simp[iF];exact this) λh5 B5 u5=>?_
    have hab:(kK b key).ab=true:=by
     unfold kK
     rw[if_neg (by rw[hns];decide)]
     split
     ·rfl
     ·split
      ·rfl
      ·split<;>rfl
    have L5:oN h3 h5 v4 (kK b key).lv:=L4.upd u5 (λb hb=>by simp only[iQ] at hb;rw[hb];exact B3.known)
    exact fin ((e3.trans u4).fresh u5 (gQ.one (u2.none hr14))) B5 (L5.of e3) hab.symm hk
  ·rw[hyes] at hk
   simp only[if_true] at hk
   simp only[eK,reduceIte,eX,Nat.reduceAdd]
   intro r14 hr14
   try rw[eY]
   refine eH.fill (vs:=[.bool false,v2]) hr14 rfl (by
    have:=L2.isc
    simp[iF];exact this) λh3 B3 u3=>?_
   have epf:kK b key=⟨false,[lB b (jC b key)]⟩:=by unfold kK;rw[if_pos hyes]
   exact fin (u2.trans u3) B3 (by rw[epf];exact L2.upd u3 (λb hb=>by cases hb)) (by rw[epf]) hk
def Ch.committed(s:Ch):Ch:=if (lF s.st).2.2=0 then {s with st:=(lF s.st).1,blk:=s.blk++[s.nts],nts:=[]} else s
theorem aQO(a:Option Addr)(n c:Nat):iP PG (buildSlice gV 1 #[(0,.slice a n c)])=some (.cells #[.slice a n c] fS,λr=>pure (.slice (some ⟨r,0,none⟩) 1 1)):=by kernel_rfl
theorem aFc{s:St}(h:(lF s).2.2≠0):(lF s).1=s:=by
 unfold lF at h ⊢
 split
 ·rfl
 ·rename_i h1
  rw[if_neg h1] at h
  split
  ·rfl
  ·rename_i h2
   rw[if_neg h2] at h
   exact absurd rfl h
theorem aHY{s:St}(h:(lF s).2.2=0):(lF s).1= {s with blocks:=s.blocks++[s.now],height:=s.height+1}∧(lF s).2.1=s.height+1:=by
 unfold lF at h ⊢
 split
 ·rename_i h1;rw[if_pos h1] at h;cases h
 ·rename_i h1
  rw[if_neg h1] at h
  split
  ·rename_i h2;rw[if_pos h2] at h;cases h
  ·exact⟨rfl,rfl⟩
theorem aM1{h:PH}{c:Nat}{s:Ch}{F:List Nat}(hK:oA h)(H:jX c s h F){kk:eJ}
  (hk:∀h' F',jX c s.committed h' F'->jZ h F h' F'->kk (.tuple #[.int .u64 ((lF s.st).2.1:Int),.int .i64 (lF s.st).2.2]) h'):cR PG yJ #[pT c 0] h kk:=by
 apply tO.call
 unfold tO aBn
 obtain⟨sp,m,cp,nv,bv,lk,P,perm,ok⟩:=H
 have hst:=P.okst
 simp only[gH.f0,iC.f0,Ch.load0 P.cell,eK,reduceIte,eX,Nat.reduceAdd]
 obtain⟨Fs,S,hFs,back⟩:=P.fSt
 refine aRs hK S λh1 F1 S1 u1 g1=>?_
 obtain⟨F2,P2,s2⟩:=back (stA sp (lF s.st).1) h1 F1 S1 ⟨u1,g1⟩
 unfold Ch.committed at hk
 by_cases he:(lF s.st).2.2=0
 case neg=>
  have q:((lF s.st).2.2==0)=false:=by simpa using he
  rw[if_neg he] at hk
  simp only[jO,q,eK,reduceIte,eX,Nat.reduceAdd]
  refine hk h1 F2 ⟨sp,m,cp,nv,bv,lk,?_,perm,ok⟩ s2
  rw[aFc he] at P2
  exact P2
 have q:((lF s.st).2.2==0)=true:=by simpa using he
 rw[if_pos he] at hk
 obtain⟨ec,-⟩:=aHY he
 have P2:kI c (s.cells sp bv nv m cp) sp (lF s.st).1 m lk cp s.cl nv s.nts bv s.blk h1 F2:=P2
 obtain⟨Ft,⟨Fn,Fb',rfl,On,⟨bl,Fb,G,Ob,Sb,ebl,rfl,hG⟩,hd⟩,hFt,back2⟩:=P2.fTwo
 have On:gU h1 iO 5 nv (s.nts.map Nt.cells) Fn:=On
 obtain⟨na,nc,env,-⟩:=On.slR.here
 rw[kQ] at env
 have e2:=P2.cell
 simp only[jO,q,gH.f0,iC.f2,iC.f3,iG,Ch.load2 P2.cell,Ch.load3 P2.cell,eK,reduceIte,eX,Nat.reduceAdd]
 rw[env]
 simp only[aQO,eK,reduceIte,eX,Nat.reduceAdd]
 rw[←env]
 intro r18 hr18
 refine iK ?_
 try rw[eY]
 have u3:fE h1 (h1.set r18 (.cells #[nv] fS)):=eW.new hr18
 have s3:iR (h1.set r18 (.cells #[nv] fS)) 1 (.slice (some ⟨r18,0,none⟩) 1 1) ([(nv,s.nts)].map aJ1):=(gU.lit (aJ1.rows [(nv,s.nts)]) fP (by simp) (by decide) (by simp[aJ1])).slR
 generalize h1.set r18 (.cells #[nv] fS)=h3 at *
 have hbl:bl.length≤4096:=by
  have h1:=hst.h2
  have h2:=ok.len
  have h3:bl.length=s.blk.length:=by rw[←ebl];simp
  omega
 refine kU gV.und gV.und fS.info fS.size fS.bytes fS.zero rfl (by decide) (Ob.ext u3) s3 (λr hr u hu=>by
  obtain⟨y,hy,rfl⟩:=mT.1 hr
  simp only[iQ] at hy
  subst hy
  simp only[aJ1,iQ] at hu
  subst hu
  exact On.slR.isc) (by simp;omega) ?_
 intro v4 h4 F4 O4 u4 g4 _
 rw[←rL] at O4
 have nFb:∀b∈Fn,b∉Fb:=λb hb hb'=>hd b hb (by simp[hb'])
 have On4:gU h4 iO 5 nv (s.nts.map Nt.cells) Fn:=(On.ext u3).upd u4 nFb
 have A4:aAx v4 (s.blk++[s.nts]) h4 (F4++(Fn++G)):=by
  refine⟨bl++[(nv,s.nts)],F4,Fn++G,O4,λx hx=>?_,by rw[rL,ebl];rfl,rfl,λg hg=>?_⟩
  ·rcases kR.1 hx with hx|hx
   ·refine⟨((Sb x hx).1.ext u3).upd u4 λa n c ev=>(hG _ ((Sb x hx).2 a n c ev)).1,λa n c ev=>?_⟩
    have:=(Sb x hx).2 a n c ev
    simp[this]
   ·simp only[iQ] at hx
    subst hx
    refine⟨On4.slR,λa n c ev=>?_⟩
    have:=aFk On a n c ev
    simp[this]
  ·rcases kR.1 hg with hg|hg
   ·refine⟨λhx=>?_,On4.known g hg⟩
    rcases g4 g hx with hx|hx
    ·exact nFb g hg hx
    ·exact(On.ext u3).known g hg hx
   ·obtain⟨y1,y2⟩:=hG g hg
    obtain⟨o,ho⟩:=aGt.1 y2
    have h3g:=u3.get ho
    refine⟨λhx=>?_,by rw[u4.get h3g y1];simp⟩
    rcases g4 g hx with hx|hx
    ·exact y1 hx
    ·rw[hx] at h3g;cases h3g
 have st4:jZ h1 (Fn++(Fb++G)) h4 (F4++(Fn++G)):=by
  refine⟨λb o hb hn=>u4 b o (u3.get hb) (λhm=>hn (by simp[hm])),λb hb=>?_⟩
  rcases kR.1 hb with hb|hb
  ·rcases g4 b hb with hx|hx
   ·exact .inl (by simp[hx])
   ·exact .inr (u3.none hx)
  ·rcases kR.1 hb with hb|hb
   ·exact .inl (by simp[hb])
   ·exact .inl (by simp[hb])
 have T4:(gF (wY iO 5 (.slice none 0 0) (([]:List Nt).map Nt.cells)) (aAx v4 (s.blk++[s.nts]))) h4 ([]++(F4++(Fn++G))):=gF.mk (gU.nil) A4 (λb hb=>by cases hb)
 rw[yB] at T4
 obtain⟨F5,P5,s5⟩:=back2 _ h4 _ T4 st4
 have P5:kI c (s.cells sp bv nv m cp) sp (lF s.st).1 m lk cp s.cl (.slice none 0 0) [] v4 (s.blk++[s.nts]) h4 F5:=P5
 try simp only[gH.f0,iC.f2,iG,eK,reduceIte,eX,Nat.reduceAdd]
 obtain⟨Fb6,⟨rfl,B6⟩,hF6,back3⟩:=P5.fBox
 refine gV.put B6 (o:=2) (by show 2<8;decide) O4.slR.isc λh6 B6' u6=>?_
 try simp only[gH.f0,iC.f3,iG,eK,reduceIte,eX,Nat.reduceAdd]
 refine fS.put B6' (o:=3) (by show 3<8;decide) rfl λh7 B7 u7=>?_
 have u67:eW [c] h4 h7:=u6.trans u7
 obtain⟨F7,P7,s7⟩:=back3 (rH c (s.cells sp v4 (.slice none 0 0) m cp)) h7 [c] ⟨rfl,B7⟩ ⟨u67,λb hb=>.inl hb⟩
 refine hk h7 F7 ⟨sp,m,cp,.slice none 0 0,v4,lk,P7,?_,⟨ok.id,?_,?_,ok.seq,ok.seq1,by simp,by simp,?_⟩⟩ ((s2.trans s5).trans s7)
 ·show lk.Perm (lF s.st).1.now
  rw[ec];exact perm
 ·show(s.blk++[s.nts]).length=(lF s.st).1.blocks.length
  rw[ec,lH,lH,ok.len];rfl
 ·show s.first+((s.blk++[s.nts]).length-1)=(lF s.st).1.height
  have h1:=ok.len
  have h2:=ok.first
  have h3:=hst.h1
  rw[ec,lH]
  show s.first+(s.blk.length+1-1)=s.st.height+1
  omega
 ·intro b hb
  rcases kR.1 hb with hb|hb
  ·exact ok.bwf b hb
  ·simp only[iQ] at hb
   subst hb
   exact⟨ok.nts,ok.wf⟩
def Ch.new(id:Int)(n seq:Nat):Ch:=⟨id,⟨[],[[]],n⟩,n,[[]],[],[],seq⟩
theorem aX8(sp r m n:Nat):aT PG (build iC #[(0,pT sp 0),(1,.int .u64 (n:Int)),(2,.slice (some ⟨r,0,none⟩) 1 1),(4,.map (some m))])=some (.agg #[pT sp 0,.int .u64 (n:Int),.slice (some ⟨r,0,none⟩) 1 1,.slice none 0 0,.map (some m)]):=by kernel_rfl
theorem aYA(sp r m cp n seq:Nat)(id:Int):aT PG (build gH #[(0,.agg #[pT sp 0,.int .u64 (n:Int),.slice (some ⟨r,0,none⟩) 1 1,.slice none 0 0,.map (some m)]),(1,.int .i64 id),(2,pT cp 0),(3,.int .u64 (seq:Int))])=some (.agg ((Ch.new id n seq).cells sp (.slice (some ⟨r,0,none⟩) 1 1) (.slice none 0 0) m cp).toArray):=by kernel_rfl
theorem ms1:∃zs:Array Value,iP PG (Instr.makeSlice gV (.int .i64 1) (.int .i64 1))=some (.cells zs fS (0,0),λr=>pure (.slice (some ⟨r,0,none⟩) 1 1))∧zs.toList=[.slice none 0 0]:=by
 obtain⟨zs,h1,h2⟩:=aEL (P:=PG) (n:=1) gV.und fS.info fS.size fS.bytes fS.zero rfl (by decide) (by decide) (by decide)
 exact⟨zs,h1,by rw[h2];rfl⟩
theorem aNf{h:PH}(hK:oA h)(id:Int){n seq:Nat}(hn:n<18446744073709551616)(hs:seq<18446744073709551616){kk:eJ}
  (hbad:(id<0∨1<id∨seq=0)->kk (.tuple #[.pointer none,.int .i64 1]) h)
  (hk:¬(id<0∨1<id∨seq=0)->∀h' c F,jX c (Ch.new id n seq) h' F->gQ h F->fE h h'->kk (.tuple #[pT c 0,.int .i64 0]) h'):
  cR PG aH7 #[.int .i64 id,.int .u64 (n:Int),.int .u64 (seq:Int)] h kk:=by
 apply aFr.call
 unfold aFr
 by_cases c1:id<0
 ·have g1:=eq_true c1
  simp only[g1,eK,reduceIte,eX,Nat.reduceAdd]
  exact hbad (.inl c1)
 have g1:=eq_false c1
 by_cases c2:1<id
 ·have g2:=eq_true c2
  simp only[g1,g2,eK,reduceIte,eX,Nat.reduceAdd]
  exact hbad (.inr (.inl c2))
 have g2:=eq_false c2
 by_cases c3:seq=0
 ·have g3:((seq:Int)==0)=true:=by rw[c3];rfl
  simp only[g1,g2,jO,g3,eK,reduceIte,eX,Nat.reduceAdd]
  exact hbad (.inr (.inr c3))
 have g3:((seq:Int)==0)=false:=by rw[beq_eq_false_iff_ne];omega
 have hk:=hk (by omega)
 simp only[g1,g2,jO,g3,eK,reduceIte,eX,Nat.reduceAdd]
 refine aTD n hn hK λsp h1 F1 S1 f1 u1=>?_
 refine aVa λcp h2 F2 C2 u2 f2=>?_
 obtain⟨zs,m1,m2⟩:=ms1
 simp only[m1,aEV,eK,reduceIte,eX,Nat.reduceAdd]
 intro r22 hr22
 refine iK ?_
 try rw[eY]
 have u3:fE h2 (h2.set r22 (.cells zs fS (0,0))):=eW.new hr22
 have O3:gU (h2.set r22 (.cells zs fS (0,0))) fS 1 (.slice (some ⟨r22,0,none⟩) 1 1) ([(Value.slice none 0 0,([]:List Nt))].map aJ1) [r22]:=gU.lit (aJ1.rows _) fP (by simp) (by decide) (by rw[m2];rfl)
 generalize h2.set r22 (.cells zs fS (0,0))=h3 at *
 try simp only[aEV,eK,reduceIte,eX,Nat.reduceAdd]
 intro r26 hr26
 refine iK ?_
 try rw[eY]
 have u4:fE h3 (h3.set r26 (.map #[] 0)):=eW.new hr26
 have M4:aNF (h3.set r26 (.map #[] 0)) r26 []:=kE.new
 generalize h3.set r26 (.map #[] 0)=h4 at *
 simp only[aX8,aYA,eK,reduceIte,eX,Nat.reduceAdd]
 intro r32 hr32
 try rw[eY]
 have u5:fE h4 (h4.set r32 (.cells (Value.cells (.agg ((Ch.new id n seq).cells sp (.slice (some ⟨r22,0,none⟩) 1 1) (.slice none 0 0) r26 cp).toArray)) gH)):=eW.new hr32
 have B5:Bx (h4.set r32 (.cells (Value.cells (.agg ((Ch.new id n seq).cells sp (.slice (some ⟨r22,0,none⟩) 1 1) (.slice none 0 0) r26 cp).toArray)) gH)) r32 ((Ch.new id n seq).cells sp (.slice (some ⟨r22,0,none⟩) 1 1) (.slice none 0 0) r26 cp):=Bx.new
 generalize h4.set r32 (.cells (Value.cells (.agg ((Ch.new id n seq).cells sp (.slice (some ⟨r22,0,none⟩) 1 1) (.slice none 0 0) r26 cp).toArray)) gH)=h5 at *
 have e25:=(u3.trans u4).trans u5
 have A:aAx (.slice (some ⟨r22,0,none⟩) 1 1) [[]] h5 [r22]:=by
  refine⟨[(Value.slice none 0 0,[])],[r22],[],(O3.ext u4).ext u5,λx hx=>?_,rfl,rfl,λg hg=>by cases hg⟩
  simp only[iQ] at hx
  subst hx
  exact⟨(gU.nil (e:=iO) (size:=5)).slR,λa n c e=>by cases e⟩
 have k22:∀b∈F2,b≠r22:=λb hb e=>C2.known b hb (e▸hr22)
 have k22':∀b∈F1,b≠r22:=λb hb e=>by
  have:=tX.known (S1.ext u2) b hb
  rw[e] at this;exact this hr22
 have k12:∀b∈F1,b∉F2:=λb hb hb'=>S1.known b hb (f2 b hb')
 have k26a:∀b∈F1,b≠r26:=λb hb e=>by
  have:=tX.known ((S1.ext u2).ext u3) b hb
  rw[e] at this;exact this hr26
 have k26b:∀b∈F2,b≠r26:=λb hb e=>(C2.ext u3).known b hb (e▸hr26)
 have k26c:r22≠r26:=λe=>by
  have:=O3.known r22 (by simp)
  rw[e] at this;exact this hr26
 have k32a:∀b∈F1,b≠r32:=λb hb e=>by
  have:=tX.known (((S1.ext u2).ext u3).ext u4) b hb
  rw[e] at this;exact this hr32
 have k32b:∀b∈F2,b≠r32:=λb hb e=>((C2.ext u3).ext u4).known b hb (e▸hr32)
 have k32c:r22≠r32:=λe=>by
  have:=(O3.ext u4).known r22 (by simp)
  rw[e] at this;exact this hr32
 have k32d:r26≠r32:=λe=>by
  have:=kE.known M4
  rw[e] at this;exact this hr32
 have T5:(gF (wY iO 5 (.slice none 0 0) (([]:List Nt).map Nt.cells)) (aAx (.slice (some ⟨r22,0,none⟩) 1 1) [[]])) h5 ([]++[r22]):=gF.mk gU.nil A (λb hb=>by cases hb)
 have T4:(gF (aCn cp []) (gF (wY iO 5 (.slice none 0 0) (([]:List Nt).map Nt.cells)) (aAx (.slice (some ⟨r22,0,none⟩) 1 1) [[]]))) h5 (F2++([]++[r22])):=gF.mk ⟨[],C2.ext e25⟩ T5 (λb hb=>by simpa using k22 b hb)
 have T3:(gF (aDE r26 []) (gF (aCn cp []) (gF (wY iO 5 (.slice none 0 0) (([]:List Nt).map Nt.cells)) (aAx (.slice (some ⟨r22,0,none⟩) 1 1) [[]])))) h5 ([r26]++(F2++([]++[r22]))):=gF.mk ⟨rfl,kE.ext M4 u5⟩ T4 (λb hb=>by
  simp only[iQ] at hb
  subst hb
  simp only[yB,kR,iQ,not_or]
  exact⟨λhx=>k26b b hx rfl,λe=>k26c e.symm⟩)
 have T2:(gF (stA sp ⟨[],[[]],n⟩) (gF (aDE r26 []) (gF (aCn cp []) (gF (wY iO 5 (.slice none 0 0) (([]:List Nt).map Nt.cells)) (aAx (.slice (some ⟨r22,0,none⟩) 1 1) [[]]))))) h5 (F1++([r26]++(F2++([]++[r22])))):=gF.mk ((S1.ext u2).ext e25) T3 (λb hb=>by
  simp only[yB,kR,iQ,not_or]
  exact⟨k26a b hb,k12 b hb,k22' b hb⟩)
 have T1:kI r32 ((Ch.new id n seq).cells sp (.slice (some ⟨r22,0,none⟩) 1 1) (.slice none 0 0) r26 cp) sp ⟨[],[[]],n⟩ r26 [] cp [] (.slice none 0 0) [] (.slice (some ⟨r22,0,none⟩) 1 1) [[]] h5 ([r32]++(F1++([r26]++(F2++([]++[r22]))))):=gF.mk ⟨rfl,B5⟩ T2 (λb hb=>by
  simp only[iQ] at hb
  subst hb
  simp only[yB,kR,iQ,not_or]
  exact⟨λhx=>k32a b hx rfl,λe=>k32d e.symm,λhx=>k32b b hx rfl,λe=>k32c e.symm⟩)
 refine hk h5 r32 _ ⟨sp,r26,cp,.slice none 0 0,_,[],T1,List.Perm.refl _,⟨by show id=0∨id=1;omega,rfl,rfl,hs,by show 1≤seq;omega,by show 0≤_;omega,(λx hx=>by cases hx),(λb hb=>?_)⟩⟩ ?_ ((u1.trans u2).trans e25)
 ·have:b=[]:=by simpa[Ch.new] using hb
  subst this
  exact⟨by simp,by simp⟩
 ·intro b hb
  simp only[yB,kR,iQ] at hb
  rcases hb with rfl|hb|rfl|hb|rfl
  ·exact((u1.trans u2).trans (u3.trans u4)).none hr32
  ·exact f1 b hb
  ·exact((u1.trans u2).trans u3).none hr26
  ·exact u1.none (f2 b hb)
  ·exact(u1.trans u2).none hr22
end Go.Proofs.YtcoajnpchhmgjaaGreatDoor
namespace Go.Proofs.YtcoajnpchhmgjaaGreatDoor
open Go Bld
structure Cut(L:List Pr)(k:Tx)(A M B:List Pr):Prop where
 eq:L=A++(M++B)
 lo:∀p∈A,p.k<k
 hi:∀p∈B,k<p.k
 mid:M=[]∨∃p,M=[p]∧p.k=k
theorem rG.cut(k:Tx):∀{L:List Pr},rG L->∃A M B,Cut L k A M B
 | [],_=>⟨[],[],[],rfl,by simp,by simp,.inl rfl⟩
 | p::L,h=>by
  unfold rG at h
  rw[List.pairwise_cons] at h
  obtain⟨h1,h2⟩:=h
  rcases aGw p.k k with e|e|e
  ·obtain⟨A,M,B,c⟩:=rG.cut k h2
   refine⟨p::A,M,B,by rw[c.eq];rfl,λq hq=>?_,c.hi,c.mid⟩
   rcases jG.1 hq with rfl|hq
   ·exact e
   ·exact c.lo q hq
  ·exact⟨[],[p],L,rfl,by simp,λq hq=>by rw[←e];exact h1 q hq,.inr ⟨p,rfl,e⟩⟩
  ·refine⟨[],[],p::L,rfl,by simp,λq hq=>?_,.inl rfl⟩
   rcases jG.1 hq with rfl|hq
   ·exact e
   ·exact List.lt_trans e (h1 q hq)
theorem Cut.set{L A M B:List Pr}{k v:Tx}(c:Cut L k A M B)(h:rG L):oV L ⟨k,v⟩=A++⟨k,v⟩::B:=by
 unfold oV
 have fA:A.filter (λq=>decide (q.k<k))=A:=aL5.2 λp hp=>by simpa using c.lo p hp
 have fA2:A.filter (λq=>decide (k<q.k))=[]:=List.filter_eq_nil_iff.2 λp hp=>by simpa using List.lt_asymm (c.lo p hp)
 have fB:B.filter (λq=>decide (k<q.k))=B:=aL5.2 λp hp=>by simpa using c.hi p hp
 have fB2:B.filter (λq=>decide (q.k<k))=[]:=List.filter_eq_nil_iff.2 λp hp=>by simpa using List.lt_asymm (c.hi p hp)
 have fM:M.filter (λq=>decide (q.k<k))=[]:=List.filter_eq_nil_iff.2 λp hp=>by
  rcases c.mid with e|⟨q,e,e2⟩
  ·rw[e] at hp;cases hp
  ·rw[e] at hp;simp only[iQ] at hp;subst hp;rw[e2];simp[zLY]
 have fM2:M.filter (λq=>decide (k<q.k))=[]:=List.filter_eq_nil_iff.2 λp hp=>by
  rcases c.mid with e|⟨q,e,e2⟩
  ·rw[e] at hp;cases hp
  ·rw[e] at hp;simp only[iQ] at hp;subst hp;rw[e2];simp[zLY]
 rw[c.eq,aLI,aLI,aLI,aLI]
 simp only[fA,fA2,fB,fB2,fM,fM2,zLN,yB]
theorem Cut.del{L A M B:List Pr}{k:Tx}(c:Cut L k A M B):zR L k=A++B:=by
 unfold zR
 have fA:A.filter (λq=>decide (q.k≠k))=A:=aL5.2 λp hp=>by
  have:=c.lo p hp
  simp only[decide_eq_true_eq];intro e;rw[e] at this;exact zLY _ this
 have fB:B.filter (λq=>decide (q.k≠k))=B:=aL5.2 λp hp=>by
  have:=c.hi p hp
  simp only[decide_eq_true_eq];intro e;rw[e] at this;exact zLY _ this
 have fM:M.filter (λq=>decide (q.k≠k))=[]:=List.filter_eq_nil_iff.2 λp hp=>by
  rcases c.mid with e|⟨q,e,e2⟩
  ·rw[e] at hp;cases hp
  ·rw[e] at hp;simp only[iQ] at hp;subst hp;simp[e2]
 rw[c.eq,aLI,aLI,fA,fB,fM,yB]
theorem Cut.get{L A M B:List Pr}{k:Tx}(c:Cut L k A M B)(h:rG L):(jI L k).isSome=decide (M≠[]):=by
 rcases c.mid with e|⟨q,e,e2⟩
 ·subst e
  have:jI L k=none:=aEb.2 λp hp e=>by
   rw[c.eq,yB,kR] at hp
   rcases hp with hp|hp
   ·have:=c.lo p hp;rw[e] at this;exact zLY _ this
   ·have:=c.hi p hp;rw[e] at this;exact zLY _ this
  rw[this];rfl
 ·subst e
  have:jI L k=some q:=(uQ h).2 ⟨by rw[c.eq];simp,e2⟩
  rw[this];rfl
def aEi(x:Value×List Pr):List Value:=[x.1]
theorem aEi.rows(l:List (Value×List Pr)):lC 1 (l.map aEi):=λr hr=>by
 obtain⟨p,-,rfl⟩:=mT.1 hr;rfl
structure vH(h:PH)(b:Nat)(s:St)(G:List Nat):Prop where
 here:∃(nv bv:Value) (bl:List (Value×List Pr)),h b=some (.cells #[nv,.int .u64 ((s.height-(s.blocks.length-1):Nat):Int),bv] fN (0,0))∧iR h 2 nv (s.now.map Pr.cells)∧iR h 1 bv (bl.map aEi)∧
  (∀x∈bl,iR h 2 x.1 (x.2.map Pr.cells)∧aCy x.1 G)∧bl.map (·.2)=s.blocks∧aCy nv G∧aCy bv G∧b∉G∧∀g∈G,h g≠none
 ok:s.Ok
theorem vH.upd{h h':PH}{b:Nat}{s:St}{G K:List Nat}(H:vH h b s G)(u:eW K h h')(hb:b∉K)(hd:∀g∈G,g∉K):vH h' b s G:=by
 obtain⟨nv,bv,bl,h1,h2,h3,h4,h5,h6,h7,h8,h9⟩:=H.here
 refine⟨⟨nv,bv,bl,u.get h1 hb,h2.upd u λa n c e=>hd _ (h6 a n c e),h3.upd u λa n c e=>hd _ (h7 a n c e),λx hx=>⟨(h4 x hx).1.upd u λa n c e=>hd _ ((h4 x hx).2 a n c e),(h4 x hx).2⟩,h5,h6,h7,h8,λg hg=>?_⟩,H.ok⟩
 obtain⟨o,ho⟩:=aGt.1 (h9 g hg)
 rw[u.get ho (hd g hg)];simp
theorem vH.ext{h h':PH}{b:Nat}{s:St}{G:List Nat}(H:vH h b s G)(u:fE h h'):vH h' b s G:=H.upd u (by simp) (by simp)
theorem vH.known{h:PH}{b:Nat}{s:St}{G:List Nat}(H:vH h b s G):∀g∈b::G,h g≠none:=by
 obtain⟨nv,bv,bl,h1,h2,h3,h4,h5,h6,h7,h8,h9⟩:=H.here
 intro g hg
 rcases jG.1 hg with rfl|hg
 ·rw[h1];simp
 ·exact h9 g hg
theorem aV0{h:PH}(n:Nat)(hn:n<18446744073709551616){k:eJ}(hk:∀b h' G,vH h' b ⟨[],[[]],n⟩ G->gQ h (b::G)->fE h h'->k (pT b 0) h'):cR PG aDk #[.int .u64 (n:Int)] h k:=by
 apply aCr.call
 unfold aCr
 have b1:iP PG (buildSlice hZ 1 #[(0,(Value.slice none 0 0))])=some (.cells #[.slice none 0 0] eM,λr=>pure (.slice (some ⟨r,0,none⟩) 1 1)):=by kernel_rfl
 simp only[b1,eK,reduceIte]
 intro r hr
 refine iK ?_
 try rw[eY]
 have u1:fE h (h.set r (.cells #[.slice none 0 0] eM)):=eW.new hr
 have O1:gU (h.set r (.cells #[.slice none 0 0] eM)) eM 1 (.slice (some ⟨r,0,none⟩) 1 1) ([((.slice none 0 0:Value),([]:List Pr))].map aEi) [r]:=gU.lit (n:=1) (aEi.rows [((.slice none 0 0:Value),([]:List Pr))]) fP (by simp) (by decide) rfl
 generalize h.set r (.cells #[.slice none 0 0] eM)=h1 at *
 have b2:aT PG (build fN #[(1,.int .u64 (n:Int)),(2,.slice (some ⟨r,0,none⟩) 1 1)])=some (.agg #[.slice none 0 0,.int .u64 (n:Int),.slice (some ⟨r,0,none⟩) 1 1]):=by kernel_rfl
 simp only[b2,eK,reduceIte]
 intro b hb
 try rw[eY]
 have u2:fE h1 (h1.set b (.cells (Value.cells (.agg #[.slice none 0 0,.int .u64 (n:Int),.slice (some ⟨r,0,none⟩) 1 1])) fN)):=eW.new hb
 have hrb:b≠r:=by rintro rfl;exact O1.known _ (by simp) hb
 refine hk b _ [r] ⟨⟨.slice none 0 0,.slice (some ⟨r,0,none⟩) 1 1,[(.slice none 0 0,[])],fP,(gU.nil (e:=eQ)).slR,(O1.ext u2).slR,?_,rfl,(λy m c e=>by cases e),aFk O1,by simpa using hrb,?_⟩,St.Ok.new n hn⟩ (λg hg=>?_) (u1.trans u2)
 ·intro x hx
  simp only[iQ] at hx
  subst hx
  exact⟨(gU.nil (e:=eQ)).slR,λx n c e=>by cases e⟩
 ·intro g hg
  exact(O1.ext u2).known g hg
 ·simp only[jG,mD,or_false] at hg
  rcases hg with rfl|rfl
  ·exact u1.none hb
  ·exact hr
theorem aNK{h:PH}{b:Nat}{s:St}{G:List Nat}(H:vH h b s G){key:Tx}{A M B:List Pr}(c:Cut s.now key A M B){k:eJ}(hk:k (.tuple #[.int .i64 (A.length:Int),.bool (decide (M≠[]))]) h):
  cR PG pK #[pT b 0,.string (tx key)] h k:=by
 apply pD.call
 unfold pD
 have hfew:=H.ok.few
 obtain⟨nv,bv,bl,h1,h2,h3,h4,h5,h6,h7,h8,h9⟩:=H.here
 have c0:fH h ⟨b,0,none⟩=some nv:=by simp[fH,h1]
 have ln:=h2.len (t':=dR) eM.und
 rw[kQ] at ln
 have hlen:s.now.length=A.length+(M.length+B.length):=by rw[c.eq];simp
 refine⟨λvs h'=>∃i,i≤A.length∧vs=[pT b 0,.string (tx key),.int .i64 (i:Int)]∧h'=h,jP A.length 2,⟨0,by omega,rfl,rfl⟩,?_⟩
 rintro ρ h' ⟨i,hi,hvs,rfl⟩
 simp only[jT,kF,mQ,and_true] at hvs
 obtain⟨v0,v1,v6⟩:=hvs
 simp only[v0,v1,v6,jT,kF]
 unfold aDO
 by_cases hl:i<s.now.length
 ·have g1:((i:Int)<(s.now.length:Int))=True:=eq_true (by omega)
  have gi:IntKind.i64.wrap ((i:Int)+1)=((i+1:Nat):Int):=by rw[gD (by omega) (by omega)];omega
  obtain⟨p,hp⟩:∃p,s.now[i]? =some p:=⟨s.now[i],nM hl⟩
  obtain⟨pb,po,e1,e2,-,-⟩:=h2.pair (j:=i) (p:=p) hp
  by_cases hiA:i<A.length
  ·have hpA:p∈A:=by
    rw[c.eq,List.getElem?_append_left hiA] at hp
    exact uJ hp
   have hlt:=c.lo p hpA
   simp only[fN.f0,eM.load,c0,ln,g1,e1,eQ.f0,cT.load,e2,xQ,hlt,gi,eK,reduceIte]
   refine⟨⟨i+1,by omega,rfl,(by trivial)⟩,?_⟩
   simp only[jP,sK,qA]
   omega
  ·have hiE:i=A.length:=by omega
   have hp2:(M++B)[0]? =some p:=by
    rw[c.eq,List.getElem?_append_right (by omega),hiE,Nat.sub_self] at hp
    exact hp
   have hnl:¬p.k<key:=by
    rcases c.mid with e|⟨q,e,e3⟩
    ·rw[e,yB] at hp2
     exact List.lt_asymm (c.hi p (uJ hp2))
    ·rw[e] at hp2
     simp only[zLT,qA,zL5] at hp2
     rw[←hp2,e3];exact zLY _
   have heq:decide (p.k=key)=decide (M≠[]):=by
    rcases c.mid with e|⟨q,e,e3⟩
    ·rw[e,yB] at hp2
     have:=c.hi p (uJ hp2)
     have hne:p.k≠key:=λe=>by rw[e] at this;exact zLY _ this
     simp[e,hne]
    ·rw[e] at hp2
     simp only[zLT,qA,zL5] at hp2
     rw[←hp2]
     simp[e,e3]
   simp only[fN.f0,eM.load,c0,ln,g1,e1,eQ.f0,cT.load,e2,xQ,hnl,aEv,heq,eK,reduceIte]
   rw[hiE];exact hk
 ·have g1:((i:Int)<(s.now.length:Int))=False:=eq_false (by omega)
  have hiE:i=A.length:=by omega
  have hM:M=[]:=zLL (by omega)
  simp only[fN.f0,eM.load,c0,ln,g1,eK,reduceIte]
  have:decide (M≠[])=false:=by simp[hM]
  rw[this] at hk
  rw[hiE];exact hk
end Go.Proofs.YtcoajnpchhmgjaaGreatDoor
namespace Go.Proofs.YtcoajnpchhmgjaaGreatDoor
open Go
theorem aVY:iP PG (buildSlice gV 1 #[(0,.slice none 0 0)])=some (.cells #[.slice none 0 0] fS,λr=>pure (.slice (some ⟨r,0,none⟩) 1 1)):=by kernel_rfl
theorem aNI{r o i:Nat}(hi:i<2):aT PG (indexAt gK (pT r o) (.int .i64 (i:Int)))=some (pT r (o+i)):=by
 have ix:=aA5 (P:=PG) (t:=gK) (b:=r) (o:=o) (k:=.i64) (j:=(i:Int)) gK.und dT.info dT.size (by omega) (by omega)
 rw[ix,sM,Nat.mul_one]
theorem aM5{r o i:Nat}(hi:i<2):aT PG (indexAt lM (pT r o) (.int .i64 (i:Int)))=some (pT r (o+i)):=by
 have ix:=aA5 (P:=PG) (t:=lM) (b:=r) (o:=o) (k:=.i64) (j:=(i:Int)) lM.und fO.info fO.size (by omega) (by omega)
 rw[ix,sM,Nat.mul_one]
def tZ(a b:Nat):Value:=.agg #[.int .u64 (a:Int),.int .u64 (b:Int)]
def u2c(a b:Nat):List Value:=[.int .u64 (a:Int),.int .u64 (b:Int)]
def aLy(t:Nat)(a b:Ch):mO:=λh F=>∃(c0 c1 m:Nat),(gF (rH t [pT c0 0,pT c1 0,pT m 0]) (gF (jX c0 a) (jX c1 b))) h F
theorem aLy.good(t:Nat)(a b:Ch):mU (aLy t a b) where
 known:=λ⟨_,_,_,H⟩=>((rH.good _ _).star ((jX.good _ _).star (jX.good _ _))).known H
 upd:=λ⟨c0,c1,m,H⟩ u hK=>⟨c0,c1,m,((rH.good _ _).star ((jX.good _ _).star (jX.good _ _))).upd H u hK⟩
theorem aWv(m:Nat):aT PG (build iW #[(1,pT m 0)])=some (.agg #[.pointer none,.pointer none,pT m 0]):=by kernel_rfl
structure lV where
 kind:Int
 id:Int
 h:Nat
 d:Tx
 p:Pk
 sp:Bool
def lV.cells(a:lV):List Value:=[.int .i64 a.kind,.int .i64 a.id,.int .u64 (a.h:Int),.string (tx a.d),.int .i64 a.p.f,.int .u64 a.p.s,.int .u64 a.p.t,.string a.p.d,.bool a.sp]
def lV.v(a:lV):Value:=.agg a.cells.toArray
structure lV.wf(a:lV):Prop where
 h:a.h<18446744073709551616
 p:a.p.wf
def aIC(a:lV):Tx:=if a.kind=2 then jF 99 a.p.s.toNat else if a.kind=3 then jF 97 a.p.s.toNat else jF 114 a.p.s.toNat
def oD(id:Int):Nat:=if id=1 then 1 else 0
def mC(o:Ch)(a:lV):Tx:=if a.sp=false∧2≤a.kind∧a.kind≤4 then(aEt o.st (aIC a) a.h).1 else a.d
noncomputable def mB(c o:Ch)(a:lV):Ch×(Pk×Nat×Int):=
 if a.kind=0 then(if sJ c a.d a.h=0 then(c.sent (lJ c a.d a.h),(lJ c a.d a.h,0,0)) else(c,(default,0,sJ c a.d a.h)))
 else if a.kind=1 then(match tY o.st a.h with
  | none=>(c,(default,0,3))
  | some b=>(c.told (a.h:Int) (lO b),(default,0,(aAw c.cl ⟨(a.h:Int),tx (lO b)⟩).1)))
 else if a.kind=2 then(if pZ c (qJ c a.p (mC o a) (a.h:Int))=0 then(c.received a.p,(default,0,0)) else(c,(default,0,pZ c (qJ c a.p (mC o a) (a.h:Int)))))
 else if a.kind=3 then(if kJ c a.p (xU c a.p (mC o a) (a.h:Int))=0 then(c.settled 3 a.p,(default,0,0)) else(c,(default,0,kJ c a.p (xU c a.p (mC o a) (a.h:Int)))))
 else if a.kind=4 then(if kJ c a.p (qZ c a.p (mC o a) (a.h:Int))=0 then(c.settled 4 a.p,(default,0,0)) else(c,(default,0,kJ c a.p (qZ c a.p (mC o a) (a.h:Int)))))
 else if a.kind=5 then(c.committed,(default,(lF c.st).2.1,(lF c.st).2.2))
 else(c,(default,0,0))
theorem aLP{h:PH}(id:Int){k:eJ}(hk:k (.int .i64 ((oD id:Nat):Int)) h):cR PG rA #[.int .i64 id] h k:=by
 apply aBt.call
 unfold aBt
 unfold oD at hk
 by_cases e:id=1
 ·have q:(id==1)=true:=by simp[e]
  rw[if_pos e] at hk
  simp only[jO,q,eK,reduceIte,eX,Nat.reduceAdd]
  exact hk
 ·have q:(id==1)=false:=by simp[e]
  rw[if_neg e] at hk
  simp only[jO,q,eK,reduceIte,eX,Nat.reduceAdd]
  exact hk
theorem aN4{h:PH}{a:lV}(w:a.wf){k:eJ}(hk:∀h',fE h h'->k (.string (tx (aIC a))) h'):cR PG vU #[a.v] h k:=by
 apply zQ.call
 unfold zQ
 obtain⟨n,hn⟩:=zLm w.p.1
 have hn2:n<18446744073709551616:=by have:=w.p.2.1;omega
 intro r1 hr1
 try rw[eY]
 have u1:fE h (h.set r1 (.cells (Value.cells a.v) eI)):=eW.new hr1
 have B1:Bx (h.set r1 (.cells (Value.cells a.v) eI)) r1 a.cells:=Bx.new
 generalize h.set r1 (.cells (Value.cells a.v) eI)=h1 at *
 have lk:bT PG h1 (loadAt dR (pT r1 0))=some (.int .i64 a.kind):=by rw[dR.load,B1.cell];rfl
 have ls:bT PG h1 (loadAt dT (pT r1 5))=some (.int .u64 (n:Int)):=by rw[dT.load,B1.cell,←hn];rfl
 have q99:({data:=#[99]}:ByteArray)=tx [99]:=rfl
 have q97:({data:=#[97]}:ByteArray)=tx [97]:=rfl
 have q114:({data:=#[114]}:ByteArray)=tx [114]:=rfl
 unfold aIC at hk
 rw[hn,sM] at hk
 by_cases e2:a.kind=2
 ·have q:(a.kind==2)=true:=by simp[e2]
  rw[if_pos e2] at hk
  simp only[eI.f0,eI.f4,bR.f1,iG,Nat.reduceAdd,lk,jO,q,ls,q99,eK,reduceIte,eX,Nat.reduceAdd]
  exact aAF hn2 λh2 u2=>hk h2 (u1.trans u2)
 have q2:(a.kind==2)=false:=by simp[e2]
 rw[if_neg e2] at hk
 by_cases e3:a.kind=3
 ·have q:(a.kind==3)=true:=by simp[e3]
  rw[if_pos e3] at hk
  simp only[eI.f0,eI.f4,bR.f1,iG,Nat.reduceAdd,lk,jO,q2,q,ls,q97,eK,reduceIte,eX,Nat.reduceAdd]
  exact aAF hn2 λh2 u2=>hk h2 (u1.trans u2)
 have q3:(a.kind==3)=false:=by simp[e3]
 rw[if_neg e3] at hk
 simp only[eI.f0,eI.f4,bR.f1,iG,Nat.reduceAdd,lk,jO,q2,q3,ls,q114,eK,reduceIte,eX,Nat.reduceAdd]
 exact aAF hn2 λh2 u2=>hk h2 (u1.trans u2)
theorem aVG{h:PH}{F:List Nat}{c:Nat}{s:Ch}{W:mO->mO}(f:vX h F (jX c s) W)(gW:∀s',mU (W (jX c s'))){o:Nat}{so:Ch}{Fo:List Nat}(HO:jX o so h Fo)(hK:oA h)(h0F:0∉F){a:lV}(wa:a.wf){r1 r3:Nat}(B1:Bx h r1 a.cells){cs:List Value}(hcs:cs.length=4)(B3:Bx h r3 cs)(n3:r3∉F)(hl:s.nts.length<1000000){R:eJ}
  (hR:∀h' F',W (jX c (mB s so a).1) h' F'->eW (r3::F) h h'->(∀b∈F',b∈F∨h b=none)->R (.tuple #[(mB s so a).2.1.v,.int .u64 ((mB s so a).2.2.1:Int),.int .i64 (mB s so a).2.2.2]) h'):
  pH R (pT r1 0) (pT r3 0) (pT c 0) (pT o 0) (.string (tx (mC so a))) h:=by
 unfold pH
 have fin:∀{h1:PH} {F1:List Nat} {s':Ch} {pk:Pk} {hh:Nat} {e:Int},W (jX c s') h1 F1->jZ h F h1 F1->mB s so a=(s',(pk,hh,e))->eZ PG (fQ bR (pT r3 0) pk.v) h1 λ_ h80=>aR (bT PG h80 (loadAt bR (pT r3 0))) λv81=>R (.tuple #[v81,.int .u64 (hh:Int),.int .i64 e]) h80:=by
  intro h1 F1 s' pk hh e H1 s1 ed
  have B31:=B3.upd s1.upd n3
  refine bR.put (vs:=pk.cells) B31 (o:=0) rfl (by omega) (Pk.isC _) λh2 B2 u2=>?_
  have l2:bT PG h2 (loadAt bR (pT r3 0))=some pk.v:=B2.pk (by simp[Pk.cells])
  simp only[l2,eK,reduceIte,eX,Nat.reduceAdd]
  have m3:r3∉F1:=λhm=>by
   rcases s1.grow _ hm with hx|hx
   ·exact n3 hx
   ·exact B3.known hx
  rw[ed] at hR
  exact hR h2 F1 ((gW s').upd H1 u2 (λb hb hb'=>by simp only[iQ] at hb';exact m3 (hb'▸hb))) (λb ob hb hn=>by
   simp only[jG,not_or] at hn
   exact u2 b ob (s1.upd b ob hb hn.2) (by simpa using hn.1)) s1.grow
 have lk:bT PG h (loadAt dR (pT r1 0))=some (.int .i64 a.kind):=by rw[dR.load,B1.cell];rfl
 have lh:bT PG h (loadAt dT (pT r1 2))=some (.int .u64 (a.h:Int)):=by rw[dT.load,B1.cell];rfl
 have ld:bT PG h (loadAt cT (pT r1 3))=some (.string (tx a.d)):=by rw[cT.load,B1.cell];rfl
 have lp:bT PG h (loadAt bR (pT r1 4))=some a.p.v:=B1.pk rfl
 obtain⟨Fa,HA,hFa,back⟩:=f
 have h0a:0∉Fa:=λhm=>h0F (hFa _ hm)
 have hd:mB s so a=if a.kind=0 then(if sJ s a.d a.h=0 then(s.sent (lJ s a.d a.h),(lJ s a.d a.h,0,0)) else(s,(default,0,sJ s a.d a.h)))
   else if a.kind=1 then(match tY so.st a.h with
    | none=>(s,(default,0,3))
    | some b=>(s.told (a.h:Int) (lO b),(default,0,(aAw s.cl ⟨(a.h:Int),tx (lO b)⟩).1)))
   else if a.kind=2 then(if pZ s (qJ s a.p (mC so a) (a.h:Int))=0 then(s.received a.p,(default,0,0)) else(s,(default,0,pZ s (qJ s a.p (mC so a) (a.h:Int)))))
   else if a.kind=3 then(if kJ s a.p (xU s a.p (mC so a) (a.h:Int))=0 then(s.settled 3 a.p,(default,0,0)) else(s,(default,0,kJ s a.p (xU s a.p (mC so a) (a.h:Int)))))
   else if a.kind=4 then(if kJ s a.p (qZ s a.p (mC so a) (a.h:Int))=0 then(s.settled 4 a.p,(default,0,0)) else(s,(default,0,kJ s a.p (qZ s a.p (mC so a) (a.h:Int)))))
   else if a.kind=5 then(s.committed,(default,(lF s.st).2.1,(lF s.st).2.2))
   else(s,(default,0,0)):=rfl
 by_cases k0:a.kind=0
 ·have q:(a.kind==0)=true:=by simp[k0]
  rw[if_pos k0] at hd
  simp only[eI.f0,eI.f2,eI.f3,iG,lk,ld,lh,jO,q,eK,reduceIte,eX,Nat.reduceAdd]
  have last:∀{h1:PH} {F1:List Nat} {s':Ch} {pk:Pk} {e:Int},W (jX c s') h1 F1->jZ h F h1 F1->mB s so a=(s',(pk,0,e))->∀r74,h1 r74=none->fZ (PH.set h1 r74 (.cells (fY PG bR) bR)) λh75=>
    eZ PG (fQ bR (pT r74 0) pk.v) h75 λv76 h77=>
    aR (bT PG h77 (loadAt bR (pT r74 0))) λv78=>
    eZ PG (fQ bR (pT r3 0) v78) h77 λv79 h80=>
    aR (bT PG h80 (loadAt bR (pT r3 0))) λv81=>
    R (.tuple #[v81,(Value.int IntKind.u64 0),.int .i64 e]) h80:=by
   intro h1 F1 s' pk e H1 s1 ed r74 hr74
   try rw[eY]
   refine bR.fill (vs:=pk.cells) hr74 rfl (Pk.isC _) λh2 B2 u2=>?_
   have l2:bT PG h2 (loadAt bR (pT r74 0))=some pk.v:=B2.pk rfl
   simp only[l2,eK,reduceIte,eX,Nat.reduceAdd]
   exact fin (hh:=0) ((gW s').ext H1 u2) (s1.trans (jZ.ext u2)) ed
  refine aOk hK HA a.d wa.h hl (λhe h1 F1 H1 s1 _=>?_) (λhe h1 F1 H1 s1=>?_)
  ·rw[if_neg he] at hd
   obtain⟨F2,W2,s2⟩:=back _ h1 F1 H1 s1
   have:=last W2 s2 hd
   simp only[eK,reduceIte,eX,Nat.reduceAdd] at this ⊢
   exact this
  ·rw[if_pos he] at hd
   obtain⟨F2,W2,s2⟩:=back _ h1 F1 H1 s1
   have:=last W2 s2 hd
   simp only[eK,reduceIte,eX,Nat.reduceAdd] at this ⊢
   exact this
 have q0:(a.kind==0)=false:=by simp[k0]
 rw[if_neg k0] at hd
 by_cases k1:a.kind=1
 ·have q:(a.kind==1)=true:=by simp[k1]
  rw[if_pos k1] at hd
  obtain⟨sp,m,cp,nv,bv,lk',P,perm,ok⟩:=HO
  obtain⟨Fs,St,-,-⟩:=P.fSt
  simp only[eI.f0,eI.f2,gH.f0,iC.f0,iG,lk,lh,Ch.load0 P.cell,jO,q0,q,eK,reduceIte,eX,Nat.reduceAdd]
  refine aR7 St a.h wa.h (λe h1 u1=>?_) (λb h1 e u1=>?_)
  ·rw[e] at hd
   obtain⟨F2,W2,s2⟩:=back _ h1 Fa ((jX.good c s).ext HA u1) (jZ.ext u1)
   have qe:((3:Int) !=0)=true:=by decide
   simp only[lR,qe,Pk.zb,eK,reduceIte,eX,Nat.reduceAdd]
   exact fin (hh:=0) W2 s2 hd
  ·rw[e] at hd
   have lh1:bT PG h1 (loadAt dT (pT r1 2))=some (.int .u64 (a.h:Int)):=by rw[dT.load,(B1.ext u1).cell];rfl
   simp only[lR,Pk.zb,eI.f2,iG,lh1,eK,reduceIte,eX,Nat.reduceAdd]
   refine aQt ((jX.good c s).ext HA u1) (a.h:Int) (lO b) λh2 F2 H2 s2=>?_
   obtain⟨F3,W3,s3⟩:=back _ h2 F2 H2 ((jZ.ext u1).trans s2)
   exact fin (hh:=0) W3 s3 hd
 have q1:(a.kind==1)=false:=by simp[k1]
 rw[if_neg k1] at hd
 by_cases k2:a.kind=2
 ·have q:(a.kind==2)=true:=by simp[k2]
  rw[if_pos k2] at hd
  simp only[eI.f0,eI.f2,eI.f4,iG,lk,lh,lp,jO,q0,q1,q,Pk.zb,eK,reduceIte,eX,Nat.reduceAdd]
  refine aS1 hK HA h0a wa.p hl (λhe h1 H1 u1=>?_) (λhe h1 F1 H1 s1=>?_)
  ·rw[if_neg he] at hd
   obtain⟨F2,W2,s2⟩:=back _ h1 Fa H1 (jZ.ext u1)
   exact fin (hh:=0) W2 s2 hd
  ·rw[if_pos he] at hd
   obtain⟨F2,W2,s2⟩:=back _ h1 F1 H1 s1
   exact fin (hh:=0) W2 s2 hd
 have q2:(a.kind==2)=false:=by simp[k2]
 rw[if_neg k2] at hd
 by_cases k3:a.kind=3
 ·have q:(a.kind==3)=true:=by simp[k3]
  rw[if_pos k3] at hd
  simp only[eI.f0,eI.f2,eI.f4,iG,lk,lh,lp,jO,q0,q1,q2,q,Pk.zb,eK,reduceIte,eX,Nat.reduceAdd]
  refine aVo hK HA wa.p hl (λhe h1 H1 u1=>?_) (λhe h1 F1 H1 s1=>?_)
  ·rw[if_neg he] at hd
   obtain⟨F2,W2,s2⟩:=back _ h1 Fa H1 (jZ.ext u1)
   exact fin (hh:=0) W2 s2 hd
  ·rw[if_pos he] at hd
   obtain⟨F2,W2,s2⟩:=back _ h1 F1 H1 s1
   exact fin (hh:=0) W2 s2 hd
 have q3:(a.kind==3)=false:=by simp[k3]
 rw[if_neg k3] at hd
 by_cases k4:a.kind=4
 ·have q:(a.kind==4)=true:=by simp[k4]
  rw[if_pos k4] at hd
  simp only[eI.f0,eI.f2,eI.f4,iG,lk,lh,lp,jO,q0,q1,q2,q3,q,Pk.zb,eK,reduceIte,eX,Nat.reduceAdd]
  refine aP5 hK HA wa.p hl (λhe h1 H1 u1=>?_) (λhe h1 F1 H1 s1=>?_)
  ·rw[if_neg he] at hd
   obtain⟨F2,W2,s2⟩:=back _ h1 Fa H1 (jZ.ext u1)
   exact fin (hh:=0) W2 s2 hd
  ·rw[if_pos he] at hd
   obtain⟨F2,W2,s2⟩:=back _ h1 F1 H1 s1
   exact fin (hh:=0) W2 s2 hd
 have q4:(a.kind==4)=false:=by simp[k4]
 rw[if_neg k4] at hd
 by_cases k5:a.kind=5
 ·have q:(a.kind==5)=true:=by simp[k5]
  rw[if_pos k5] at hd
  simp only[eI.f0,iG,lk,jO,q0,q1,q2,q3,q4,q,eK,reduceIte,eX,Nat.reduceAdd]
  refine aM1 hK HA λh1 F1 H1 s1=>?_
  obtain⟨F2,W2,s2⟩:=back _ h1 F1 H1 s1
  simp only[Pk.zb,eK,reduceIte,eX,Nat.reduceAdd]
  exact fin W2 s2 hd
 ·have q:(a.kind==5)=false:=by simp[k5]
  rw[if_neg k5] at hd
  obtain⟨F2,W2,s2⟩:=back _ h Fa HA jZ.refl
  simp only[eI.f0,iG,lk,jO,q0,q1,q2,q3,q4,q,Pk.zb,eK,reduceIte,eX,Nat.reduceAdd]
  exact fin (hh:=0) W2 s2 hd
noncomputable def iU(a b:Ch)(x:lV):(Ch×Ch)×(Pk×Nat×Int):=if x.id=1 then((a,(mB b a x).1),(mB b a x).2) else(((mB a b x).1,b),(mB a b x).2)
def aEP(c0 c1 m:Nat):List Value:=[pT c0 0,pT c1 0,pT m 0]
def qQ(t c0 c1 m:Nat)(a b:Ch):mO:=gF (rH t (aEP c0 c1 m)) (gF (jX c0 a) (jX c1 b))
theorem qQ.good(t c0 c1 m:Nat)(a b:Ch):mU (qQ t c0 c1 m a b):=(rH.good _ _).star ((jX.good _ _).star (jX.good _ _))
theorem aTP(t c0 c1 m:Nat)(a b:Ch)(x:lV):∃(c o:Nat) (s so:Ch) (W:mO->mO),(∀s',mU (W (jX c s')))∧(aEP c0 c1 m)[oD x.id]? =some (pT c 0)∧(aEP c0 c1 m)[1-oD x.id]? =some (pT o 0)∧(s=a∨s=b)∧(mB s so x).2=(iU a b x).2∧
  (∀{h F},W (jX c (mB s so x).1) h F->qQ t c0 c1 m (iU a b x).1.1 (iU a b x).1.2 h F)∧∀{h F},qQ t c0 c1 m a b h F->vX h F (jX c s) W∧(∃Fo,jX o so h Fo)∧Bx h t (aEP c0 c1 m):=by
 by_cases e:x.id=1
 ·refine⟨c1,c0,b,a,λX=>gF (rH t (aEP c0 c1 m)) (gF (jX c0 a) X),λs'=>(rH.good _ _).star ((jX.good _ _).star (jX.good _ _)),by unfold oD;rw[if_pos e];rfl,by unfold oD;rw[if_pos e];rfl,.inr rfl,by unfold iU;rw[if_pos e],fun {h F} H=>?_,fun {h F} H=>⟨?_,?_,?_⟩⟩
  ·unfold iU
   rw[if_pos e]
   exact H
  ·exact(gF.right (rH.good _ _) H).comp λ_ H=>gF.right (jX.good _ _) H
  ·obtain⟨_,_,_,_,⟨Fo,_,_,HO,_,_⟩,_⟩:=H
   exact⟨Fo,HO⟩
  ·obtain⟨_,_,_,⟨_,B⟩,_,_⟩:=H
   exact B
 ·refine⟨c0,c1,a,b,λX=>gF (rH t (aEP c0 c1 m)) (gF X (jX c1 b)),λs'=>(rH.good _ _).star ((jX.good _ _).star (jX.good _ _)),by unfold oD;rw[if_neg e];rfl,by unfold oD;rw[if_neg e];rfl,.inl rfl,by unfold iU;rw[if_neg e],fun {h F} H=>?_,fun {h F} H=>⟨?_,?_,?_⟩⟩
  ·unfold iU
   rw[if_neg e]
   exact H
  ·exact(gF.right (rH.good _ _) H).comp λ_ H=>gF.left (jX.good _ _) H
  ·obtain⟨_,_,_,_,⟨_,Fo,_,_,HO,_⟩,_⟩:=H
   exact⟨Fo,HO⟩
  ·obtain⟨_,_,_,⟨_,B⟩,_,_⟩:=H
   exact B
theorem aND(id:Int):oD id<2:=by unfold oD;split<;>decide
theorem aSr{h:PH}{t c0 c1 m:Nat}{a b:Ch}{F:List Nat}(S:qQ t c0 c1 m a b h F)(hK:oA h)(h0F:0∉F){x:lV}(wx:x.wf)(hla:a.nts.length<1000000)(hlb:b.nts.length<1000000){kk:eJ}
  (hk:∀h' F',qQ t c0 c1 m (iU a b x).1.1 (iU a b x).1.2 h' F'->jZ h F h' F'->kk (.tuple #[(iU a b x).2.1.v,.int .u64 ((iU a b x).2.2.1:Int),.int .i64 (iU a b x).2.2.2]) h'):
  cR PG mZ #[pT t 0,x.v] h kk:=by
 apply rR.call
 unfold rR
 obtain⟨c,o,s,so,W,gW,hc,ho,hs,e2,hW,get⟩:=aTP t c0 c1 m a b x
 have hl:s.nts.length<1000000:=by rcases hs with rfl|rfl<;>assumption
 intro r1 hr1
 try rw[eY]
 have u1:fE h (h.set r1 (.cells (Value.cells x.v) eI)):=eW.new hr1
 have B1:Bx (h.set r1 (.cells (Value.cells x.v) eI)) r1 x.cells:=Bx.new
 generalize h.set r1 (.cells (Value.cells x.v) eI)=h1 at *
 intro r3 hr3
 try rw[eY]
 have u3:fE h1 (h1.set r3 (.cells (fY PG bR) bR)):=eW.new hr3
 have Z3:=bR.zbox (h:=h1) (r:=r3)
 have C1:=B1.ext u3
 generalize h1.set r3 (.cells (fY PG bR) bR)=h3 at *
 have e3:=u1.trans u3
 have k3:h r3=none:=u1.none hr3
 have n3:r3∉F:=λhm=>(qQ.good _ _ _ _ _ _).known S _ hm k3
 have li:∀{h'':PH},fE h3 h''->bT PG h'' (loadAt dR (pT r1 1))=some (.int .i64 x.id):=λv=>by rw[dR.load,(C1.ext v).cell];rfl
 have hsd:=aND x.id
 have w1:IntKind.i64.wrap (1-((oD x.id:Nat):Int))=((1-oD x.id:Nat):Int):=by rw[gD (by omega) (by omega)];omega
 have S3:=(qQ.good _ _ _ _ _ _).ext S e3
 obtain⟨-,⟨Fo,HO⟩,Bt⟩:=get S3
 have lc:bT PG h3 (loadAt fO (pT t (oD x.id)))=some (pT c 0):=by rw[fO.load,Bt.cell];exact hc
 have lo:bT PG h3 (loadAt fO (pT t (1-oD x.id)))=some (pT o 0):=by rw[fO.load,Bt.cell];exact ho
 have ix1:=aM5 (r:=t) (o:=0) (i:=oD x.id) hsd
 have ix2:=aM5 (r:=t) (o:=0) (i:=1-oD x.id) (by omega)
 rw[iG] at ix1 ix2
 have lk:bT PG h3 (loadAt dR (pT r1 0))=some (.int .i64 x.kind):=by rw[dR.load,C1.cell];rfl
 have lh:∀{h'':PH},fE h3 h''->bT PG h'' (loadAt dT (pT r1 2))=some (.int .u64 (x.h:Int)):=λv=>by rw[dT.load,(C1.ext v).cell];rfl
 have ld:bT PG h3 (loadAt cT (pT r1 3))=some (.string (tx x.d)):=by rw[cT.load,C1.cell];rfl
 have lsp:bT PG h3 (loadAt iV (pT r1 8))=some (.bool x.sp):=by rw[iV.load,C1.cell];rfl
 have lx:bT PG h3 (loadAt eI (pT r1 0))=some x.v:=eI.agg C1 (by show 0+9≤9;decide)
 -- the second half
 have tail:∀{h5:PH},fE h3 h5->pH kk (pT r1 0) (pT r3 0) (pT c 0) (pT o 0) (.string (tx (mC so x))) h5:=by
  intro h5 u5
  obtain⟨f,⟨Fo5,HO5⟩,-⟩:=get ((qQ.good _ _ _ _ _ _).ext S3 u5)
  refine aVG f gW HO5 (hK.ext (e3.trans u5)) h0F wx (C1.ext u5) rfl (Z3.ext u5) n3 hl λh6 F6 W6 u6 g6=>?_
  rw[e2]
  refine hk h6 F6 (hW W6) ⟨λbk ob hb hn=>u6 bk ob ((e3.trans u5).get hb) (λhm=>?_),λbk hb=>?_⟩
  ·rcases jG.1 hm with rfl|hm
   ·rw[k3] at hb;cases hb
   ·exact hn hm
  ·rcases g6 bk hb with hx|hx
   ·exact .inl hx
   ·exact .inr ((e3.trans u5).none hx)
 simp only[eI.f1,iW.f0,iG,li eW.refl,eK,reduceIte,eX,Nat.reduceAdd]
 refine aLP x.id ?_
 refine⟨li eW.refl,?_⟩
 simp only[ix1,lc,eK,reduceIte,eX,Nat.reduceAdd]
 refine aLP x.id ?_
 refine⟨lc,?_⟩
 simp only[w1,ix2,lo,eI.f0,eI.f2,eI.f3,eI.f5,iG,ld,lsp,eK,reduceIte,eX,Nat.reduceAdd]
 have plain:¬(x.sp=false∧2≤x.kind∧x.kind≤4)->pH kk (pT r1 0) (pT r3 0) (pT c 0) (pT o 0) (.string (tx x.d)) h3:=λhn=>by
  have:=tail (h5:=h3) eW.refl
  unfold mC at this
  rw[if_neg hn] at this
  exact this
 cases hsp:x.sp with
 | true=>
  simp only[eK,reduceIte,eX,Nat.reduceAdd]
  exact plain (by rw[hsp];simp)
 | false=>
  by_cases d1:2≤x.kind
  ·have g1:=eq_true d1
   by_cases d2:x.kind≤4
   ·have g2:=eq_true d2
    simp only[eI.f0,eI.f2,iG,lk,g1,g2,lx,lh eW.refl,eK,reduceIte,eX,Nat.reduceAdd]
    refine aN4 wx λh4 u4=>?_
    refine⟨lh u4,?_⟩
    refine aSi (hK.ext (e3.trans u4)) ((jX.good _ _).ext HO u4) (aIC x) wx.h λh5 u5=>?_
    simp only[eK,reduceIte,eX,Nat.reduceAdd]
    have:=tail (u4.trans u5)
    unfold mC at this
    rw[if_pos ⟨hsp,d1,d2⟩] at this
    exact this
   ·have g2:=eq_false d2
    simp only[eI.f0,lk,g1,g2,eK,reduceIte,eX,Nat.reduceAdd]
    exact plain (by simp[d2])
  ·have g1:=eq_false d1
   simp only[eI.f0,lk,g1,eK,reduceIte,eX,Nat.reduceAdd]
   exact plain (by simp[d1])
theorem aRK{h:PH}{t:Nat}{a b:Ch}{F:List Nat}(H:aLy t a b h F)(hK:oA h)(h0F:0∉F){x:lV}(wx:x.wf)(hla:a.nts.length<1000000)(hlb:b.nts.length<1000000){kk:eJ}
  (hk:∀h' F',aLy t (iU a b x).1.1 (iU a b x).1.2 h' F'->jZ h F h' F'->kk (.tuple #[(iU a b x).2.1.v,.int .u64 ((iU a b x).2.2.1:Int),.int .i64 (iU a b x).2.2.2]) h'):
  cR PG mZ #[pT t 0,x.v] h kk:=by
 obtain⟨c0,c1,m,S⟩:=H
 exact aSr S hK h0F wx hla hlb λh' F' H' s=>hk h' F' ⟨c0,c1,m,H'⟩ s
def xa:Ch:=Ch.new 0 5 1
def xb:Ch:=Ch.new 1 9 1
def xp:Pk:=lJ xa [120] 20
theorem aL2:xp.right=true:=by decide
theorem aXO:xp.wf:=⟨by decide,by decide,by decide,by decide⟩
theorem aTS:aI8 []=0:=by
 rw[aNZ (hs:=[]) ⟨List.Perm.refl _,List.Pairwise.nil⟩];rfl
theorem aWt:sJ xa [120] 20=0:=by
 have h1:decide (aI8 xa.cl<((20:Nat):Int))=true:=by
  rw[show xa.cl=[] from rfl,aTS];decide
 have h2:(lJ xa [120] 20).right=true:=aL2
 unfold sJ pZ
 rw[if_neg (by decide),h1,h2]
 rfl
def xq:Pr:=⟨jF 99 1,rB xp⟩
def xa1:Ch:=xa.sent xp
theorem aXi:lF xa1.st=(⟨[xq],[[],[xq]],6⟩,(6,0)):=rfl
def xa2:Ch:=xa1.committed
theorem aWm:tY xa2.st 6=some [xq]:=rfl
def xc1:lV:=⟨1,1,6,[],default,false⟩
def xc2:lV:=⟨2,1,6,[],xp,false⟩
def xr:Tx:=lO [xq]
theorem aSI:aAw xb.cl ⟨6,tx xr⟩=(0,[⟨6,tx xr⟩]):=by
 unfold aAw
 rw[if_neg (by rw[jL];exact λh=>h rfl),if_neg (by simp[zH,xb,Ch.new]),if_neg (by decide)]
 rfl
def xb1:Ch:=xb.told 6 xr
theorem aSM:xb1.cl=[⟨6,tx xr⟩]:=by
 show(aAw xb.cl ⟨6,tx xr⟩).2=_
 rw[aSI]
theorem aVH:iU xa2 xb xc1=((xa2,xb1),(default,0,0)):=by
 unfold iU
 rw[if_pos (show xc1.id=1 from rfl)]
 have:mB xb xa2 xc1=(xb1,(default,0,0)):=by
  unfold mB
  rw[if_neg (show ¬xc1.kind=0 by decide),if_pos (show xc1.kind=1 from rfl),show xc1.h=6 from rfl,aWm]
  show(xb.told 6 xr,_)=_
  have:(aAw xb.cl ⟨((6:Nat):Int),tx (lO [xq])⟩).1=0:=by
   rw[show(⟨((6:Nat):Int),tx (lO [xq])⟩:jN)=⟨6,tx xr⟩ from rfl,aSI]
  rw[this];rfl
 rw[this]
theorem aUr:MOk [xq]:=⟨List.pairwise_singleton _ _,by decide,λp hp=>by
 simp only[iQ] at hp;subst hp;show(jF 99 1).length≤16;rw[wM];decide,λp hp=>by
 simp only[iQ] at hp;subst hp;exact aKw xp⟩
theorem aUb:jI [xq] (jF 99 1)=some xq:=by
 rw[uQ (List.pairwise_singleton _ _)]
 exact⟨by simp,rfl⟩
theorem aXt:mC xa2 xc2=aA0 (kK [xq] (jF 99 1)):=by
 unfold mC
 rw[if_pos ⟨rfl,by decide,by decide⟩]
 have ek:aIC xc2=jF 99 1:=rfl
 rw[ek,show xc2.h=6 from rfl]
 unfold aEt
 rw[aWm]
 simp only
 rw[if_pos (by rw[aUb];rfl),(aKe aUr _).1]
theorem aW1:qB xb1.cl 6=xr:=by
 unfold qB
 rw[aSM]
 show(tx xr).data.toList=xr
 simp[tx]
theorem aU2:(lZ xb1.cl 6).isSome=true:=by rw[aSM];rfl
theorem aWT:pZ xb1 (qJ xb1 xp (mC xa2 xc2) 6)=0:=by
 have h5:aAM (qB xb1.cl 6) (mC xa2 xc2) (jF 99 xp.s.toNat) (rB xp)=true:=by
  rw[aW1,aXt]
  exact(aRA aUr aUb).1
 unfold pZ qJ
 rw[if_neg (by decide),aU2,h5,aL2]
 rfl
def xb2:Ch:=xb1.received xp
theorem aU5:iU xa2 xb1 xc2=((xa2,xb2),(default,0,0)):=by
 unfold iU
 rw[if_pos (show xc2.id=1 from rfl)]
 have:mB xb1 xa2 xc2=(xb2,(default,0,0)):=by
  unfold mB
  rw[if_neg (show ¬xc2.kind=0 by decide),if_neg (show ¬xc2.kind=1 by decide),if_pos (show xc2.kind=2 from rfl),show xc2.p=xp from rfl,show((xc2.h:Nat):Int)=6 from rfl,aWT,if_pos rfl]
  rfl
 rw[this]
theorem aVW:pZ xb2 (qJ xb2 xp (mC xa2 xc2) 6)=4:=by
 have h3:(jI xb2.st.now (jF 114 xp.s.toNat)).isSome=true:=by
  have e:xb2.st.now=oV (oV [] ⟨jF 114 1,[1]⟩) ⟨jF 97 1,aAv xp⟩:=rfl
  have up:rG (oV (oV [] ⟨jF 114 1,[1]⟩) ⟨jF 97 1,aAv xp⟩):=(rG.set (rG.set List.Pairwise.nil _) _)
  have:jI xb2.st.now (jF 114 1)=some ⟨jF 114 1,[1]⟩:=by
   rw[e,uQ up]
   refine⟨yA.2 (.inr ⟨yA.2 (.inl rfl),λh=>?_⟩),rfl⟩
   have:=congrArg (λl:Tx=>l.head?) h
   simp[jF] at this
  show(jI xb2.st.now (jF 114 1)).isSome=true
  rw[this];rfl
 unfold pZ qJ
 rw[if_neg (by decide),h3,aL2]
 rfl
theorem aVP:iU xa2 xb2 xc2=((xa2,xb2),(default,0,4)):=by
 unfold iU
 rw[if_pos (show xc2.id=1 from rfl)]
 have:mB xb2 xa2 xc2=(xb2,(default,0,4)):=by
  unfold mB
  rw[if_neg (show ¬xc2.kind=0 by decide),if_neg (show ¬xc2.kind=1 by decide),if_pos (show xc2.kind=2 from rfl),show xc2.p=xp from rfl,show((xc2.h:Nat):Int)=6 from rfl,aVW,if_neg (by decide)]
 rw[this]
structure Now(h0 h:PH)(F:List Nat):Prop where
 ext:fE h0 h
 fr:gQ h0 F
theorem Now.step{h0 h h':PH}{F F':List Nat}(N:Now h0 h F)(s:jZ h F h' F'):Now h0 h' F':=⟨N.ext.fresh s.upd N.fr,N.fr.grow N.ext s.grow⟩
theorem Now.more{h0 h h':PH}{F:List Nat}(N:Now h0 h F)(u:fE h h'):Now h0 h' F:=⟨N.ext.trans u,N.fr⟩
theorem Now.k{h0 h:PH}{F:List Nat}(N:Now h0 h F)(K:oA h0):oA h:=K.ext N.ext
theorem Now.z{h0 h:PH}{F:List Nat}(N:Now h0 h F)(K:oA h0):0∉F:=λhm=>by
 obtain⟨t,fr,hb⟩:=K
 rw[N.fr 0 hm] at hb;cases hb
theorem xY{h h':PH}{F F':List Nat}{r:Nat}{cs:List Value}(B:Bx h r cs)(n:r∉F)(s:jZ h F h' F'):Bx h' r cs∧r∉F':=⟨B.upd s.upd n,λhm=>by
 rcases s.grow _ hm with hx|hx
 ·exact n hx
 ·exact B.known hx⟩
theorem aXy:aT PG (build gK #[(0,(Value.int IntKind.u64 5)),(1,(Value.int IntKind.u64 9))])=some (tZ 5 9):=by kernel_rfl
theorem aX2:aT PG (build gK #[(0,(Value.int IntKind.u64 1)),(1,(Value.int IntKind.u64 1))])=some (tZ 1 1):=by kernel_rfl
theorem aXJ:aT PG (build eI #[(0,(Value.int IntKind.i64 1)),(1,(Value.int IntKind.i64 1)),(2,(Value.int IntKind.u64 ((6:Nat):Int)))])=some xc1.v:=by kernel_rfl
theorem aUz(p:Pk):aT PG (build eI #[(0,(Value.int IntKind.i64 2)),(1,(Value.int IntKind.i64 1)),(2,(Value.int IntKind.u64 ((6:Nat):Int))),(4,p.v)])=some (lV.v ⟨2,1,6,[],p,false⟩):=by kernel_rfl
theorem lV.rows(l:List lV):lC 9 (l.map lV.cells):=λr hr=>by obtain⟨m,_,rfl⟩:=mT.1 hr;rfl
theorem iR.tac{h:PH}{v:Value}{l:List lV}(S:iR h 9 v (l.map lV.cells)){j:Nat}{x:lV}(hx:l[j]? =some x):
  ∃b o,aT PG (indexAt jD v (.int .i64 (j:Int)))=some (pT b o)∧fH h ⟨b,o+3,none⟩=some (.string (tx x.d))∧fH h ⟨b,o+7,none⟩=some (.string x.p.d)∧bT PG h (loadAt eI (pT b o))=some x.v:=by
 obtain⟨b,o,h1,h2,h3⟩:=S.fields jD.und eI.info eI.size (k:=.i64) (j:=j) (r:=x.cells) (by rw[zLW,hx];rfl)
 exact⟨b,o,h1,h2 3 _ rfl,h2 7 _ rfl,h3 _ eI.und rfl⟩
theorem aNO{h:PH}{v:Value}{l:List lV}(S:iR h 9 v (l.map lV.cells)):aT PG (Builtin.len_ #[jD] dR #[v])=some (.int .i64 l.length):=by
 have:=S.len (t':=dR) jD.und
 rw[kQ] at this
 exact this
theorem aQH(c o:Ch)(a:lV):(mB c o a).1.nts.length≤c.nts.length+1:=by
 have put:∀(s:Ch) (n:Nt),(s.add n).nts.length≤s.nts.length+1:=λs n=>by
  show(s.nts++[n]).length≤_
  rw[lH];simp
 unfold mB
 split
 ·split
  ·exact put _ _
  ·exact aCP _
 ·split
  ·split
   ·exact aCP _
   ·exact aCP _
  ·split
   ·split
    ·exact put _ _
    ·exact aCP _
   ·split
    ·split
     ·exact put _ _
     ·exact aCP _
    ·split
     ·split
      ·exact put _ _
      ·exact aCP _
     ·split
      ·show(Ch.committed c).nts.length≤_
       unfold Ch.committed
       split
       ·exact Nat.zero_le _
       ·exact aCP _
      ·exact aCP _
theorem aRP(a b:Ch)(x:lV){n:Nat}(ha:a.nts.length≤n)(hb:b.nts.length≤n):(iU a b x).1.1.nts.length≤n+1∧(iU a b x).1.2.nts.length≤n+1:=by
 unfold iU
 split
 ·have:=aQH b a x
  exact⟨by show a.nts.length≤_;omega,by show(mB b a x).1.nts.length≤_;omega⟩
 ·have:=aQH a b x
  exact⟨by show(mB a b x).1.nts.length≤_;omega,by show b.nts.length≤_;omega⟩
end Go.Proofs.YtcoajnpchhmgjaaGreatDoor
namespace Go.Proofs.YtcoajnpchhmgjaaGreatDoor
open Go Go.RowKit Go.ChangeShapes
theorem dR.cells:PG.cellsOf dR=1:=by kernel_rfl
theorem dT.cells:PG.cellsOf dT=1:=by kernel_rfl
theorem cT.cells:PG.cellsOf cT=1:=by kernel_rfl
theorem iV.cells:PG.cellsOf iV=1:=by kernel_rfl
theorem bR.cells:PG.cellsOf bR=4:=by kernel_rfl
theorem gK.cells:PG.cellsOf gK=2:=by kernel_rfl
theorem eI.cells:PG.cellsOf eI=9:=by kernel_rfl
section
variable{H:Type}{enc:TypeId×Value->H}{w:World}{spare:Nat->Bool}{held:Bool}
theorem Pk.rd{cs:List Value}(h:Rd enc PG w spare held bR cs):∃p:Pk,cs=p.cells∧p.wf:=by
 obtain⟨hl,hf⟩:=aNe bR.und h
 rw[bR.cells] at hl
 match cs,hl with
 | [c0,c1,c2,c3],_=>
  have f0:Rd enc PG w spare held dR (([c0,c1,c2,c3].drop 0).take (PG.cellsOf dR)):=hf 0 _ rfl
  rw[dR.cells] at f0
  have f1:Rd enc PG w spare held dT (([c0,c1,c2,c3].drop 1).take (PG.cellsOf dT)):=hf 1 _ rfl
  rw[dT.cells] at f1
  have f2:Rd enc PG w spare held dT (([c0,c1,c2,c3].drop 2).take (PG.cellsOf dT)):=hf 2 _ rfl
  rw[dT.cells] at f2
  have f3:Rd enc PG w spare held cT (([c0,c1,c2,c3].drop 3).take (PG.cellsOf cT)):=hf 3 _ rfl
  rw[cT.cells] at f3
  obtain⟨n0,e0,-⟩:=aHO dR.und f0
  obtain⟨n1,e1,w1⟩:=aHO dT.und f1
  have w1:=aKk w1
  obtain⟨n2,e2,w2⟩:=aHO dT.und f2
  have w2:=aKk w2
  obtain⟨n3,e3,-⟩:=aNi cT.und f3
  simp only[List.drop_succ_cons,zLa,zLb,List.take_zero,mQ,and_true] at e0 e1 e2 e3
  subst e0 e1 e2 e3
  exact⟨⟨n0,n1,n2,n3⟩,rfl,w1.1,by show n1<_;omega,w2.1,by show n2<_;omega⟩
theorem lV.rd{cs:List Value}(h:Rd enc PG w spare held eI cs):∃p:lV,cs=p.cells∧p.wf:=by
 obtain⟨hl,hf⟩:=aNe eI.und h
 rw[eI.cells] at hl
 match cs,hl with
 | [c0,c1,c2,c3,c4,c5,c6,c7,c8],_=>
  have f0:Rd enc PG w spare held dR (([c0,c1,c2,c3,c4,c5,c6,c7,c8].drop 0).take (PG.cellsOf dR)):=hf 0 _ rfl
  rw[dR.cells] at f0
  have f1:Rd enc PG w spare held dR (([c0,c1,c2,c3,c4,c5,c6,c7,c8].drop 1).take (PG.cellsOf dR)):=hf 1 _ rfl
  rw[dR.cells] at f1
  have f2:Rd enc PG w spare held dT (([c0,c1,c2,c3,c4,c5,c6,c7,c8].drop 2).take (PG.cellsOf dT)):=hf 2 _ rfl
  rw[dT.cells] at f2
  have f3:Rd enc PG w spare held cT (([c0,c1,c2,c3,c4,c5,c6,c7,c8].drop 3).take (PG.cellsOf cT)):=hf 3 _ rfl
  rw[cT.cells] at f3
  have f4:Rd enc PG w spare held bR (([c0,c1,c2,c3,c4,c5,c6,c7,c8].drop 4).take (PG.cellsOf bR)):=hf 4 _ rfl
  rw[bR.cells] at f4
  have f5:Rd enc PG w spare held iV (([c0,c1,c2,c3,c4,c5,c6,c7,c8].drop 8).take (PG.cellsOf iV)):=hf 5 _ rfl
  rw[iV.cells] at f5
  obtain⟨n0,e0,-⟩:=aHO dR.und f0
  obtain⟨n1,e1,-⟩:=aHO dR.und f1
  obtain⟨n2,e2,w2⟩:=aHO dT.und f2
  have w2:=aKk w2
  obtain⟨n3,e3,-⟩:=aNi cT.und f3
  obtain⟨n4,e4,w4⟩:=Pk.rd f4
  obtain⟨n5,e5⟩:=aVh iV.und f5
  simp only[List.drop_succ_cons,zLa,zLb,List.take_zero,mQ,and_true,Pk.cells] at e0 e1 e2 e3 e4 e5
  obtain⟨rfl,rfl,rfl,rfl⟩:=e4
  subst e0 e1 e2 e3 e5
  exact by
   obtain⟨m,rfl⟩:=zLm w2.1
   exact⟨⟨n0,n1,m,n3.data.toList,n4,n5⟩,by rw[lV.cells,aH1],by show m<_;omega,w4⟩
theorem lV.rds:∀{rows:List (List Value)},(∀r∈rows,Rd enc PG w spare held eI r)->∃xs:List lV,rows=xs.map lV.cells∧∀x∈xs,x.wf
 | [],_=>⟨[],rfl,by simp⟩
 | r::rs,h=>by
  obtain⟨m,rfl,hm⟩:=lV.rd (h r (by simp))
  obtain⟨xs,rfl,hx⟩:=lV.rds (rows:=rs) (λx hx=>h x (by simp[hx]))
  exact⟨m::xs,rfl,λx hx'=>by rcases jG.1 hx' with rfl|h;exact hm;exact hx x h⟩
theorem u2c.rd{cs:List Value}(h:Rd enc PG w spare held gK cs):∃a b:Nat,cs=u2c a b∧a<18446744073709551616∧b<18446744073709551616:=by
 obtain⟨hl,hf⟩:=aTQ gK.und h
 rw[gK.cells] at hl
 match cs,hl with
 | [c0,c1],_=>
  have f0:Rd enc PG w spare held dT (([c0,c1].drop (0*PG.cellsOf dT)).take (PG.cellsOf dT)):=hf 0 (by decide)
  have f1:Rd enc PG w spare held dT (([c0,c1].drop (1*PG.cellsOf dT)).take (PG.cellsOf dT)):=hf 1 (by decide)
  rw[dT.cells] at f0 f1
  obtain⟨m0,q0,w0⟩:=aHO dT.und f0
  obtain⟨m1,q1,w1⟩:=aHO dT.und f1
  have w0:=aKk w0
  have w1:=aKk w1
  simp only[Nat.zero_mul,Nat.one_mul,List.drop_succ_cons,zLa,zLb,List.take_zero,mQ,and_true] at q0 q1
  subst q0 q1
  obtain⟨n0,rfl⟩:=zLm w0.1
  obtain⟨n1,rfl⟩:=zLm w1.1
  exact⟨n0,n1,rfl,by omega,by omega⟩
theorem aQK{r:Reach}{base:Nat}{v:Value}{d:DataW H}{p:List MemPlace}(hval:Value.okWide PG w r base gK v)(hd:DataW.Trod enc PG w 0 spare held gK v d p):
  ∃a b:Nat,v=tZ a b∧a<18446744073709551616∧b<18446744073709551616:=by
 have hu:PG.underlying gK=some (.array 2 dT):=gK.und
 simp only[Value.okWide,hu] at hval
 obtain⟨cs,rfl,_⟩:=hval
 obtain⟨a,b,e,ha,hb⟩:=u2c.rd (aTA hd)
 refine⟨a,b,?_,ha,hb⟩
 rw[tZ]
 congr 1
 exact Array.toList_inj.1 e
end
def aMV:List (String×DataW Unit):=[("carrack/sha.k",Rows.laid_carrack_sha_k)]
theorem aTb(os:Os)(args:Array Value):laidMetH Tryz.prog aMV ((World.doorLaid Tryz.prog 400 os).forCall (λ_ _=>0) ⟨#[],args,[]⟩).memory:=
 laidMetH_of_parts3 (fuel:=8) (laidMet_of_run' 8 (by kernel_rfl) (by kernel_rfl)) (by kernel_rfl) (by kernel_rfl)
theorem kOf{W:World}(h:laidMetH Tryz.prog aMV W):oA (aJI W):=by
 rw[MakeChecks.laidMetH_plain _ _ _ (by kernel_rfl)] at h
 obtain⟨ps,h1,_⟩:=h
 obtain⟨e,fr,hh⟩:=aMz (m:=3) (g:=0) (t:=gZ) h1 (aIJ ..) (by kernel_rfl) (by kernel_rfl) (by kernel_rfl)
 have hk:(aLM (Rows.laid_carrack_sha_k:DataW Unit)).toArray=(kT.map wv).toArray:=by kernel_rfl
 rw[hk] at hh
 exact⟨e,fr,hh⟩
end Go.Proofs.YtcoajnpchhmgjaaGreatDoor
namespace Go.Proofs.YtcoajnpchhmgjaaGreatDoor
open Go Bld
theorem aBH:({data:=#[]}:ByteArray)=tx []:=rfl
theorem aGk(p:Pr)(i n:Nat)(path:List Tx):(pJ p i n path).length=32:=by
 rw[pJ]
 split
 ·split<;>rfl
 ·rfl
theorem Lf.boxC{h:PH}{r:Nat}{f:Lf}{fv:Value}(B:Bx h r (f.cells fv)):bT PG h (loadAt eD (pT r 0))=some (f.val fv):=eD.agg B (by show 0+5≤5;decide)
theorem Lf.boxP{h:PH}{r:Nat}{f:Lf}{fv:Value}(B:Bx h r (f.cells fv)):bT PG h (loadAt eQ (pT r 2))=some f.p.val:=eQ.agg B (by show 2+2≤5;decide)
theorem aOa:∀(d:Nat) {h:PH} {f:Lf} {fv:Value} {i n:Nat} {b m:Nat} {A:List Tx} {K:List Nat},n≤2^d->1≤n->n≤4096->i<n->iT i n≤f.path.length->(∀x∈f.path,x.length=32)->f.p.k.length+f.p.v.length≤10000000->Bk b m A K h->iR h 1 fv (f.path.map kD)->Off b m fv->∀{k:eJ},
  (∀h',Bk b m (upA f.p i n f.path++A) K h'->eW [b,m] h h'->k (.string (tx (pJ f.p i n f.path))) h')->cR PG xZ #[pT b 0,f.val fv,.int .i64 (i:Int),.int .i64 (n:Int)] h k
 | d,h,f,fv,i,n,b,m,A,K,hd,h1,hn,hi,hdp,hall,hsm,H,S,hv,k,hk=>by
  apply yG.call
  unfold yG
  intro r1 hr1
  try rw[eY]
  have u1:fE h (h.set r1 (.cells (Value.cells (f.val fv)) eD)):=eW.new hr1
  have B1:Bx (h.set r1 (.cells (Value.cells (f.val fv)) eD)) r1 (f.cells fv):=Bx.new
  generalize h.set r1 (.cells (Value.cells (f.val fv)) eD)=h1' at *
  have H1:=H.ext u1
  have S1:=S.ext u1
  by_cases e1:n=1
  ·have q:((n:Int)==1)=true:=by simp[e1]
   have hA:upA f.p i n f.path=[aAn f.p]:=by rw[upA,dif_neg (by omega)]
   have hD:pJ f.p i n f.path=aFI f.p:=by rw[pJ,dif_neg (by omega)]
   simp only[jO,q,eD.f2,iG,Lf.boxP B1,eK,reduceIte,eX,Nat.reduceAdd]
   refine aTj H1 hsm λh2 B2 u2=>?_
   rw[hA,hD] at hk
   exact hk h2 B2 (u1.upd.trans u2)
  ·have q:((n:Int)==1)=false:=by simp;omega
   have h2:2≤n:=by omega
   obtain⟨m1,m2⟩:=mK h2
   cases d with
   | zero=>simp at hd;omega
   | succ d=>
    obtain⟨a,b'⟩:=aEW h2 hd
    have lp:bT PG h1' (loadAt eS (pT r1 4))=some fv:=by rw[eS.load,B1.cell];rfl
    simp only[jO,q,eK,reduceIte,eX,Nat.reduceAdd]
    refine aIb h2 (by omega) ?_
    simp only[eD.f3,iG,lp,eK,reduceIte,eX,Nat.reduceAdd]
    have hpos:1≤iT i n:=by
     rw[iT,dif_pos h2];split<;>omega
    have hdl:=aIe 12 i n (by omega)
    refine aIv 12 (by omega) h1 hn hi ?_
    refine⟨lp,?_⟩
    have w1:IntKind.i64.wrap (((iT i n:Nat):Int)-1)=((iT i n-1:Nat):Int):=by rw[gD (by omega) (by omega)];omega
    obtain⟨x,hx⟩:∃x,f.path[iT i n-1]? =some x:=⟨_,nM (by omega)⟩
    obtain⟨pa,ha1,ha2⟩:=S1.st hx
    have hgx:f.path.getD (iT i n-1) []=x:=by rw[aAN,hx];rfl
    have hxl:=hall x (uJ hx)
    by_cases c:i<fV n
    ·have g:((i:Int)<((fV n:Nat):Int))=True:=eq_true (by omega)
     have he:iT i n=1+iT i (fV n):=by rw[iT,dif_pos h2,if_pos c]
     have hA:upA f.p i n f.path=sF (pJ f.p i (fV n) f.path) x::upA f.p i (fV n) f.path:=by rw[upA,dif_pos h2,if_pos c,hgx]
     have hD:pJ f.p i n f.path=zJ (pJ f.p i (fV n) f.path) x:=by rw[pJ,dif_pos h2,if_pos c,hgx]
     simp only[w1,ha1,ha2,g,Lf.boxC B1,eK,reduceIte,eX,Nat.reduceAdd]
     refine aOa d a (by omega) (by omega) c (by omega) hall hsm H1 S1 hv λh3 B3 u3=>?_
     have s1:aT PG (binOp .add cT (.string (tx [1])) (.string (tx (pJ f.p i (fV n) f.path))))=some (.string (tx ([1]++pJ f.p i (fV n) f.path))):=mR (by rw[aGk];decide)
     have s2:aT PG (binOp .add cT (.string (tx ([1]++pJ f.p i (fV n) f.path))) (.string (tx x)))=some (.string (tx (sF (pJ f.p i (fV n) f.path) x))):=by
      rw[mR (by rw[lH,aGk,hxl];decide)];rfl
     simp only[tx1,s1,s2,eK,reduceIte,eX,Nat.reduceAdd]
     refine aLa B3 (by simp[sF,aGk,hxl]) λh4 B4 u4=>?_
     rw[hA,hD,aMJ] at hk
     exact hk h4 B4 ((u1.upd.trans u3).trans u4)
    ·have g:((i:Int)<((fV n:Nat):Int))=False:=eq_false (by omega)
     have he:iT i n=1+iT (i-fV n) (n-fV n):=by rw[iT,dif_pos h2,if_neg c]
     have hA:upA f.p i n f.path=sF x (pJ f.p (i-fV n) (n-fV n) f.path)::upA f.p (i-fV n) (n-fV n) f.path:=by rw[upA,dif_pos h2,if_neg c,hgx]
     have hD:pJ f.p i n f.path=zJ x (pJ f.p (i-fV n) (n-fV n) f.path):=by rw[pJ,dif_pos h2,if_neg c,hgx]
     have w3:IntKind.i64.wrap ((i:Int)-((fV n:Nat):Int))=((i-fV n:Nat):Int):=by rw[gD (by omega) (by omega)];omega
     have w4:IntKind.i64.wrap ((n:Int)-((fV n:Nat):Int))=((n-fV n:Nat):Int):=by rw[gD (by omega) (by omega)];omega
     have s1:aT PG (binOp .add cT (.string (tx [1])) (.string (tx x)))=some (.string (tx ([1]++x))):=mR (by rw[hxl];decide)
     simp only[w1,ha1,ha2,g,w3,w4,tx1,s1,Lf.boxC B1,eK,reduceIte,eX,Nat.reduceAdd]
     refine aOa d b' (by omega) (by omega) (by omega) (by omega) hall hsm H1 S1 hv λh3 B3 u3=>?_
     have s2:aT PG (binOp .add cT (.string (tx ([1]++x))) (.string (tx (pJ f.p (i-fV n) (n-fV n) f.path))))=some (.string (tx (sF x (pJ f.p (i-fV n) (n-fV n) f.path)))):=by
      rw[mR (by rw[lH,aGk,hxl];decide)];rfl
     simp only[s2,eK,reduceIte,eX,Nat.reduceAdd]
     refine aLa B3 (by simp[sF,aGk,hxl]) λh4 B4 u4=>?_
     rw[hA,hD,aMJ] at hk
     exact hk h4 B4 ((u1.upd.trans u3).trans u4)
theorem aSe{h:PH}{f:Lf}{fv:Value}{b m:Nat}{A:List Tx}{K:List Nat}(H:Bk b m A K h)(S:iR h 1 fv (f.path.map kD))(hv:Off b m fv)(hpl:f.path.length≤1000000)(hsm:f.p.k.length+f.p.v.length≤10000000){k:eJ}
  (hbad:¬OkC f->∀h',Bk b m A K h'->eW [b,m] h h'->k (.tuple #[.string (tx []),.bool false]) h')
  (hk:OkC f->∀h',Bk b m (aGJ f++A) K h'->eW [b,m] h h'->k (.tuple #[.string (tx (aH5 f.n.toNat (aKT f))),.bool true]) h'):
  cR PG aCH #[pT b 0,f.val fv] h k:=by
 apply sQ.call
 unfold sQ
 intro r1 hr1
 try rw[eY]
 have u1:fE h (h.set r1 (.cells (Value.cells (f.val fv)) eD)):=eW.new hr1
 have B1:Bx (h.set r1 (.cells (Value.cells (f.val fv)) eD)) r1 (f.cells fv):=Bx.new
 generalize h.set r1 (.cells (Value.cells (f.val fv)) eD)=h1 at *
 have H1:=H.ext u1
 have S1:=S.ext u1
 have c0:fH h1 ⟨r1,0,none⟩=some (.int .i64 f.i):=B1.cell 0
 have c1:fH h1 ⟨r1,1,none⟩=some (.int .i64 f.n):=B1.cell 1
 have c4:fH h1 ⟨r1,4,none⟩=some fv:=B1.cell 4
 have lp:=aMi S1
 have no:¬OkC f->k (.tuple #[.string (tx []),.bool false]) h1:=λhn=>hbad hn h1 H1 u1.upd
 by_cases d1:f.n<1
 ·have g1:=eq_true d1
  simp only[eD.f1,iG,dR.load,c1,g1,aBH,eK,reduceIte,eX,Nat.reduceAdd]
  exact⟨λh=>by simp at h,no λO=>by have:=O.n1;omega⟩
 have g1:=eq_false d1
 by_cases d2:4096<f.n
 ·have g2:=eq_true d2
  simp only[eD.f1,iG,dR.load,c1,g1,g2,aBH,eK,reduceIte,eX,Nat.reduceAdd]
  exact⟨λh=>by simp at h,no λO=>by have:=O.n2;omega⟩
 have g2:=eq_false d2
 by_cases d3:f.i<0
 ·have g3:=eq_true d3
  simp only[eD.f0,eD.f1,iG,dR.load,c0,c1,g1,g2,g3,aBH,eK,reduceIte,eX,Nat.reduceAdd]
  exact⟨λh=>by simp at h,no λO=>by have:=O.i1;omega⟩
 have g3:=eq_false d3
 by_cases d4:f.n≤f.i
 ·have g4:=eq_true d4
  simp only[eD.f0,eD.f1,iG,dR.load,c0,c1,g1,g2,g3,g4,aBH,eK,reduceIte,eX,Nat.reduceAdd]
  exact⟨λh=>by simp at h,no λO=>by have:=O.i2;omega⟩
 have g4:=eq_false d4
 obtain⟨i,hi⟩:∃i:Nat,f.i=(i:Int):=⟨f.i.toNat,by omega⟩
 obtain⟨n,hn⟩:∃n:Nat,f.n=(n:Int):=⟨f.n.toNat,by omega⟩
 have lpath:bT PG h1 (loadAt eS (pT r1 4))=some fv:=by rw[eS.load];exact c4
 simp only[eD.f0,eD.f1,eD.f3,iG,dR.load,lpath,c0,c1,g1,g2,g3,g4,lp,eK,reduceIte,eX,Nat.reduceAdd]
 rw[hi,hn]
 refine aIv 12 (by omega) (by omega) (by omega) (by omega) ?_
 refine⟨λ_=>lpath,?_⟩
 by_cases d5:f.path.length=iT i n
 case neg=>
  have g5:((f.path.length:Int) !=((iT i n:Nat):Int))=true:=by simp;omega
  simp only[lR,g5,aBH,eK,reduceIte,eX,Nat.reduceAdd]
  exact no λO=>d5 (by have:=O.len;rw[hi,hn] at this;exact this)
 have g5:((f.path.length:Int) !=((iT i n:Nat):Int))=false:=by simp;omega
 simp only[lR,g5,eK,reduceIte,eX,Nat.reduceAdd]
 refine⟨λvs h'=>∃j:Nat,j≤f.path.length∧vs=[pT b 0,pT r1 0,.int .i64 (j:Int)]∧h'=h1∧∀x∈f.path.take j,x.length=32,jP f.path.length 2,⟨0,by omega,rfl,rfl,λx hx=>by simp at hx⟩,?_⟩
 rintro ρ h' ⟨j,hj,hvs,rfl,hal⟩
 simp only[jT,kF,mQ,and_true] at hvs
 obtain⟨v0,v1,v2⟩:=hvs
 unfold aEx
 rw[v0,v1,v2]
 by_cases hlt:j<f.path.length
 ·have g:((j:Int)<(f.path.length:Int))=True:=eq_true (by omega)
  have gj:IntKind.i64.wrap ((j:Int)+1)=((j+1:Nat):Int):=by rw[gD (by omega) (by omega)];omega
  obtain⟨x,hx⟩:∃x,f.path[j]? =some x:=⟨_,nM hlt⟩
  obtain⟨pa,ha1,ha2⟩:=S1.st hx
  have lx:aT PG (Builtin.len_ #[cT] dR #[.string (tx x)])=some (.int .i64 (x.length:Int)):=by rw[mW cT.und,jL]
  by_cases hx32:x.length=32
  ·have q:((x.length:Int) !=32)=false:=by simp[hx32]
   simp only[eD.f3,iG,lpath,lp,g,ha1,ha2,lx,lR,q,gj,eK,reduceIte,eX,Nat.reduceAdd]
   refine⟨⟨j+1,by omega,rfl,by trivial,λy hy=>?_⟩,by simp[jP,v2];omega⟩
   rw[zLR,hx] at hy
   rcases kR.1 hy with hy|hy
   ·exact hal y hy
   ·simp only[Option.toList_some,iQ] at hy
    rw[hy];exact hx32
  ·have q:((x.length:Int) !=32)=true:=by simp;omega
   simp only[eD.f3,iG,lpath,lp,g,ha1,ha2,lx,lR,q,aBH,eK,reduceIte,eX,Nat.reduceAdd]
   exact no λO=>hx32 (O.all x (uJ hx))
 ·have g:((j:Int)<(f.path.length:Int))=False:=eq_false (by omega)
  rw[qR (by omega)] at hal
  have O:OkC f:=⟨by omega,by omega,by omega,by omega,by rw[hi,hn];exact d5,hal⟩
  simp only[eD.f0,eD.f1,eD.f3,iG,dR.load,lpath,lp,g,c0,c1,Lf.boxC B1,eK,reduceIte,eX,Nat.reduceAdd]
  rw[hi,hn]
  refine aOa 12 (by omega) (by omega) (by omega) (by omega) (by omega) hal hsm H1 S1 hv λh2 B2 u2=>?_
  have k1b:=H1.known b (by simp)
  have hr1b:r1∉[b,m]:=λhm'=>by
   simp only[jG,mD,or_false] at hm'
   rcases hm' with rfl|rfl
   ·exact H.known _ (by simp) hr1
   ·exact H.known _ (by simp) hr1
  have B1':=B1.upd u2 hr1b
  have c1':fH h2 ⟨r1,1,none⟩=some (.int .i64 (n:Int)):=by rw[←hn];exact B1'.cell 1
  refine⟨c1',?_⟩
  refine aVB B2 (by omega) (by rw[aGk];decide) λh3 B3 u3=>?_
  have hk:=hk O
  unfold aGJ aKT at hk
  rw[hi,hn] at hk
  exact hk h3 B3 ((u1.upd.trans u2).trans u3)
theorem aNs{h:PH}{v:Value}{l:List Pr}(S:iR h 2 v (l.map Pr.cells))(hl:l.length≤1000000)(key:Tx){k:eJ}(hk:k (.int .i64 ((jC l key:Nat):Int)) h):cR PG yC #[v,.string (tx key)] h k:=by
 apply aBQ.call
 unfold aBQ
 have lv:=S.len (t':=dR) eM.und
 rw[kQ] at lv
 refine⟨λvs h'=>∃j:Nat,j≤l.length∧vs=[v,.string (tx key),.int .i64 ((jC (l.take j) key:Nat):Int),.int .i64 (j:Int)]∧h'=h,jP l.length 3,⟨0,by omega,rfl,rfl⟩,?_⟩
 rintro ρ h' ⟨j,hj,hvs,rfl⟩
 simp only[jT,kF,mQ,and_true] at hvs
 obtain⟨v0,v1,v2,v3⟩:=hvs
 unfold aFo aBf aE4
 rw[v0,v1,v2,v3]
 by_cases hlt:j<l.length
 ·have g:((j:Int)<(l.length:Int))=True:=eq_true (by omega)
  have gj:IntKind.i64.wrap ((j:Int)+1)=((j+1:Nat):Int):=by rw[gD (by omega) (by omega)];omega
  obtain⟨p,hp⟩:∃p,l[j]? =some p:=⟨_,nM hlt⟩
  obtain⟨x,o,e2,e3,-,-⟩:=S.pair hp
  have hpl:jC (l.take j) key≤j:=zLB (List.length_filter_le _ _) (by rw[vZ];omega)
  have gp:IntKind.i64.wrap (((jC (l.take j) key:Nat):Int)+1)=((jC (l.take j) key+1:Nat):Int):=by rw[gD (by omega) (by omega)];omega
  have et:l.take (j+1)=l.take j++[p]:=by rw[zLR,hp];rfl
  by_cases c:p.k<key
  ·simp only[lv,g,e2,eQ.f0,cT.load,e3,xQ,c,gp,gj,eK,reduceIte,eX,Nat.reduceAdd]
   refine⟨⟨j+1,by omega,?_,by trivial⟩,by simp[jP,v3];omega⟩
   rw[et]
   unfold jC
   rw[aLI]
   simp[c]
  ·simp only[lv,g,e2,eQ.f0,cT.load,e3,xQ,c,gj,eK,reduceIte,eX,Nat.reduceAdd]
   refine⟨⟨j+1,by omega,?_,by trivial⟩,by simp[jP,v3];omega⟩
   rw[et]
   unfold jC
   rw[aLI]
   simp[c]
 ·have g:((j:Int)<(l.length:Int))=False:=eq_false (by omega)
  rw[qR (by omega)]
  simp only[lv,g,eK,reduceIte,eX,Nat.reduceAdd]
  exact hk
theorem aJb{h:PH}{v:Value}{l:List Pr}{j b m:Nat}{A:List Tx}{K:List Nat}(H:Bk b m A K h)(S:iR h 2 v (l.map Pr.cells))(hv:Off b m v)(hs:aAK l)(hl:l.length≤4096)(hj:j<l.length){k:eJ}
  (hk:∀h' pv F,Bk b m A K h'->gU h' cT 1 pv ((lB l j).path.map kD) F->gQ h F->eW [b,m] h h'->k ((lB l j).val pv) h'):
  cR PG qX #[pT b 0,v,.int .i64 (j:Int)] h k:=by
 apply uY.call
 unfold uY
 intro r1 hr1
 try rw[eY]
 have hr1b:r1∉[b,m]:=λhm'=>by
  simp only[jG,mD,or_false] at hm'
  rcases hm' with rfl|rfl
  ·exact H.known _ (by simp) hr1
  ·exact H.known _ (by simp) hr1
 have u1:fE h (h.set r1 (.cells (fY PG eD) eD)):=eW.new hr1
 have Z1:=eD.zbox (h:=h) (r:=r1)
 generalize h.set r1 (.cells (fY PG eD) eD)=h1 at *
 have lv:=S.len (t':=dR) eM.und
 rw[kQ] at lv
 obtain⟨p,hp⟩:∃p,l[j]? =some p:=⟨_,nM hj⟩
 obtain⟨x,o,e2,-,-,e3⟩:=(S.ext u1).pair hp
 simp only[lv,e2,e3,eK,reduceIte,eX,Nat.reduceAdd]
 refine aLz l.length (sL _) hj (by omega) (H.ext u1) (S.ext u1) hv hs λh2 pv F B2 O2 f2 u2=>?_
 have e3':bT PG h2 (loadAt eQ (pT x o))=some p.val:=by
  obtain⟨x',o',e2',-,-,e3'⟩:=((S.ext u1).upd u2 hv).pair hp
  have e:(some (pT x o))=some (pT x' o'):=e2.symm.trans e2'
  simp only[zL5,Value.pointer.injEq,Addr.mk.injEq,and_true] at e
  rw[e.1,e.2];exact e3'
 refine⟨e3',?_⟩
 obtain⟨pa,pc,epv,-⟩:=O2.slR.here
 have elf:lB l j=⟨(j:Int),(l.length:Int),p,nQ l j⟩:=aHN hp
 have hb:aT PG (build eD #[(0,.int .i64 (j:Int)),(1,.int .i64 (l.length:Int)),(2,p.val),(3,pv)])=some ((lB l j).val pv):=by
  rw[epv,elf];exact aUk _ _ _ _ _ _
 have F1:r1∉F:=λhm=>Z1.known (f2 _ hm)
 have Z2:=Z1.upd u2 hr1b
 simp only[hb,eK,reduceIte,eX,Nat.reduceAdd]
 refine eD.put Z2 (o:=0) (vs:=(lB l j).cells pv) rfl (by show 0+5≤5;decide) (Lf.isC _ O2.slR.isc) λh3 B3 u3=>?_
 have B3:Bx h3 r1 ((lB l j).cells pv):=B3
 simp only[Lf.boxC B3,eK,reduceIte,eX,Nat.reduceAdd]
 refine hk h3 pv F (B2.upd u3 (λx hx hm=>?_)) ?_ (λx hx=>u1.none (f2 x hx)) ((u1.upd.trans u2).then u3 (λx hx=>?_))
 ·simp only[iQ] at hm
  subst hm
  exact H.known _ hx hr1
 ·rw[elf]
  exact O2.upd u3 (λx hx=>by simp only[iQ];rintro rfl;exact F1 hx)
 ·simp only[iQ] at hx
  subst hx;exact .inr hr1
theorem oN.push{h0 h1 h2:PH}{v:Value}{fs:List Lf}{b m:Nat}(H:oN h0 h1 v fs)(kb:h0 b≠none)(km:h0 m≠none)(u:eW [b,m] h1 h2)(n01:∀x,h1 x=none->h0 x=none)(n02:∀x,h2 x=none->h0 x=none){f:Lf}{pv:Value}{G:List Nat}(O:gU h2 cT 1 pv (f.path.map kD) G)(fG:gQ h1 G)(hl:fs.length≤1000){R:eJ}
  (hR:∀h3 v' F',oN h0 h3 v' (fs++[f])->gQ h0 F'->eW F' h2 h3->R v' h3):
  aR (iP PG (buildSlice eR 1 #[(0,f.val pv)])) λx40=>∀r39,h2 r39=none->aR (aT PG (x40.2 r39)) λv41=>eZ PG (Builtin.append_ #[eR,eR] eR #[v,v41]) (PH.set h2 r39 x40.1) R:=by
 obtain⟨l,F,e,OL,fF,L⟩:=H.here
 simp only[aLQ,eK,reduceIte,eX,Nat.reduceAdd]
 intro r hr
 refine iK ?_
 try rw[eY]
 have u4:fE h2 (h2.set r (.cells (f.cells pv).toArray eD)):=eW.new hr
 have s4:iR (h2.set r (.cells (f.cells pv).toArray eD)) 5 (.slice (some ⟨r,0,none⟩) 1 1) ([((f,pv):LV)].map qS):=(gU.lit (n:=1) (qS.rows [(f,pv)]) fP (by simp) (by decide) (by simp[qS])).slR
 generalize h2.set r (.cells (f.cells pv).toArray eD)=h4 at *
 have hF2:∀x∈F,x∉[b,m]:=fF.off kb km
 have hlen:l.length=fs.length:=by rw[←e,kQ]
 refine kU eR.und eR.und eD.info eD.size eD.bytes eD.zero rfl (by decide) ((OL.upd u hF2).ext u4) s4 (λr hr u hu=>by
  obtain⟨y,hy,rfl⟩:=mT.1 hr
  simp only[iQ] at hy
  subst hy
  exact Lf.isC _ O.slR.isc u hu) (by simp only[kQ,zLQ];omega) ?_
 intro v5 h5 F5 O5 u5 k5 _
 rw[←rL] at O5
 have hFk:∀x∈F,h1 x≠none:=OL.known
 have GF:∀x∈G,x∉F:=λx hx hx'=>hFk x hx' (fG x hx)
 have f5:gQ h0 F5:=λx hx=>by
  rcases k5 x hx with hx|hx
  ·exact fF x hx
  ·exact n02 x (u4.none hx)
 refine hR h5 v5 F ⟨⟨l++[(f,pv)],F5,by rw[rL,e];rfl,O5,f5,λy hy=>?_⟩⟩ fF (u4.upd.trans u5)
 rcases kR.1 hy with hy|hy
 ·obtain⟨G',O',f',d'⟩:=L y hy
  have k1:∀x∈G',h1 x≠none:=O'.known
  refine⟨G',((O'.upd u (f'.off kb km)).ext u4).upd u5 (λx hx=>d' x hx),f',λx hx hx5=>?_⟩
  rcases k5 x hx5 with h|h
  ·exact d' x hx h
  ·exact((O'.upd u (f'.off kb km)).ext u4).known x hx h
 ·simp only[iQ] at hy
  subst hy
  refine⟨G,(O.ext u4).upd u5 GF,λx hx=>n01 x (fG x hx),λx hx hx5=>?_⟩
  rcases k5 x hx5 with h|h
  ·exact GF x hx h
  ·exact(O.ext u4).known x hx h
theorem oN.one{h0 h2:PH}{f:Lf}{pv:Value}{G:List Nat}(O:gU h2 cT 1 pv (f.path.map kD) G)(fG:gQ h0 G)(n02:∀x,h2 x=none->h0 x=none){r:Nat}(hr:h2 r=none):
  oN h0 (h2.set r (.cells (f.cells pv).toArray eD)) (.slice (some ⟨r,0,none⟩) 1 1) [f]∧fE h2 (h2.set r (.cells (f.cells pv).toArray eD)):=by
 have u4:fE h2 (h2.set r (.cells (f.cells pv).toArray eD)):=eW.new hr
 have O4:gU (h2.set r (.cells (f.cells pv).toArray eD)) eD 5 (.slice (some ⟨r,0,none⟩) 1 1) ([((f,pv):LV)].map qS) [r]:=gU.lit (n:=1) (qS.rows [(f,pv)]) fP (by simp) (by decide) (by simp[qS])
 generalize h2.set r (.cells (f.cells pv).toArray eD)=h4 at *
 refine⟨⟨⟨[(f,pv)],[r],rfl,O4,λx hx=>?_,λy hy=>?_⟩⟩,u4⟩
 ·simp only[iQ] at hx
  subst hx;exact n02 _ hr
 ·simp only[iQ] at hy
  subst hy
  refine⟨G,O.ext u4,fG,λx hx hx5=>?_⟩
  simp only[iQ] at hx5
  subst hx5
  exact O.known _ hx hr
theorem Pf.boxC{h:PH}{r:Nat}{ab:Bool}{v:Value}(B:Bx h r [.bool ab,v]):bT PG h (loadAt eH (pT r 0))=some (Pf.val ab v):=eH.agg B (by show 0+2≤2;decide)
theorem aHH{l:List Pr}(H:rG l){key:Tx}:(jI l key).isSome=true↔∃p,l[jC l key]? =some p∧p.k=key:=by
 constructor
 ·intro h
  obtain⟨p,hp⟩:=Option.isSome_iff_exists.1 h
  exact⟨p,aIz H hp,((uQ H).1 hp).2⟩
 ·rintro⟨p,h1,h2⟩
  rw[(uQ H).2 ⟨uJ h1,h2⟩];rfl
theorem aPy{h:PH}{v:Value}{l:List Pr}{key:Tx}{b m:Nat}{A:List Tx}{K:List Nat}(H:Bk b m A K h)(M:MOk l)(S:iR h 2 v (l.map Pr.cells))(hv:Off b m v){k:eJ}
  (hno:jI l key=none->∀h',Bk b m A K h'->eW [b,m] h h'->k (.tuple #[Pf.val false (.slice none 0 0),.int .i64 3]) h')
  (hyes:(jI l key).isSome=true->∀h' v',Bk b m A K h'->oN h h' v' [lB l (jC l key)]->eW [b,m] h h'->k (.tuple #[Pf.val false v',.int .i64 0]) h'):
  cR PG aA4 #[pT b 0,v,.string (tx key)] h k:=by
 apply zL.call
 unfold zL
 have hl:=M.len
 have kb:=H.known b (by simp)
 have km:=H.known m (by simp)
 intro r1 hr1
 try rw[eY]
 have hr1b:r1∉[b,m]:=(gQ.one hr1).off kb km r1 (by simp)
 have u1:fE h (h.set r1 (.cells (fY PG eH) eH)):=eW.new hr1
 have Z1:=eH.zbox (h:=h) (r:=r1)
 generalize h.set r1 (.cells (fY PG eH) eH)=h1 at *
 have H1:=H.ext u1
 have S1:=S.ext u1
 have lv:=S.len (t':=dR) eM.und
 rw[kQ] at lv
 have hple:=aIR l key
 have no:jI l key=none->aR (aT PG (build eH #[])) λv33=>eZ PG (fQ eH (pT r1 0) v33) h1 λv34 h35=>aR (bT PG h35 (loadAt eH (pT r1 0))) λv36=>k (Value.tuple #[v36,(Value.int IntKind.i64 3)]) h35:=λhn=>by
  simp only[aFw,eK,reduceIte,eX,Nat.reduceAdd]
  refine eH.put (vs:=[.bool false,.slice none 0 0]) Z1 (o:=0) rfl (by show 0+2≤2;decide) (by simp[iF]) λh6 B6 u6=>?_
  have B6:Bx h6 r1 [.bool false,.slice none 0 0]:=B6
  simp only[Pf.boxC B6,eK,reduceIte,eX,Nat.reduceAdd]
  exact hno hn h6 (H1.upd u6 (λx hx hm=>by simp only[iQ] at hm;subst hm;exact H.known _ hx hr1)) ((u1.upd (F:=[b,m])).then u6 (λx hx=>by simp only[iQ] at hx;subst hx;exact .inr hr1))
 refine aNs S1 (by omega) key ?_
 by_cases c1:jC l key=l.length
 ·have q:(((jC l key:Nat):Int)==(l.length:Int))=true:=by rw[beq_iff_eq];omega
  simp only[lv,jO,q,eK,reduceIte,eX,Nat.reduceAdd]
  refine no ?_
  have:¬(jI l key).isSome=true:=λh=>by
   obtain⟨p,h1,-⟩:=(aHH M.up).1 h
   have:=(zLx.1 h1).1
   omega
  simpa using this
 ·have q:(((jC l key:Nat):Int)==(l.length:Int))=false:=by rw[beq_eq_false_iff_ne];omega
  obtain⟨p,hp⟩:∃p,l[jC l key]? =some p:=⟨_,nM (by omega)⟩
  obtain⟨x,o,e2,e3,-,-⟩:=S1.pair hp
  by_cases c2:p.k=key
  ·have q2:(!decide (p.k=key))=false:=by simp[c2]
   simp only[lv,jO,q,e2,eQ.f0,cT.load,e3,aEw,q2,eK,reduceIte,eX,Nat.reduceAdd]
   refine aJb H1 S1 hv M.small hl (by omega) λh2 pv F B2 O2 f2 u2=>?_
   have n02:∀x,h2 x=none->h1 x=none:=λx hx=>u2.grow2 (B2.known b (by simp)) (B2.known m (by simp)) hx
   simp only[aLQ,eK,reduceIte,eX,Nat.reduceAdd]
   intro r9 hr9
   refine iK ?_
   try rw[eY]
   obtain⟨L3,u3⟩:=oN.one O2 f2 n02 hr9
   generalize h2.set r9 (.cells ((lB l (jC l key)).cells pv).toArray eD)=h3 at *
   simp only[aUs,eK,reduceIte,eX,Nat.reduceAdd]
   obtain⟨v3,ev3⟩:∃v3:Value,v3= .slice (some ⟨r9,0,none⟩) 1 1:=⟨_,rfl⟩
   rw[←ev3] at L3 ⊢
   refine eH.put (vs:=[.bool false,v3]) ((Z1.upd u2 hr1b).ext u3) (o:=0) rfl (by show 0+2≤2;decide) (by
    have:=L3.isc
    simp[iF];exact this) λh6 B6 u6=>?_
   have B6:Bx h6 r1 [.bool false,v3]:=B6
   simp only[Pf.boxC B6,eK,reduceIte,eX,Nat.reduceAdd]
   refine hyes ((aHH M.up).2 ⟨p,hp,c2⟩) h6 v3 ((B2.ext u3).upd u6 (λx hx hm=>by simp only[iQ] at hm;subst hm;exact H.known _ hx hr1)) ((L3.upd u6 (λx hx=>by simp only[iQ] at hx;subst hx;exact Z1.known)).of u1) (((u1.upd.trans u2).trans u3.upd).then u6 (λx hx=>by simp only[iQ] at hx;subst hx;exact .inr hr1))
  ·have q2:(!decide (p.k=key))=true:=by simp[c2]
   simp only[lv,jO,q,e2,eQ.f0,cT.load,e3,aEw,q2,eK,reduceIte,eX,Nat.reduceAdd]
   refine no ?_
   have:¬(jI l key).isSome=true:=λh=>by
    obtain⟨p',h1,h2⟩:=(aHH M.up).1 h
    rw[hp] at h1
    obtain rfl:=aJf h1
    exact c2 h2
   simpa using this
theorem aQ9{h:PH}{v:Value}{l:List Pr}{key:Tx}{b m:Nat}{A:List Tx}{K:List Nat}(H:Bk b m A K h)(M:MOk l)(S:iR h 2 v (l.map Pr.cells))(hv:Off b m v){k:eJ}
  (hbad:¬(1≤key.length∧key.length≤16)->∀h',Bk b m A K h'->eW [b,m] h h'->k (.tuple #[Pf.val false (.slice none 0 0),.int .i64 1]) h')
  (hyes:(1≤key.length∧key.length≤16)->(jI l key).isSome=true->∀h',Bk b m A K h'->eW [b,m] h h'->k (.tuple #[Pf.val false (.slice none 0 0),.int .i64 4]) h')
  (hk:(1≤key.length∧key.length≤16)->jI l key=none->∀h' v',Bk b m A K h'->oN h h' v' (kK l key).lv->eW [b,m] h h'->k (.tuple #[Pf.val true v',.int .i64 0]) h'):
  cR PG aBh #[pT b 0,v,.string (tx key)] h k:=by
 apply rQ.call
 unfold rQ
 have hl:=M.len
 have kb:=H.known b (by simp)
 have km:=H.known m (by simp)
 intro r1 hr1
 try rw[eY]
 have hr1b:r1∉[b,m]:=(gQ.one hr1).off kb km r1 (by simp)
 have u1:fE h (h.set r1 (.cells (fY PG eH) eH)):=eW.new hr1
 have Z1:=eH.zbox (h:=h) (r:=r1)
 generalize h.set r1 (.cells (fY PG eH) eH)=h1 at *
 have H1:=H.ext u1
 have S1:=S.ext u1
 have lk:aT PG (Builtin.len_ #[cT] dR #[.string (tx key)])=some (.int .i64 (key.length:Int)):=by rw[mW cT.und,jL]
 have lv:=S.len (t':=dR) eM.und
 rw[kQ] at lv
 have hple:=aIR l key
 have no:∀e:Int,(∀h',Bk b m A K h'->eW [b,m] h h'->k (.tuple #[Pf.val false (.slice none 0 0),.int .i64 e]) h')->aR (aT PG (build eH #[])) λv33=>eZ PG (fQ eH (pT r1 0) v33) h1 λv34 h35=>aR (bT PG h35 (loadAt eH (pT r1 0))) λv36=>k (Value.tuple #[v36,(Value.int IntKind.i64 e)]) h35:=λe hn=>by
  simp only[aFw,eK,reduceIte,eX,Nat.reduceAdd]
  refine eH.put (vs:=[.bool false,.slice none 0 0]) Z1 (o:=0) rfl (by show 0+2≤2;decide) (by simp[iF]) λh6 B6 u6=>?_
  have B6:Bx h6 r1 [.bool false,.slice none 0 0]:=B6
  simp only[Pf.boxC B6,eK,reduceIte,eX,Nat.reduceAdd]
  exact hn h6 (H1.upd u6 (λx hx hm=>by simp only[iQ] at hm;subst hm;exact H.known _ hx hr1)) ((u1.upd (F:=[b,m])).then u6 (λx hx=>by simp only[iQ] at hx;subst hx;exact .inr hr1))
 by_cases d1:key.length<1
 ·have g1:((key.length:Int)<1)=True:=eq_true (by omega)
  simp only[lk,g1,eK,reduceIte,eX,Nat.reduceAdd]
  exact no 1 (hbad (by omega))
 have g1:((key.length:Int)<1)=False:=eq_false (by omega)
 by_cases d2:16<key.length
 ·have g2:((16:Int)<(key.length:Int))=True:=eq_true (by omega)
  simp only[lk,g1,g2,eK,reduceIte,eX,Nat.reduceAdd]
  exact no 1 (hbad (by omega))
 have g2:((16:Int)<(key.length:Int))=False:=eq_false (by omega)
 have hkl:1≤key.length∧key.length≤16:=by omega
 simp only[lk,g1,g2,eK,reduceIte,eX,Nat.reduceAdd]
 refine aNs S1 (by omega) key ?_
 obtain⟨n,hn⟩:∃n,n=jC l key:=⟨_,rfl⟩
 rw[←hn] at hple
 rw[←hn]
 have lvS:∀{t':TypeId},aT PG (Builtin.len_ #[eM] t' #[v])=some (.int .i64 (l.length:Int)):=fun {t'}=>by
  have:=S.len (t':=t') eM.und
  rw[kQ] at this;exact this
 cases hg:(jI l key).isSome with
 | true=>
  obtain⟨p,hp,c2⟩:=(aHH M.up).1 hg
  rw[←hn] at hp
  have hnl:=(zLx.1 hp).1
  have q:(((n:Nat):Int)<(l.length:Int))=True:=eq_true (by omega)
  obtain⟨x,o,e2,e3,-,-⟩:=S1.pair hp
  have q2:decide (p.k=key)=true:=by simp[c2]
  simp only[lv,q,e2,eQ.f0,cT.load,e3,aEv,q2,eK,reduceIte,eX,Nat.reduceAdd]
  exact no 4 (hyes hkl hg)
 | false=>
  have hg':jI l key=none:=by simpa using hg
  have hno:∀p,l[n]? =some p->p.k≠key:=λp hp e=>by
   have:=(aHH M.up).2 ⟨p,by rw[←hn];exact hp,e⟩
   rw[hg] at this;cases this
  have hpf:(kK l key).lv=(if 0<n then [lB l (n-1)] else [])++(if n<l.length then [lB l n] else []):=by
   unfold kK
   rw[hg,if_neg (by decide),←hn]
   by_cases h0:l=[]
   ·have:n=0:=by rw[h0] at hple;simpa using hple
    rw[if_pos h0,this,if_neg (by decide),if_neg (by rw[h0];decide)];rfl
   ·have hpos:0<l.length:=aGv.2 h0
    rw[if_neg h0]
    by_cases c0:n=0
    ·rw[if_pos c0,c0,if_neg (by decide),if_pos hpos];rfl
    ·have h0n:0<n:=by omega
     rw[if_neg c0,if_pos h0n]
     by_cases cl:n=l.length
     ·rw[if_pos cl,if_neg (by omega),cl];rfl
     ·rw[if_neg cl,if_pos (by omega)];rfl
  have tail:∀{r56:Nat} {h2 h4:PH} {v4:Value} {fs:List Lf},h1 r56=none->h2 r56≠none->fE h1 h2->Bk b m A K h4->iR h4 2 v (l.map Pr.cells)->oN h2 h4 v4 fs->Bx h4 r56 [.bool true,v4]->Bx h4 r1 (Value.agg #[Value.bool false,Value.slice none 0 0]).cells.toList->fs.length≤5->eW [b,m] h h4->(∀x,h4 x=none->h2 x=none)->fs++(if n<l.length then [lB l n] else [])=(kK l key).lv->vO k (pT b 0) v (pT r1 0) (.int .i64 ((n:Nat):Int)) (pT r56 0) h4:=by
   intro r56 h2 h4 v4 fs hr56 k56 u12 B4 S4 L4 X4 Y4 hfs U4 n42 hfin
   have hx56:r56∉[b,m]:=λhm'=>by
    simp only[jG,mD,or_false] at hm'
    rcases hm' with rfl|rfl
    ·exact kb (u1.none hr56)
    ·exact km (u1.none hr56)
   have n61:r1≠r56:=λe=>Z1.known (e▸hr56)
   have kb2:h2 b≠none:=λe=>kb ((u1.trans u12).none e)
   have km2:h2 m≠none:=λe=>km ((u1.trans u12).none e)
   -- the end
   have last:∀{h5:PH} {v5:Value},Bk b m A K h5->oN h2 h5 v5 (kK l key).lv->Bx h5 r56 [.bool true,v5]->Bx h5 r1 (Value.agg #[Value.bool false,Value.slice none 0 0]).cells.toList->eW [b,m] h h5->vP k (pT r1 0) (pT r56 0) h5:=by
    intro h5 v5 B5 L5 X5 Y5 U5
    unfold vP
    simp only[Pf.boxC X5,eK,reduceIte,eX,Nat.reduceAdd]
    refine eH.put (vs:=[.bool true,v5]) Y5 (o:=0) rfl (by show 0+2≤2;decide) (by
     have:=L5.isc
     simp[iF];exact this) λh6 B6 u6=>?_
    have B6:Bx h6 r1 [.bool true,v5]:=B6
    simp only[Pf.boxC B6,eK,reduceIte,eX,Nat.reduceAdd]
    exact hk hkl hg' h6 v5 (B5.upd u6 (λx hx hm=>by simp only[iQ] at hm;subst hm;exact H.known _ hx hr1)) ((L5.upd u6 (λx hx=>by simp only[iQ] at hx;subst hx;exact λe=>Z1.known (u12.none e))).of (u1.trans u12)) (U5.then u6 (λx hx=>by simp only[iQ] at hx;subst hx;exact .inr hr1))
   unfold vO
   by_cases c1:n<l.length
   ·have q:(((n:Nat):Int)<(l.length:Int))=True:=eq_true (by omega)
    have l4:bT PG h4 (loadAt eR (pT r56 1))=some v4:=by rw[eR.load,X4.cell];rfl
    simp only[lvS,q,eH.f1,iG,l4,eK,reduceIte,eX,Nat.reduceAdd]
    refine aJb B4 S4 hv M.small hl c1 λh5 pv F B5 O5 f5 u5=>?_
    have X5:=X4.upd u5 hx56
    have Y5:=Y4.upd u5 hr1b
    have l5:bT PG h5 (loadAt eR (pT r56 1))=some v4:=by rw[eR.load,X5.cell];rfl
    refine⟨l5,?_⟩
    have n52:∀x,h5 x=none->h2 x=none:=λx hx=>n42 x (u5.grow2 (B5.known b (by simp)) (B5.known m (by simp)) hx)
    refine L4.push kb2 km2 u5 n42 n52 O5 f5 (by omega) λh6 v6 F6 L6 f6 u6=>?_
    have n6:r56∉F6:=λhm=>k56 (f6 _ hm)
    have m6:r1∉F6:=λhm=>Z1.known (u12.none (f6 _ hm))
    have X6:=X5.upd u6 n6
    refine eR.put X6 (o:=1) (by show 1<2;decide) L6.isc λh7 X7 u7=>?_
    have X7:Bx h7 r56 [.bool true,v6]:=X7
    rw[if_pos c1] at hfin
    rw[hfin] at L6
    have U7:eW [b,m] h h7:=((U4.trans u5).then u6 (λx hx=>.inr ((u1.trans u12).none (f6 x hx)))).then u7 (λx hx=>by simp only[iQ] at hx;subst hx;exact .inr (u1.none hr56))
    refine last ((B5.upd u6 (λx hx hm=>?_)).upd u7 (λx hx hm=>?_)) (L6.upd u7 (λx hx=>by simp only[iQ] at hx;subst hx;exact k56)) X7 ((Y5.upd u6 m6).upd u7 (by simp only[iQ];exact n61)) U7
    ·exact H.known _ hx ((u1.trans u12).none (f6 _ hm))
    ·simp only[iQ] at hm;subst hm;exact H.known _ hx (u1.none hr56)
   ·have q:(((n:Nat):Int)<(l.length:Int))=False:=eq_false (by omega)
    simp only[lvS,q,eK,reduceIte,eX,Nat.reduceAdd]
    rw[if_neg c1,zLN] at hfin
    rw[hfin] at L4
    exact last B4 L4 X4 Y4 U4
  have go:∀{r56:Nat} {h2:PH},h1 r56=none->Bx h2 r56 [.bool true,.slice none 0 0]->fE h1 h2->(0<n->∀(K':eJ),(∀h' v',Bk b m A K h'->iR h' 2 v (l.map Pr.cells)->oN h2 h' v' [lB l (n-1)]->Bx h' r56 [.bool true,.slice none 0 0]->Bx h' r1 (Value.agg #[Value.bool false,Value.slice none 0 0]).cells.toList->eW [b,m] h h'->(∀x,h' x=none->h2 x=none)->K' v' h')->
    cR PG qX #[pT b 0,v,.int .i64 ((n-1:Nat):Int)] h2 λv64 h65=>bT PG h65 (loadAt eR (pT r56 1))=some (.slice none 0 0)∧(aR (iP PG (buildSlice eR 1 #[(0,v64)])) λx67=>∀r66,h65 r66=none->aR (aT PG (x67.2 r66)) λv68=>eZ PG (Builtin.append_ #[eR,eR] eR #[.slice none 0 0,v68]) (PH.set h65 r66 x67.1) λv70 h71=>K' v70 h71)):=by
   intro r56 h2 hr56 X2 u12 hpos K' hK'
   have hx56:r56∉[b,m]:=λhm'=>by
    simp only[jG,mD,or_false] at hm'
    rcases hm' with rfl|rfl
    ·exact kb (u1.none hr56)
    ·exact km (u1.none hr56)
   have H2:=H1.ext u12
   refine aJb H2 (S1.ext u12) hv M.small hl (by omega) λh5 pv F B5 O5 f5 u5=>?_
   have X5:=X2.upd u5 hx56
   have l5:bT PG h5 (loadAt eR (pT r56 1))=some (.slice none 0 0):=by rw[eR.load,X5.cell];rfl
   refine⟨l5,?_⟩
   have n52:∀x,h5 x=none->h2 x=none:=λx hx=>u5.grow2 (B5.known b (by simp)) (B5.known m (by simp)) hx
   refine(oN.nil (h0:=h2) (h:=h2)).push (H2.known b (by simp)) (H2.known m (by simp)) u5 (λx hx=>hx) n52 O5 f5 (by simp) λh6 v6 F6 L6 f6 u6=>?_
   have n6:r56∉F6:=λhm=>X2.known (f6 _ hm)
   have m6:r1∉F6:=λhm=>Z1.known (u12.none (f6 _ hm))
   refine hK' h6 v6 (B5.upd u6 (λx hx hm=>H.known _ hx ((u1.trans u12).none (f6 _ hm)))) (((S1.ext u12).upd u5 hv).upd0 u6 (λhne a n' c e hm=>S.known hne e ((u1.trans u12).none (f6 _ hm)))) L6 (X5.upd u6 n6) (((Z1.ext u12).upd u5 hr1b).upd u6 m6) (((u1.trans u12).upd.trans u5).then u6 (λx hx=>.inr ((u1.trans u12).none (f6 x hx)))) (λx hx=>?_)
   ·by_cases hxF:x∈F6
    ·exact f6 x hxF
    ·cases e:h5 x with
     | none=>exact n52 x e
     | some o=>have:=u6 x o e hxF;rw[hx] at this;cases this
  by_cases c3:0<n
  ·have g3:((0:Int)<((n:Nat):Int))=True:=eq_true (by omega)
   have w1:IntKind.i64.wrap (((n:Nat):Int)-1)=((n-1:Nat):Int):=by rw[gD (by omega) (by omega)];omega
   rw[if_pos c3] at hpf
   rcases Nat.lt_or_ge n l.length with c1|c1
   have q:(((n:Nat):Int)<(l.length:Int))=True:=eq_true (by omega)
   obtain⟨p,hp⟩:∃p,l[n]? =some p:=⟨_,nM c1⟩
   obtain⟨x,o,e2,e3,-,-⟩:=S1.pair hp
   have q2:decide (p.k=key)=false:=by simp[hno p hp]
   simp only[lv,q,e2,eQ.f0,cT.load,e3,aEv,q2,aJt,g3,w1,eK,reduceIte,eX,Nat.reduceAdd]
   rotate_left 1
   have q:(((n:Nat):Int)<(l.length:Int))=False:=eq_false (by omega)
   simp only[lv,q,aJt,g3,w1,eK,reduceIte,eX,Nat.reduceAdd]
   all_goals
    intro r56 hr56
    try rw[eY]
    refine eH.fill (vs:=[.bool true,.slice none 0 0]) hr56 rfl (by simp[iF]) λh2 X2 u2=>?_
    have l2:bT PG h2 (loadAt eR (pT r56 1))=some (.slice none 0 0):=by rw[eR.load,X2.cell];rfl
    simp only[eH.f1,iG,l2,eK,reduceIte,eX,Nat.reduceAdd]
    refine go hr56 X2 u2 c3 _ λh3 v3 B3 S3 L3 X3 Y3 U3 n3=>?_
    refine eR.put X3 (o:=1) (by show 1<2;decide) L3.isc λh4 X4 u4=>?_
    have X4:Bx h4 r56 [.bool true,v3]:=X4
    have n61:r1≠r56:=λe=>Z1.known (e▸hr56)
    refine tail hr56 X2.known u2 (B3.upd u4 (λx hx hm=>by simp only[iQ] at hm;subst hm;exact H.known _ hx (u1.none hr56))) (S3.upd0 u4 (λhne a n' c e hm=>by simp only[iQ] at hm;exact S.known hne e (hm▸u1.none hr56))) (L3.upd u4 (λx hx=>by simp only[iQ] at hx;subst hx;exact X2.known)) X4 (Y3.upd u4 (by simp only[iQ];exact n61)) (by simp) (U3.then u4 (λx hx=>by simp only[iQ] at hx;subst hx;exact .inr (u1.none hr56))) (λx hx=>?_) hpf.symm
    by_cases hx56:x=r56
    ·subst hx56;exact absurd hx X4.known
    ·cases e:h3 x with
     | none=>exact n3 x e
     | some o=>have:=u4 x o e (by simp[hx56]);rw[hx] at this;cases this
  ·have g3:((0:Int)<((n:Nat):Int))=False:=eq_false (by omega)
   rw[if_neg c3,yB] at hpf
   rcases Nat.lt_or_ge n l.length with c1|c1
   have q:(((n:Nat):Int)<(l.length:Int))=True:=eq_true (by omega)
   obtain⟨p,hp⟩:∃p,l[n]? =some p:=⟨_,nM c1⟩
   obtain⟨x,o,e2,e3,-,-⟩:=S1.pair hp
   have q2:decide (p.k=key)=false:=by simp[hno p hp]
   simp only[lv,q,e2,eQ.f0,cT.load,e3,aEv,q2,aJt,g3,eK,reduceIte,eX,Nat.reduceAdd]
   rotate_left 1
   have q:(((n:Nat):Int)<(l.length:Int))=False:=eq_false (by omega)
   simp only[lv,q,aJt,g3,eK,reduceIte,eX,Nat.reduceAdd]
   all_goals
    intro r56 hr56
    try rw[eY]
    refine eH.fill (vs:=[.bool true,.slice none 0 0]) hr56 rfl (by simp[iF]) λh2 X2 u2=>?_
    exact tail hr56 X2.known u2 (H1.ext u2) (S1.ext u2) oN.nil X2 (Z1.ext u2) (by simp) (u1.trans u2).upd (λx hx=>hx) hpf.symm
theorem aPL{h:PH}{s:Tx}(hs:s.length≤1000000){k:eJ}(hk:∀h',fE h h'->k (.string (tx (be s.length 2++s))) h'):cR PG zI #[.string (tx s)] h k:=by
 apply aB2.call
 unfold aB2
 have ls:aT PG (Builtin.len_ #[cT] dR #[.string (tx s)])=some (.int .i64 (s.length:Int)):=by rw[mW cT.und,jL]
 have w:IntKind.u64.wrap (s.length:Int)=(s.length:Int):=iZ (by omega) (by omega)
 simp only[ls,aH3,w,eK,reduceIte,eX,Nat.reduceAdd]
 refine tJ (n:=s.length) (c:=2) (by omega) (by decide) λh1 u1=>?_
 have a:aT PG (binOp .add cT (.string (tx (be s.length 2))) (.string (tx s)))=some (.string (tx (be s.length 2++s))):=mR (by rw[jQ];omega)
 simp only[a,eK,reduceIte,eX,Nat.reduceAdd]
 exact hk h1 u1
theorem aQe{ab:Bool}{l:List Lf}(h:¬(l.length≤2∧∀f∈l,f.Ok)):mG ⟨ab,l⟩=([],1):=by
 unfold mG
 rw[if_neg]
 rintro⟨h1,h2⟩
 exact h ⟨h1,λf hf=>Lf.ok_iff.1 (aCB.1 h2 f hf)⟩
theorem aPS{ab:Bool}{l:List Lf}(h1:l.length≤2)(h2:∀f∈l,f.Ok):mG ⟨ab,l⟩=(aA0 ⟨ab,l⟩,0):=by
 unfold mG
 rw[if_pos ⟨h1,aCB.2 λf hf=>Lf.ok_iff.2 (h2 f hf)⟩]
theorem aVm{h:PH}{r1 r27:Nat}{y:LV}(X:Bx h r27 (y.1.cells y.2))(P:iR h 1 y.2 (y.1.path.map kD))(hm:y.1.path.length≤16){out:Tx}(ho:out.length≤100000){i:Nat}(hi:i≤100){R:eJ}{n17:jE}
  (hbad:¬(∀d∈y.1.path,d.length=32)->R (.tuple #[.string (tx []),.int .i64 1]) h)
  (hk:(∀d∈y.1.path,d.length=32)->n17 [pT r1 0,.string (tx (out++y.1.path.flatten)),.int .i64 ((i+1:Nat):Int)] h):
  kA [1,4,5,6,7] (λn163 ρ h=>aAy R n17 n163 (ρ 1) (ρ 4) (ρ 5) (ρ 6) (ρ 7) h) [pT r1 0,.string (tx out),.int .i64 (i:Int),pT r27 0,.int .i64 0] h:=by
 refine⟨λvs h'=>∃j:Nat,j≤y.1.path.length∧vs=[pT r1 0,.string (tx (out++(y.1.path.take j).flatten)),.int .i64 (i:Int),pT r27 0,.int .i64 (j:Int)]∧h'=h∧∀d∈y.1.path.take j,d.length=32,jP y.1.path.length 4,⟨0,by omega,by simp,rfl,λd hd=>by simp at hd⟩,?_⟩
 rintro ρ h' ⟨j,hj,hvs,rfl,hal⟩
 simp only[jT,kF,mQ,and_true] at hvs
 obtain⟨v0,v1,v2,v3,v4⟩:=hvs
 unfold aAy
 rw[v0,v1,v2,v3,v4]
 have lp:bT PG h' (loadAt eS (pT r27 4))=some y.2:=by rw[eS.load,X.cell];rfl
 have ll:=aMi P
 by_cases hlt:j<y.1.path.length
 ·have g:((j:Int)<(y.1.path.length:Int))=True:=eq_true (by omega)
  have gj:IntKind.i64.wrap ((j:Int)+1)=((j+1:Nat):Int):=by rw[gD (by omega) (by omega)];omega
  obtain⟨x,hx⟩:∃x,y.1.path[j]? =some x:=⟨_,nM hlt⟩
  obtain⟨pa,ha1,ha2⟩:=P.st hx
  have lx:aT PG (Builtin.len_ #[cT] dR #[.string (tx x)])=some (.int .i64 (x.length:Int)):=by rw[mW cT.und,jL]
  by_cases hx32:x.length=32
  ·have q:((x.length:Int) !=32)=false:=by simp[hx32]
   have hfl:=aL8 hal
   rw[vZ] at hfl
   have s1:aT PG (binOp .add cT (.string (tx (out++(y.1.path.take j).flatten))) (.string (tx x)))=some (.string (tx ((out++(y.1.path.take j).flatten)++x))):=mR (by rw[lH,hfl];omega)
   simp only[eD.f3,iG,lp,ll,g,ha1,ha2,lx,lR,q,s1,gj,eK,reduceIte,eX,Nat.reduceAdd]
   refine⟨⟨j+1,by omega,?_,by trivial,λz hz=>?_⟩,by simp[jP,v4];omega⟩
   ·rw[zLR,hx,zLD]
    simp
   ·rw[zLR,hx] at hz
    rcases kR.1 hz with hz|hz
    ·exact hal z hz
    ·simp only[Option.toList_some,iQ] at hz
     rw[hz];exact hx32
  ·have q:((x.length:Int) !=32)=true:=by simp;omega
   simp only[eD.f3,iG,lp,ll,g,ha1,ha2,lx,lR,q,aBH,eK,reduceIte,eX,Nat.reduceAdd]
   exact hbad λhall=>hx32 (hall x (uJ hx))
 ·have g:((j:Int)<(y.1.path.length:Int))=False:=eq_false (by omega)
  have gi:IntKind.i64.wrap ((i:Int)+1)=((i+1:Nat):Int):=by rw[gD (by omega) (by omega)];omega
  rw[qR (by omega)] at hal ⊢
  simp only[eD.f3,iG,lp,ll,g,gi,eK,reduceIte,eX,Nat.reduceAdd]
  exact hk hal
theorem aNh{h:PH}{ab:Bool}{v:Value}{l:List LV}(S:iR h 5 v (l.map qS))(HS:LfS h l)(hl:l.length≤1000000){k:eJ}
  (hk:∀h',fE h h'->k (.tuple #[.string (tx (mG ⟨ab,l.map (·.1)⟩).1),.int .i64 (mG ⟨ab,l.map (·.1)⟩).2]) h'):cR PG tU #[Pf.val ab v] h k:=by
 apply tN.call
 unfold tN
 intro r1 hr1
 try rw[eY]
 have u1:fE h (h.set r1 (.cells (Value.cells (Pf.val ab v)) eH)):=eW.new hr1
 have X1:Bx (h.set r1 (.cells (Value.cells (Pf.val ab v)) eH)) r1 [.bool ab,v]:=Bx.new
 generalize h.set r1 (.cells (Value.cells (Pf.val ab v)) eH)=h1 at *
 have S1:=S.ext u1
 have lv:∀{h'':PH},fE h1 h''->bT PG h'' (loadAt eR (pT r1 1))=some v:=λu=>by rw[eR.load,(X1.ext u).cell];rfl
 have la:bT PG h1 (loadAt iV (pT r1 0))=some (.bool ab):=by rw[iV.load,X1.cell];rfl
 have ll:=aIZ S
 by_cases c2:2<l.length
 ·have g2:((2:Int)<(l.length:Int))=True:=eq_true (by omega)
  simp only[eH.f1,iG,lv eW.refl,ll,g2,aBH,eK,reduceIte,eX,Nat.reduceAdd]
  rw[aQe (λh=>by have:=h.1;rw[kQ] at this;omega)] at hk
  exact hk h1 u1
 have g2:((2:Int)<(l.length:Int))=False:=eq_false (by omega)
 have w2:IntKind.u64.wrap (l.length:Int)=(l.length:Int):=iZ (by omega) (by omega)
 have rest:yL k (pT r1 0) (.string (tx (be (if ab then 2 else 1) 1))) h1:=by
  unfold yL
  simp only[eH.f1,iG,lv eW.refl,ll,aH3,w2,eK,reduceIte,eX,Nat.reduceAdd]
  refine tJ (n:=l.length) (c:=1) (by omega) (by decide) λh2 u2=>?_
  have s1:aT PG (binOp .add cT (.string (tx (be (if ab then 2 else 1) 1))) (.string (tx (be l.length 1))))=some (.string (tx (be (if ab then 2 else 1) 1++be l.length 1))):=mR (by rw[jQ,jQ];decide)
  simp only[s1,eK,reduceIte,eX,Nat.reduceAdd]
  refine⟨λvs h'=>∃i:Nat,i≤l.length∧vs=[pT r1 0,.string (tx ((be (if ab then 2 else 1) 1++be l.length 1)++mJ ((l.take i).map (·.1)))),.int .i64 (i:Int)]∧fE h1 h'∧∀y∈l.take i,y.1.Ok,jP l.length 2,⟨0,by omega,by simp[mJ],u2,λy hy=>by simp at hy⟩,?_⟩
  rintro ρ h' ⟨i,hi,hvs,u,hal⟩
  simp only[jT,kF,mQ,and_true] at hvs
  obtain⟨v0,v1,v2⟩:=hvs
  unfold aFC
  rw[v0,v1,v2]
  by_cases hlt:i<l.length
  ·have g:((i:Int)<(l.length:Int))=True:=eq_true (by omega)
   obtain⟨y,hy⟩:∃y,l[i]? =some y:=⟨_,nM hlt⟩
   have hym:=uJ hy
   obtain⟨pa,e1,e2⟩:=((S1.ext u)).lf hy
   have P:=((HS y hym).ext u1).ext u
   have bad:¬y.1.Ok->∀h2,fE h h2->k (.tuple #[.string (tx []),.int .i64 1]) h2:=λhno h2 u2=>by
    rw[aQe (λh=>hno (h.2 y.1 (zL4 hym)))] at hk
    exact hk h2 u2
   simp only[eH.f1,iG,lv u,ll,g,e1,e2,eK,reduceIte,eX,Nat.reduceAdd]
   intro r27 hr27
   try rw[eY]
   refine eD.fill (vs:=y.1.cells y.2) hr27 rfl (Lf.isC _ (HS y hym).isc) λh3 X3 u3=>?_
   have e3:=(u1.trans u).trans u3
   have P3:=P.ext u3
   have lp:=aMi P3
   have c0:∀{h'':PH},fE h3 h''->fH h'' ⟨r27,0,none⟩=some (.int .i64 y.1.i):=λu=>(X3.ext u).cell 0
   have c1:∀{h'':PH},fE h3 h''->fH h'' ⟨r27,1,none⟩=some (.int .i64 y.1.n):=λu=>(X3.ext u).cell 1
   have c2':∀{h'':PH},fE h3 h''->fH h'' ⟨r27,2,none⟩=some (.string (tx y.1.p.k)):=λu=>(X3.ext u).cell 2
   have c3:∀{h'':PH},fE h3 h''->fH h'' ⟨r27,3,none⟩=some (.string (tx y.1.p.v)):=λu=>(X3.ext u).cell 3
   have c4:∀{h'':PH},fE h3 h''->fH h'' ⟨r27,4,none⟩=some y.2:=λu=>(X3.ext u).cell 4
   have lk:aT PG (Builtin.len_ #[cT] dR #[.string (tx y.1.p.k)])=some (.int .i64 (y.1.p.k.length:Int)):=by rw[mW cT.und,jL]
   have lw:aT PG (Builtin.len_ #[cT] dR #[.string (tx y.1.p.v)])=some (.int .i64 (y.1.p.v.length:Int)):=by rw[mW cT.und,jL]
   by_cases d1:y.1.i<0
   ·have g1:=eq_true d1
    simp only[eD.f0,dR.load,c0 eW.refl,g1,aBH,eK,reduceIte,eX,Nat.reduceAdd]
    exact bad (λO=>by have:=O.i0;omega) h3 e3
   have g1:=eq_false d1
   by_cases d2:4096<y.1.i
   ·have g2:=eq_true d2
    simp only[eD.f0,dR.load,c0 eW.refl,g1,g2,aBH,eK,reduceIte,eX,Nat.reduceAdd]
    exact bad (λO=>by have:=O.i1;omega) h3 e3
   have g2:=eq_false d2
   by_cases d3:y.1.n<0
   ·have g3:=eq_true d3
    simp only[eD.f0,eD.f1,iG,dR.load,c0 eW.refl,c1 eW.refl,g1,g2,g3,aBH,eK,reduceIte,eX,Nat.reduceAdd]
    exact bad (λO=>by have:=O.n0;omega) h3 e3
   have g3:=eq_false d3
   by_cases d4:4096<y.1.n
   ·have g4:=eq_true d4
    simp only[eD.f0,eD.f1,iG,dR.load,c0 eW.refl,c1 eW.refl,g1,g2,g3,g4,aBH,eK,reduceIte,eX,Nat.reduceAdd]
    exact bad (λO=>by have:=O.n1;omega) h3 e3
   have g4:=eq_false d4
   by_cases d5:16<y.1.p.k.length
   ·have g5:((16:Int)<(y.1.p.k.length:Int))=True:=eq_true (by omega)
    simp only[eD.f0,eD.f1,eD.f2,eQ.f0,iG,dR.load,cT.load,c0 eW.refl,c1 eW.refl,c2' eW.refl,lk,g1,g2,g3,g4,g5,aBH,eK,reduceIte,eX,Nat.reduceAdd]
    exact bad (λO=>by have:=O.k;omega) h3 e3
   have g5:((16:Int)<(y.1.p.k.length:Int))=False:=eq_false (by omega)
   by_cases d6:64<y.1.p.v.length
   ·have g6:((64:Int)<(y.1.p.v.length:Int))=True:=eq_true (by omega)
    simp only[eD.f0,eD.f1,eD.f2,eQ.f0,eQ.f1,iG,Nat.reduceAdd,dR.load,cT.load,c0 eW.refl,c1 eW.refl,c2' eW.refl,c3 eW.refl,lk,lw,g1,g2,g3,g4,g5,g6,aBH,eK,reduceIte,eX,Nat.reduceAdd]
    exact bad (λO=>by have:=O.v;omega) h3 e3
   have g6:((64:Int)<(y.1.p.v.length:Int))=False:=eq_false (by omega)
   by_cases d7:16<y.1.path.length
   ·have g7:((16:Int)<(y.1.path.length:Int))=True:=eq_true (by omega)
    simp only[eD.f0,eD.f1,eD.f2,eD.f3,eQ.f0,eQ.f1,iG,Nat.reduceAdd,dR.load,cT.load,eS.load,c0 eW.refl,c1 eW.refl,c2' eW.refl,c3 eW.refl,c4 eW.refl,lk,lw,lp,g1,g2,g3,g4,g5,g6,g7,aBH,eK,reduceIte,eX,Nat.reduceAdd]
    exact bad (λO=>by have:=O.m;omega) h3 e3
   have g7:((16:Int)<(y.1.path.length:Int))=False:=eq_false (by omega)
   obtain⟨a,ha⟩:∃a:Nat,y.1.i=(a:Int):=⟨y.1.i.toNat,by omega⟩
   obtain⟨c,hc⟩:∃c:Nat,y.1.n=(c:Int):=⟨y.1.n.toNat,by omega⟩
   have wa:IntKind.u64.wrap y.1.i=(a:Int):=by rw[ha];exact iZ (by omega) (by omega)
   have wc':IntKind.u64.wrap y.1.n=(c:Int):=by rw[hc];exact iZ (by omega) (by omega)
   have wm:IntKind.u64.wrap (y.1.path.length:Int)=(y.1.path.length:Int):=iZ (by omega) (by omega)
   obtain⟨out,hout⟩:∃out:Tx,out=(be (if ab then 2 else 1) 1++be l.length 1)++mJ ((l.take i).map (·.1)):=⟨_,rfl⟩
   have hol:out.length≤10000:=by
    have:=aKs (l:=(l.take i).map (·.1)) (λf hf=>by
     obtain⟨z,hz,rfl⟩:=mT.1 hf
     exact hal z hz)
    rw[kQ,vZ] at this
    rw[hout,lH,lH,jQ,jQ]
    omega
   rw[←hout]
   simp only[eD.f0,eD.f1,eD.f2,eD.f3,eQ.f0,eQ.f1,iG,Nat.reduceAdd,dR.load,cT.load,eS.load,c0 eW.refl,c1 eW.refl,c2' eW.refl,c3 eW.refl,c4 eW.refl,lk,lw,lp,g1,g2,g3,g4,g5,g6,g7,aH3,wa,wc',wm,eK,reduceIte,eX,Nat.reduceAdd]
   refine tJ (n:=a) (c:=8) (by omega) (by decide) λh4 u4=>?_
   have s4:aT PG (binOp .add cT (.string (tx out)) (.string (tx (be a 8))))=some (.string (tx (out++be a 8))):=mR (by rw[jQ];omega)
   simp only[c1 u4,c2' u4,c3 u4,c4 u4,s4,true_and,eK,reduceIte,eX,Nat.reduceAdd]
   refine tJ (n:=c) (c:=8) (by omega) (by decide) λh5 u5=>?_
   have u45:=u4.trans u5
   have s5:aT PG (binOp .add cT (.string (tx (out++be a 8))) (.string (tx (be c 8))))=some (.string (tx ((out++be a 8)++be c 8))):=mR (by simp only[lH,jQ];omega)
   simp only[c2' u45,c3 u45,c4 u45,s5,true_and,eK,reduceIte,eX,Nat.reduceAdd]
   refine aPL (by omega) λh6 u6=>?_
   have u46:=u45.trans u6
   have s6:aT PG (binOp .add cT (.string (tx ((out++be a 8)++be c 8))) (.string (tx (be y.1.p.k.length 2++y.1.p.k))))=some (.string (tx (((out++be a 8)++be c 8)++(be y.1.p.k.length 2++y.1.p.k)))):=mR (by simp only[lH,jQ];omega)
   simp only[c3 u46,c4 u46,s6,true_and,eK,reduceIte,eX,Nat.reduceAdd]
   refine aPL (by omega) λh7 u7=>?_
   have u47:=u46.trans u7
   have s7:aT PG (binOp .add cT (.string (tx (((out++be a 8)++be c 8)++(be y.1.p.k.length 2++y.1.p.k)))) (.string (tx (be y.1.p.v.length 2++y.1.p.v))))=some (.string (tx ((((out++be a 8)++be c 8)++(be y.1.p.k.length 2++y.1.p.k))++(be y.1.p.v.length 2++y.1.p.v)))):=mR (by simp only[lH,jQ];omega)
   simp only[c4 u47,s7,true_and,eK,reduceIte,eX,Nat.reduceAdd]
   refine tJ (n:=y.1.path.length) (c:=1) (by omega) (by decide) λh8 u8=>?_
   have u48:=u47.trans u8
   have s8:aT PG (binOp .add cT (.string (tx ((((out++be a 8)++be c 8)++(be y.1.p.k.length 2++y.1.p.k))++(be y.1.p.v.length 2++y.1.p.v)))) (.string (tx (be y.1.path.length 1))))=some (.string (tx (((((out++be a 8)++be c 8)++(be y.1.p.k.length 2++y.1.p.k))++(be y.1.p.v.length 2++y.1.p.v))++be y.1.path.length 1))):=mR (by simp only[lH,jQ];omega)
   simp only[s8,eK,reduceIte,eX,Nat.reduceAdd]
   refine aVm (X3.ext u48) (P3.ext u48) (by omega) (by simp only[lH,jQ];omega) (by omega) (λhno=>?_) (λhall=>?_)
   ·exact bad (λO=>hno O.d) h8 (e3.trans u48)
   ·have O:y.1.Ok:=⟨by omega,by omega,by omega,by omega,by omega,by omega,by omega,hall⟩
    have et:l.take (i+1)=l.take i++[y]:=by rw[zLR,hy];rfl
    refine⟨⟨i+1,by omega,?_,(u.trans u3).trans u48,λz hz=>?_⟩,by simp[jP,v2];omega⟩
    ·have e1:mJ ((l.take (i+1)).map (·.1))=mJ ((l.take i).map (·.1))++aFY y.1:=by rw[et,rL,List.map_singleton,aMy]
     have e2:(((((out++be a 8)++be c 8)++(be y.1.p.k.length 2++y.1.p.k))++(be y.1.p.v.length 2++y.1.p.v))++be y.1.path.length 1)++y.1.path.flatten=out++aFY y.1:=by
      unfold aFY
      rw[ha,hc]
      simp only[sM,qU]
     rw[e1,e2,hout,qU]
    ·rw[et] at hz
     rcases kR.1 hz with hz|hz
     ·exact hal z hz
     ·simp only[iQ] at hz;rw[hz];exact O
  ·have g:((i:Int)<(l.length:Int))=False:=eq_false (by omega)
   rw[qR (by omega)] at hal ⊢
   simp only[eH.f1,iG,lv u,ll,g,eK,reduceIte,eX,Nat.reduceAdd]
   rw[aPS (by rw[kQ];omega) (λf hf=>by
    obtain⟨z,hz,rfl⟩:=mT.1 hf
    exact hal z hz)] at hk
   have e:aA0 ⟨ab,l.map (·.1)⟩=(be (if ab then 2 else 1) 1++be l.length 1)++mJ (l.map (·.1)):=by
    unfold aA0
    rw[kQ,qU]
   rw[e] at hk
   exact hk h' (u1.trans u)
 have tx2':({data:=#[2]}:ByteArray)=tx [2]:=rfl
 have tx1':({data:=#[1]}:ByteArray)=tx [1]:=rfl
 cases ab with
 | true=>
  simp only[eH.f0,eH.f1,iG,lv eW.refl,ll,g2,la,tx2',eK,reduceIte,eX,Nat.reduceAdd]
  exact rest
 | false=>
  simp only[eH.f0,eH.f1,iG,lv eW.refl,ll,g2,la,tx1',eK,reduceIte,eX,Nat.reduceAdd]
  exact rest
end Go.Proofs.YtcoajnpchhmgjaaGreatDoor
namespace Go.Proofs.YtcoajnpchhmgjaaGreatDoor
open Go
theorem aK4{st:lT}{n:Int}{x:Tx}{r:List UInt8}(h:kP st n=(x,(0,r))):st=(0,x++r)∧(x.length:Int)=n:=by
 obtain⟨e,s⟩:=st
 unfold kP at h
 split at h
 ·rename_i c
  obtain⟨c1,c2,c3⟩:=c
  simp only[Prod.mk.injEq,true_and] at h c1 c2 c3
  obtain⟨h1,h2⟩:=h
  subst h1 h2 c1
  refine⟨by rw[zL7],?_⟩
  rw[vZ];omega
 ·simp only[Prod.mk.injEq] at h
  obtain⟨-,h2,-⟩:=h
  exfalso
  split at h2
  ·cases h2
  ·rename_i c;exact c h2
theorem aHR{st:lT}{c x:Nat}{r:List UInt8}(h:jA st c=(x,(0,r))):st=(0,be x c++r)∧x<256^c:=by
 unfold jA at h
 simp only[Prod.mk.injEq] at h
 obtain⟨h1,h2⟩:=h
 obtain⟨g1,g2⟩:=aK4 (x:=(kP st (c:Int)).1) (r:=r) (by rw[←h2])
 have hl:(kP st (c:Int)).1.length=c:=by omega
 have hb:=aWf (kP st (c:Int)).1
 rw[hl,h1] at hb
 refine⟨by rw[hb];exact g1,?_⟩
 have:=aMq (kP st (c:Int)).1
 rw[hl,h1] at this
 exact this
theorem aMs{st:lT}{x:Tx}{r:List UInt8}(h:nJ st=(x,(0,r))):st=(0,(be x.length 2++x)++r)∧x.length≤65535:=by
 unfold nJ at h
 obtain⟨g1,g2⟩:=aK4 h
 obtain⟨k1,k2⟩:=aHR (st:=st) (c:=2) (x:=(jA st 2).1) (r:=x++r) (by rw[←g1])
 have:(jA st 2).1=x.length:=by omega
 rw[this] at k1 k2
 exact⟨by rw[k1,qU],by omega⟩
theorem aLn{st:lT}{x:Nat}{r:List UInt8}(h:lU st=(x,(0,r))):st=(0,be x 8++r)∧x≤4096:=by
 unfold lU at h
 split at h
 ·exfalso
  simp only[Prod.mk.injEq] at h
  obtain⟨-,h2⟩:=h
  unfold aJm at h2
  simp only[Prod.mk.injEq] at h2
  obtain⟨h3,-⟩:=h2
  split at h3
  ·cases h3
  ·rename_i c;exact c h3
 ·rename_i c
  have e:(jA st 8).1=x:=by rw[h]
  exact⟨(aHR h).1,by omega⟩
theorem aMU:∀(n:Nat) (st:lT) (acc l:List Tx) (r:List UInt8),yT n st acc=(l,(0,r))->∃ds,l=acc++ds∧st=(0,ds.flatten++r)∧ds.length=n∧∀d∈ds,d.length=32
 | 0,st,acc,l,r,h=>by
  simp only[yT,Prod.mk.injEq] at h
  exact⟨[],by rw[h.1];simp,by rw[h.2];rfl,rfl,λd hd=>by cases hd⟩
 | n+1,st,acc,l,r,h=>by
  rw[yT] at h
  split at h
  ·obtain⟨ds,h1,h2,h3,h4⟩:=aMU n _ _ _ _ h
   obtain⟨g1,g2⟩:=aK4 (st:=st) (n:=32) (x:=(kP st 32).1) (r:=ds.flatten++r) (by rw[←h2])
   refine⟨(kP st 32).1::ds,by rw[h1];simp,by rw[aJ4,qU];exact g1,by simp[h3],λd hd=>?_⟩
   rcases jG.1 hd with rfl|hd
   ·omega
   ·exact h4 d hd
  ·rename_i c
   exfalso
   simp only[Prod.mk.injEq] at h
   rw[h.2] at c
   exact c rfl
theorem aRb{st:lT}{f:Lf}{r:List UInt8}(h:qW st=(f,(0,r))):st=(0,aFY f++r)∧f.Ok:=by
 unfold qW at h
 split at h
 ·rename_i hok
  simp only[Prod.mk.injEq] at h
  obtain⟨h1,h2⟩:=h
  rw[h1] at hok
  have O:=Lf.ok_iff.1 hok
  refine⟨?_,O⟩
  unfold aDj at h1 h2
  simp only at h1 h2
  generalize hm:yT (jA (nJ (nJ (lU (lU st).2).2).2).2 1).1 (jA (nJ (nJ (lU (lU st).2).2).2).2 1).2 []=M at h1 h2
  obtain⟨ml,ms⟩:=M
  simp only at h1 h2
  subst h2
  obtain⟨ds,p1,p2,p3,p4⟩:=aMU _ _ _ _ _ hm
  obtain⟨q1,q2⟩:=aHR (Prod.ext rfl p2)
  obtain⟨k1,k2⟩:=aMs (Prod.ext rfl q1)
  obtain⟨m1,m2⟩:=aMs (Prod.ext rfl k1)
  obtain⟨n1,n2⟩:=aLn (Prod.ext rfl m1)
  obtain⟨o1,o2⟩:=aLn (Prod.ext rfl n1)
  rw[yB] at p1
  rw[p1] at h1
  rw[o1]
  subst h1
  unfold aFY
  simp only[sM,qU,p3]
 ·exfalso
  simp only[Prod.mk.injEq] at h
  obtain⟨-,h2⟩:=h
  unfold aJm at h2
  simp only[Prod.mk.injEq] at h2
  obtain⟨h3,-⟩:=h2
  split at h3
  ·cases h3
  ·rename_i c;exact c h3
theorem aKz:∀(n:Nat) (st:lT) (acc l:List Lf) (r:List UInt8),pW n st acc=(l,(0,r))->∃fs,l=acc++fs∧st=(0,mJ fs++r)∧fs.length=n∧∀f∈fs,f.Ok
 | 0,st,acc,l,r,h=>by
  simp only[pW,Prod.mk.injEq] at h
  exact⟨[],by rw[h.1];simp,by rw[h.2];rfl,rfl,λd hd=>by cases hd⟩
 | n+1,st,acc,l,r,h=>by
  rw[pW] at h
  obtain⟨fs,h1,h2,h3,h4⟩:=aKz n _ _ _ _ h
  obtain⟨g1,g2⟩:=aRb (Prod.ext rfl h2)
  refine⟨(qW st).1::fs,by rw[h1];simp,by rw[mJ,qU];exact g1,by simp[h3],λf hf=>?_⟩
  rcases jG.1 hf with rfl|hf
  ·exact g2
  ·exact h4 f hf
theorem aRY{s:Tx}(h:(jM s).2=0):s=aA0 (jM s).1∧(jM s).1.lv.length≤2∧∀f∈(jM s).1.lv,f.Ok:=by
 unfold jM at h ⊢
 split at h
 ·cases h
 ·rename_i c
  rw[if_neg c]
  split at h
  ·cases h
  ·rename_i d
   rw[if_neg d]
   simp only[ne_eq,Decidable.not_not] at d
   generalize hX:pW (jA (jA (0,s) 1).2 1).1 (jA (jA (0,s) 1).2 1).2 []=X at *
   obtain⟨l,e,r⟩:=X
   unfold aLH at d
   simp only at d
   have he:e=0∧r=[]:=by
    split at d
    ·cases d
    ·rename_i c2
     exact⟨d,by
      cases r with
      | nil=>rfl
      | cons a b=>exact absurd ⟨d,by simp⟩ c2⟩
   obtain⟨rfl,rfl⟩:=he
   obtain⟨fs,p1,p2,p3,p4⟩:=aKz _ _ _ _ _ hX
   obtain⟨q1,q2⟩:=aHR (Prod.ext rfl p2)
   obtain⟨k1,k2⟩:=aHR (Prod.ext rfl q1)
   rw[yB] at p1
   subst p1
   rw[zLN] at k1
   simp only[Prod.mk.injEq,true_and] at k1
   refine⟨?_,by simp only;omega,p4⟩
   unfold aA0
   simp only
   rw[p3]
   have hk:(if decide ((jA (0,s) 1).1=2)=true then 2 else 1)=(jA (0,s) 1).1:=by
    by_cases h2:(jA (0,s) 1).1=2
    ·simp[h2]
    ·simp[h2];omega
   rw[hk]
   exact k1
def aCl:Nat->lT->List Tx->List Tx×lT
 | 0,st,acc=>(acc,st)
 | n+1,st,acc=>aCl n (kP st 32).2 (acc++[(kP st 32).1])
def dLf(st:lT):Lf×lT:=
 let a:=jA st 8
 let b:=jA a.2 8
 let k:=nJ b.2
 let v:=nJ k.2
 let c:=jA v.2 1
 let m:=aCl (min c.1 17) c.2 []
 (⟨((a.1%1000000:Nat):Int),((b.1%1000000:Nat):Int),⟨k.1,v.1⟩,m.1⟩,m.2)
def aA9:Nat->lT->List Lf->List Lf×lT
 | 0,st,acc=>(acc,st)
 | n+1,st,acc=>aA9 n (dLf st).2 (acc++[(dLf st).1])
def aEO(s:Tx):Pf:=⟨decide ((jA (0,s) 1).1=2),(aA9 (min (jA (jA (0,s) 1).2 1).1 3) (jA (jA (0,s) 1).2 1).2 []).1⟩
theorem aNn:∀(path acc:List Tx) (r:Tx),(∀d∈path,d.length=32)->aCl path.length (0,path.flatten++r) acc=(acc++path,(0,r))
 | [],acc,r,_=>by simp[aCl]
 | d::path,acc,r,h=>by
  have hd:=h d (by simp)
  have e:kP (0,d++(path.flatten++r)) 32=(d,(0,path.flatten++r)):=by
   have:=(aHx d).fwd (path.flatten++r)
   rw[hd] at this
   exact this
  rw[wT,aJ4,qU,aCl,e]
  simp only
  rw[aNn path (acc++[d]) r (λx hx=>h x (by simp[hx])),qU]
  rfl
theorem aU9{f:Lf}(h:f.Ok)(r:Tx):dLf (0,aFY f++r)=(f,(0,r)):=by
 obtain⟨i,n,p,path⟩:=f
 obtain⟨i0,i1,n0,n1,k,v,m,d⟩:=h
 simp only at i0 i1 n0 n1 k v m d
 obtain⟨i,rfl⟩:=zLm i0
 obtain⟨n,rfl⟩:=zLm n0
 unfold dLf aFY
 simp only[sM,qU]
 rw[(xD (n:=i) (c:=8) (by omega)).fwd]
 simp only
 rw[(xD (n:=n) (c:=8) (by omega)).fwd]
 simp only
 rw[show be p.k.length 2++(p.k++(be p.v.length 2++(p.v++(be path.length 1++(path.flatten++r)))))=(be p.k.length 2++p.k)++(be p.v.length 2++(p.v++(be path.length 1++(path.flatten++r)))) by rw[qU],
  (aG5 (l:=p.k) (by omega)).fwd]
 simp only
 rw[show be p.v.length 2++(p.v++(be path.length 1++(path.flatten++r)))=(be p.v.length 2++p.v)++(be path.length 1++(path.flatten++r)) by rw[qU],
  (aG5 (l:=p.v) (by omega)).fwd]
 simp only
 rw[(xD (n:=path.length) (c:=1) (by omega)).fwd]
 simp only
 rw[aI7 (by omega),aNn path [] r d]
 simp only[yB]
 rw[aCI (by omega),aCI (by omega)]
theorem aLs:∀(l acc:List Lf) (r:Tx),(∀f∈l,f.Ok)->aA9 l.length (0,mJ l++r) acc=(acc++l,(0,r))
 | [],acc,r,_=>by simp[aA9,mJ]
 | f::l,acc,r,h=>by
  rw[wT,mJ,qU,aA9,aU9 (h f (by simp))]
  simp only
  rw[aLs l (acc++[f]) r (λx hx=>h x (by simp[hx])),qU]
  rfl
theorem aUI{p:Pf}(h2:p.lv.length≤2)(h:∀f∈p.lv,f.Ok):aEO (aA0 p)=p:=by
 have e1:jA (0,aA0 p) 1=((if p.ab then 2 else 1),(0,be p.lv.length 1++mJ p.lv)):=by
  unfold aA0
  exact(xD (n:=if p.ab then 2 else 1) (c:=1) (by split<;>decide)).fwd _
 have e2:jA (0,be p.lv.length 1++mJ p.lv) 1=(p.lv.length,(0,mJ p.lv)):=(xD (n:=p.lv.length) (c:=1) (by omega)).fwd _
 have e3:aA9 p.lv.length (0,mJ p.lv) []=(p.lv,(0,[])):=by
  have:=aLs p.lv [] [] h
  rw[zLN,yB] at this
  exact this
 unfold aEO
 rw[e1]
 simp only
 rw[e2]
 simp only
 rw[aI7 (by omega),e3]
 obtain⟨ab,lv⟩:=p
 cases ab<;>rfl
theorem aRx(s:Tx):(if mG (aEO s)=(s,0) then(aEO s,(0:Int)) else(Pf.zero,5))=if (jM s).2=0 then jM s else(Pf.zero,5):=by
 by_cases c:(jM s).2=0
 ·obtain⟨h1,h2,h3⟩:=aRY c
  have e:aEO s=(jM s).1:=by
   conv=>lhs;rw[h1]
   exact aUI h2 h3
  rw[if_pos c,e,aPS h2 h3,if_pos (by rw[←h1])]
  exact Prod.ext rfl c.symm
 ·rw[if_neg c,if_neg]
  intro h
  apply c
  unfold mG at h
  split at h
  ·rename_i hc
   simp only[Prod.mk.injEq,and_true] at h
   have:=aOe hc.1 (λf hf=>Lf.ok_iff.1 (aCB.1 hc.2 f hf))
   rw[h] at this
   rw[this]
  ·simp at h
theorem aRO(s:Tx)(h:(jM s).2≠0):jM s=(Pf.zero,5):=by
 unfold jM at h ⊢
 split
 ·rfl
 ·rename_i c
  rw[if_neg c] at h
  split
  ·rfl
  ·rename_i d
   rw[if_neg d] at h
   exact absurd rfl h
theorem aNQ(n:Int):aT PG (build iX #[(0,.int .i64 n)])=some (.agg #[.int .i64 n,.int .i64 0,.int .u64 0,.string ⟨#[]⟩]):=by kernel_rfl
theorem aNN{h:PH}{a:Nat}{S:List UInt8}{e:Int}{s:List UInt8}(hR:wS h a S e s)(hS:S.length≤1000000000000){kind:Int}{out:Nat×List UInt8×(Int×List UInt8)}
  (ho:(kind=0∧out=((jA (e,s) 1).1,[],(jA (e,s) 1).2))∨(kind=1∧out=((jA (e,s) 8).1,[],(jA (e,s) 8).2))∨(kind=2∧out=(0,(nJ (e,s)).1,(nJ (e,s)).2))) {k:eJ}
  (hk:∀h',wS h' a S out.2.2.1 out.2.2.2->eW [a] h h'->k (.tuple #[.int .u64 out.1,.string (tx out.2.1)]) h'):
  cR PG mY #[pT a 0,.agg #[.int .i64 kind,.int .i64 0,.int .u64 0,.string ⟨#[]⟩]] h k:=by
 apply pV.call
 unfold pV
 intro r hr
 rw[eY]
 have u1:fE h (h.set r (.cells (Value.agg #[.int .i64 kind,.int .i64 0,.int .u64 0,.string ⟨#[]⟩]).cells iX)):=eW.new hr
 have c0:fH (h.set r (.cells (Value.agg #[.int .i64 kind,.int .i64 0,.int .u64 0,.string ⟨#[]⟩]).cells iX)) ⟨r,0,none⟩=some (.int .i64 kind):=by simp[fH,PH.set,Value.cells]
 generalize h.set r (.cells (Value.agg #[.int .i64 kind,.int .i64 0,.int .u64 0,.string ⟨#[]⟩]).cells iX)=h1 at *
 have hR1:=hR.ext u1
 have small:∀c:Nat,c≤8->(kP (e,s) (c:Int)).1.length≤8:=λc hc=>zLB (aH8 _ c) hc
 rcases ho with⟨rfl,rfl⟩|⟨rfl,rfl⟩|⟨rfl,rfl⟩
 ·have q:((0:Int)==0)=true:=rfl
  simp only[iX.f0,dR.load,c0,q,eK,reduceIte]
  refine aJP hR1 hS 1 λh2 hR2 u2=>?_
  simp only[eK,reduceIte]
  refine aME (small 1 (by omega)) ?_
  exact hk _ hR2 (u1.upd.trans u2)
 ·have q:((1:Int)==0)=false:=rfl
  have q1:((1:Int)==1)=true:=rfl
  simp only[iX.f0,dR.load,c0,q,q1,eK,reduceIte]
  refine aJP hR1 hS 8 λh2 hR2 u2=>?_
  simp only[eK,reduceIte]
  refine aME (small 8 (by omega)) ?_
  exact hk _ hR2 (u1.upd.trans u2)
 ·have q:((2:Int)==0)=false:=rfl
  have q1:((2:Int)==1)=false:=rfl
  have q2:((2:Int)==2)=true:=rfl
  simp only[iX.f0,dR.load,c0,q,q1,q2,eK,reduceIte]
  refine aJP hR1 hS 2 λh2 hR2 u2=>?_
  by_cases hc:e=0∧0≤(2:Int)∧(2:Int)≤(s.length:Int)
  ·have hd:decide (e=0∧0≤(2:Int)∧(2:Int)≤(s.length:Int))=true:=by simpa using hc
   simp only[hd,eK,reduceIte]
   refine aME (l:=(kP (e,s) 2).1) (small 2 (by omega)) ?_
   have hlt:=aGl (e,s) 2
   have e1:IntKind.i64.wrap ((val (kP (e,s) 2).1:Nat):Int)=((jA (e,s) 2).1:Int):=by
    show IntKind.i64.wrap (((jA (e,s) 2).1:Nat):Int)=_
    rw[gD (by omega) (by omega)]
   simp only[aH2,e1,eK,reduceIte]
   refine aJP hR2 hS _ λh3 hR3 u3=>?_
   simp only[eK,reduceIte]
   exact hk _ hR3 ((u1.upd.trans u2).trans u3)
  ·have hd:decide (e=0∧0≤(2:Int)∧(2:Int)≤(s.length:Int))=false:=by simpa using hc
   simp only[hd,eK,reduceIte]
   have hraw:kP (e,s) 2=([],(if e=0 then 6 else e,s)):=by unfold kP;rw[if_neg hc]
   have hne:(if e=0 then 6 else e)≠0:=by split<;>simp_all
   have ht:nJ (e,s)=([],(if e=0 then 6 else e,s)):=by
    unfold nJ jA
    show kP (kP (e,s) 2).2 _=_
    rw[hraw]
    show kP (if e=0 then 6 else e,s) _=_
    generalize (if e=0 then(6:Int) else e)=e' at *
    unfold kP
    rw[if_neg (by rintro⟨h1,_⟩;exact hne h1),if_neg hne]
   have:=hk h2
   rw[ht] at this
   rw[hraw] at hR2
   exact this hR2 (u1.upd.trans u2)
theorem aS2:aT PG (build iX #[(0,.int .i64 3),(1,.int .i64 32)])=some (.agg #[.int .i64 3,.int .i64 32,.int .u64 0,.string ⟨#[]⟩]):=by kernel_rfl
theorem aXf(s:List UInt8):aT PG (build gY #[(0,.string (tx s))])=some (.agg #[.string (tx s),.int .i64 0,.int .i64 0]):=by kernel_rfl
theorem aT5{h:PH}{a:Nat}{S:List UInt8}{st:lT}(hR:wS h a S st.1 st.2)(hS:S.length≤1000000000000){k:eJ}
  (hk:∀h',wS h' a S (kP st 32).2.1 (kP st 32).2.2->eW [a] h h'->k (.tuple #[.int .u64 0,.string (tx (kP st 32).1)]) h'):
  cR PG mY #[pT a 0,.agg #[.int .i64 3,.int .i64 32,.int .u64 0,.string ⟨#[]⟩]] h k:=by
 apply pV.call
 unfold pV
 intro r hr
 try rw[eY]
 have u1:fE h (h.set r (.cells (Value.agg #[.int .i64 3,.int .i64 32,.int .u64 0,.string ⟨#[]⟩]).cells iX)):=eW.new hr
 have X:Bx (h.set r (.cells (Value.agg #[.int .i64 3,.int .i64 32,.int .u64 0,.string ⟨#[]⟩]).cells iX)) r [.int .i64 3,.int .i64 32,.int .u64 0,.string ⟨#[]⟩]:=Bx.new
 generalize h.set r (.cells (Value.agg #[.int .i64 3,.int .i64 32,.int .u64 0,.string ⟨#[]⟩]).cells iX)=h1 at *
 have c0:fH h1 ⟨r,0,none⟩=some (.int .i64 3):=X.cell 0
 have c1:fH h1 ⟨r,1,none⟩=some (.int .i64 32):=X.cell 1
 have q0:((3:Int)==0)=false:=rfl
 have q1:((3:Int)==1)=false:=rfl
 have q2:((3:Int)==2)=false:=rfl
 have q3:((3:Int)==3)=true:=rfl
 simp only[iX.f0,iX.f1,iG,dR.load,c0,c1,jO,q0,q1,q2,q3,eK,reduceIte,eX,Nat.reduceAdd]
 refine aJP (hR.ext u1) hS 32 λh2 hR2 u2=>?_
 simp only[eK,reduceIte,eX,Nat.reduceAdd]
 exact hk h2 hR2 (u1.upd.trans u2)
theorem aJi{h:PH}{a:Nat}{S:List UInt8}{st:lT}(hR:wS h a S st.1 st.2)(hS:S.length≤1000000000000){k:eJ}
  (hk:∀h',wS h' a S (jA st 1).2.1 (jA st 1).2.2->eW [a] h h'->k (.int .i64 (((jA st 1).1:Nat):Int)) h'):cR PG rV #[pT a 0] h k:=by
 apply aAl.call
 unfold aAl
 simp only[aNQ,eK,reduceIte,eX,Nat.reduceAdd]
 refine aNN hR hS (kind:=0) (.inl ⟨rfl,rfl⟩) λh1 R1 u1=>?_
 have hlt:=aGl st 1
 have w:IntKind.i64.wrap (((jA st 1).1:Nat):Int)=(((jA st 1).1:Nat):Int):=gD (by omega) (by omega)
 simp only[aH2,w,eK,reduceIte,eX,Nat.reduceAdd]
 exact hk h1 R1 u1
theorem aMZ{h:PH}{a:Nat}{S:List UInt8}{st:lT}(hR:wS h a S st.1 st.2)(hS:S.length≤1000000000000){k:eJ}
  (hk:∀h',wS h' a S (jA st 8).2.1 (jA st 8).2.2->eW [a] h h'->k (.int .i64 (((jA st 8).1%1000000:Nat):Int)) h'):cR PG wZ #[pT a 0] h k:=by
 apply aAf.call
 unfold aAf
 simp only[aNQ,eK,reduceIte,eX,Nat.reduceAdd]
 refine aNN hR hS (kind:=1) (.inr (.inl ⟨rfl,rfl⟩)) λh1 R1 u1=>?_
 have rm:∀{t:TypeId} {n:Nat},aT PG (binOp .rem t (.int .u64 (n:Int)) (.int .u64 1000000))=some (.int .u64 ((n%1000000:Nat):Int)):=fun {t n}=>by
  rw[aHU (by decide)];rfl
 have w:IntKind.i64.wrap (((jA st 8).1%1000000:Nat):Int)=(((jA st 8).1%1000000:Nat):Int):=by
  have:=zLy (jA st 8).1 (show 0<1000000 by decide)
  exact gD (by omega) (by omega)
 simp only[rm,aH2,w,eK,reduceIte,eX,Nat.reduceAdd]
 exact hk h1 R1 u1
theorem aMg{h:PH}{a:Nat}{S:List UInt8}{st:lT}(hR:wS h a S st.1 st.2)(hS:S.length≤1000000000000){k:eJ}
  (hk:∀h',wS h' a S (nJ st).2.1 (nJ st).2.2->eW [a] h h'->k (.string (tx (nJ st).1)) h'):cR PG wV #[pT a 0] h k:=by
 apply aAc.call
 unfold aAc
 simp only[aNQ,eK,reduceIte,eX,Nat.reduceAdd]
 refine aNN hR hS (kind:=2) (.inr (.inr ⟨rfl,rfl⟩)) λh1 R1 u1=>?_
 simp only[eK,reduceIte,eX,Nat.reduceAdd]
 exact hk h1 R1 u1
theorem aWQ(a b:Int):aT PG (build eD #[(0,.int .i64 a),(1,.int .i64 b)])=some (Lf.val ⟨a,b,⟨[],[]⟩,[]⟩ (.slice none 0 0)):=by kernel_rfl
theorem aRB:∀(n:Nat) (st:lT) (acc:List Tx),aCl (n+1) st acc=aCl n (kP st 32).2 (acc++[(kP st 32).1]):=λn st acc=>rfl
theorem aVS{hI h:PH}{r4 r32:Nat}{s:Tx}{st:lT}(hS:s.length≤1000000000000)(R:wS h r4 s st.1 st.2)(u:eW [r4] hI h)(n32:hI r32=none)(k4:hI r4≠none){a b:Int}{kk vv:Tx}(X:Bx h r32 (Lf.cells ⟨a,b,⟨kk,vv⟩,[]⟩ (.slice none 0 0))){c:Nat}(hc:c<256){t0 t2 t5 t6 t7:Value}{RR:eJ}{n16:jE}
  (hk:∀h' pv G,wS h' r4 s (aCl (min c 17) st []).2.1 (aCl (min c 17) st []).2.2->eW [r4] hI h'->Bx h' r32 (Lf.cells ⟨a,b,⟨kk,vv⟩,[]⟩ pv)->gU h' cT 1 pv ((aCl (min c 17) st []).1.map kD) G->gQ hI G->(aCl (min c 17) st []).1.length≤17->
   (aR (aT PG (fieldAt eH t5 1)) λv78=>aR (bT PG h' (loadAt eR v78)) λv79=>aR (bT PG h' (loadAt eD (pT r32 0))) λv80=>
    aR (iP PG (buildSlice eR 1 #[(0,v80)])) λx82=>∀r81,h' r81=none->aR (aT PG (x82.2 r81)) λv83=>fZ (PH.set h' r81 x82.1) λh84=>eZ PG (Builtin.append_ #[eR,eR] eR #[v79,v83]) h84 λv85 h86=>
    aR (aT PG (fieldAt eH t5 1)) λv87=>eZ PG (fQ eR v87 v85) h86 λv88 h89=>aR (aT PG (binOp BinOp.add dR t7 (Value.int IntKind.i64 1))) λv90=>n16 [t0,t2,pT r4 0,t5,t6,v90] h89)):
  kA [0,2,4,5,6,7,8,9,10] (λn50 ρ h=>aBk RR n16 n50 (ρ 0) (ρ 2) (ρ 4) (ρ 5) (ρ 6) (ρ 7) (ρ 8) (ρ 9) (ρ 10) h) [t0,t2,pT r4 0,t5,t6,t7,pT r32 0,.int .i64 ((c:Nat):Int),.int .i64 0] h:=by
 refine⟨λvs h'=>∃(j:Nat) (st':lT) (acc:List Tx) (pv:Value) (G:List Nat),j≤min c 17∧vs=[t0,t2,pT r4 0,t5,t6,t7,pT r32 0,.int .i64 ((c:Nat):Int),.int .i64 (j:Int)]∧wS h' r4 s st'.1 st'.2∧eW [r4] hI h'∧Bx h' r32 (Lf.cells ⟨a,b,⟨kk,vv⟩,[]⟩ pv)∧gU h' cT 1 pv (acc.map kD) G∧gQ hI G∧r32∉G∧acc.length=j∧aCl (min c 17-j) st' acc=aCl (min c 17) st [],jP (min c 17) 8,⟨0,st,[],_,[],by omega,rfl,R,u,X,gU.nil,(λx hx=>by cases hx),by simp,rfl,rfl⟩,?_⟩
 rintro ρ h' ⟨j,st',acc,pv,G,hj,hvs,R',u',X',O',fG,nG,hal,hd⟩
 simp only[jT,kF,mQ,and_true] at hvs
 obtain⟨w0,w1,w2,w3,w4,w5,w6,w7,w8⟩:=hvs
 unfold aBk
 rw[w0,w1,w2,w3,w4,w5,w6,w7,w8]
 by_cases hlt:j<min c 17
 ·have g1:((j:Int)<((c:Nat):Int))=True:=eq_true (by omega)
  have g2:((j:Int)<17)=True:=eq_true (by omega)
  have gj:IntKind.i64.wrap ((j:Int)+1)=((j+1:Nat):Int):=by rw[gD (by omega) (by omega)];omega
  simp only[g1,g2,aS2,eK,reduceIte,eX,Nat.reduceAdd]
  refine aT5 R' hS λh2 R2 u2=>?_
  have n432:r32≠r4:=λe=>k4 (e▸n32)
  have X2:=X'.upd u2 (by simp only[iQ];exact n432)
  have l4:bT PG h2 (loadAt eS (pT r32 4))=some pv:=by rw[eS.load,X2.cell];rfl
  have G4:∀x∈G,x∉[r4]:=λx hx hm=>by
   simp only[iQ] at hm
   subst hm;exact k4 (fG _ hx)
  have O2:=O'.upd u2 G4
  simp only[eD.f3,iG,l4,aLT,eK,reduceIte,eX,Nat.reduceAdd]
  intro r68 hr68
  refine iK ?_
  try rw[eY]
  have u3:fE h2 (h2.set r68 (.cells #[.string (tx (kP st' 32).1)] cT)):=eW.new hr68
  have s3:iR (h2.set r68 (.cells #[.string (tx (kP st' 32).1)] cT)) 1 (.slice (some ⟨r68,0,none⟩) 1 1) ([(kP st' 32).1].map kD):=(gU.lit (n:=1) (rows:=[(kP st' 32).1].map kD) (λr hr=>by simp only[jT,kF,iQ] at hr;subst hr;rfl) fP (by simp) (by decide) rfl).slR
  generalize h2.set r68 (.cells #[.string (tx (kP st' 32).1)] cT)=h3 at *
  refine kU eS.und eS.und cT.info cT.size cT.bytes cT.zero rfl (by decide) (O2.ext u3) s3 (λr hr u hu=>by
   obtain⟨y,hy,rfl⟩:=mT.1 hr
   exact kD.isC y u hu) (by simp only[kQ,zLQ];omega) ?_
  intro v5 h5 F5 O5 u5 k5 _
  rw[←rL] at O5
  have X5:=(X2.ext u3).upd u5 nG
  refine eS.put X5 (o:=4) (by show 4<5;decide) O5.slR.isc λh6 X6 u6=>?_
  have X6:Bx h6 r32 (Lf.cells ⟨a,b,⟨kk,vv⟩,[]⟩ v5):=X6
  have n12:∀x,h2 x=none->hI x=none:=λx hx=>by
   cases e:hI x with
   | none=>rfl
   | some o=>
    exfalso
    by_cases hx4:x=r4
    ·subst hx4
     have:=R2.here
     rw[hx] at this;cases this
    ·have:=(u'.trans u2) x o e (by simp[hx4])
     rw[hx] at this;cases this
  have f5:gQ hI F5:=λx hx=>by
   rcases k5 x hx with hx|hx
   ·exact fG x hx
   ·exact n12 x (u3.none hx)
  have n5:r32∉F5:=λhm=>by
   rcases k5 _ hm with hx|hx
   ·exact nG hx
   ·exact(X2.ext u3).known hx
  have U6:eW [r4] hI h6:=(((u'.trans u2).trans u3.upd).then u5 (λx hx=>.inr (fG x hx))).then u6 (λx hx=>by simp only[iQ] at hx;subst hx;exact .inr n32)
  have R6:wS h6 r4 s (kP st' 32).2.1 (kP st' 32).2.2:=((R2.ext u3).upd u5 (λhm=>k4 (fG _ hm))).upd u6 (by simp only[iQ];exact n432.symm)
  simp only[gj,eK,reduceIte,eX,Nat.reduceAdd]
  refine⟨⟨j+1,_,acc++[(kP st' 32).1],v5,F5,by omega,rfl,R6,U6,X6,O5.upd u6 (λx hx=>by simp only[iQ];rintro rfl;exact n5 hx),f5,n5,by simp[hal],?_⟩,by simp[jP,w8];omega⟩
  rw[←hd,show min c 17-j=(min c 17-(j+1))+1 by omega,aRB]
 ·have hj':j=min c 17:=by omega
  rw[hj',Nat.sub_self] at hd
  have hd':aCl (min c 17) st []=(acc,st'):=hd.symm
  rw[hd'] at hk
  have hcond:aR (aT PG (binOp BinOp.lss dR (.int .i64 (j:Int)) (.int .i64 ((c:Nat):Int))))=λk=>k (.bool (decide ((j:Int)<(c:Int)))):=by
   funext k;rw[aPa];rfl
  have hk:=hk h' pv G R' u' X' O' fG (by simp only;omega)
  by_cases hjc:j<c
  ·have g1:((j:Int)<((c:Nat):Int))=True:=eq_true (by omega)
   have g2:((j:Int)<17)=False:=eq_false (by omega)
   simp only[g1,g2,eK,reduceIte,eX,Nat.reduceAdd]
   simp only[eK,reduceIte,eX,Nat.reduceAdd] at hk
   exact hk
  ·have g1:((j:Int)<((c:Nat):Int))=False:=eq_false (by omega)
   simp only[g1,eK,reduceIte,eX,Nat.reduceAdd]
   simp only[eK,reduceIte,eX,Nat.reduceAdd] at hk
   exact hk
theorem aPc(n:Nat)(st:lT)(acc:List Lf):aA9 (n+1) st acc=aA9 n (dLf st).2 (acc++[(dLf st).1]):=rfl
theorem wS.known{h:PH}{a:Nat}{S:List UInt8}{e:Int}{s:List UInt8}(H:wS h a S e s):h a≠none:=by rw[H.here];simp
theorem eW.grow1{h h1:PH}{K:List Nat}(u:eW K h h1)(hK:∀x∈K,h1 x≠none){x:Nat}(hx:h1 x=none):h x=none:=by
 cases e:h x with
 | none=>rfl
 | some o=>
  exfalso
  by_cases c:x∈K
  ·exact hK x c hx
  ·have:=u x o e c
   rw[hx] at this;cases this
theorem aXQ(b:Bool):aT PG (build eH #[(0,.bool b)])=some (Pf.val b (.slice none 0 0)):=aJt b
theorem aOF{h:PH}{s:Tx}(hS:s.length≤1000000000){k:eJ}
  (hk:∀h' v,oN h h' v (jM s).1.lv->fE h h'->k (.tuple #[Pf.val (jM s).1.ab v,.int .i64 (jM s).2]) h'):cR PG yW #[.string (tx s)] h k:=by
 have hS12:s.length≤1000000000000:=by omega
 apply tE.call
 unfold tE
 intro r1 hr1
 try rw[eY]
 have u1:fE h (h.set r1 (.cells (fY PG eH) eH)):=eW.new hr1
 have Z1:Bx (h.set r1 (.cells (fY PG eH) eH)) r1 [.bool false,.slice none 0 0]:=eH.zbox
 generalize h.set r1 (.cells (fY PG eH) eH)=h1 at *
 simp only[aXf,eK,reduceIte,eX,Nat.reduceAdd]
 intro r4 hr4
 try rw[eY]
 have n14:r1≠r4:=Z1.apart hr4
 have u4:fE h1 (h1.set r4 (.cells (Value.cells (.agg #[.string (tx s),.int .i64 0,.int .i64 0])) gY)):=eW.new hr4
 have R4:wS (h1.set r4 (.cells (Value.cells (.agg #[.string (tx s),.int .i64 0,.int .i64 0])) gY)) r4 s ((0,s):lT).1 ((0,s):lT).2:=⟨by rw[fP];simp[Value.cells],by simp,sL _⟩
 generalize h1.set r4 (.cells (Value.cells (.agg #[.string (tx s),.int .i64 0,.int .i64 0])) gY)=h4 at *
 refine aJi R4 hS12 λh5 R5 u5=>?_
 have Z5:=(Z1.ext u4).upd u5 (by simp only[iQ];exact n14)
 obtain⟨ab,hab⟩:∃ab,ab=decide ((jA (0,s) 1).1=2):=⟨_,rfl⟩
 have qab:((((jA (0,s) 1).1:Nat):Int)==2)=ab:=by
  rw[hab]
  by_cases c:(jA (0,s) 1).1=2
  ·simp[c]
  ·have:¬((((jA (0,s) 1).1:Nat):Int)=2):=by omega
   simp[c,this]
 simp only[jO,qab,aXQ,eK,reduceIte,eX,Nat.reduceAdd]
 intro r10 hr10
 try rw[eY]
 have n110:r1≠r10:=Z5.apart hr10
 have n410:r4≠r10:=λe=>R5.known (e▸hr10)
 refine eH.fill (vs:=[.bool ab,.slice none 0 0]) hr10 rfl (by simp[iF]) λh6 X6 u6=>?_
 refine aJi (R5.ext u6) hS12 λhB RB uB=>?_
 have XB:=X6.upd uB (by simp only[iQ];exact n410.symm)
 have ZB:=(Z5.ext u6).upd uB (by simp only[iQ];exact n14)
 -- what is new since h
 have UB:eW [] h hB:=((u1.trans u4).upd.then u5 (λx hx=>by simp only[iQ] at hx;subst hx;exact .inr (u1.none hr4))).trans u6 |>.then uB (λx hx=>by simp only[iQ] at hx;subst hx;exact .inr (u1.none hr4))
 have nB:∀x,hB x=none->h x=none:=λx hx=>eW.grow1 UB (λy hy=>by cases hy) hx
 have k4B:hB r4≠none:=RB.known
 have k10B:hB r10≠none:=XB.known
 have h10h:h r10=none:=by
  cases e:h r10 with
  | none=>rfl
  | some o=>
   exfalso
   have:h5 r10=some o:=(((u1.trans u4).upd (F:=[])).then u5 (λx hx=>by simp only[iQ] at hx;subst hx;exact .inr (u1.none hr4))) r10 o e (by simp)
   rw[hr10] at this;cases this
 obtain⟨n,hn⟩:∃n,n=(jA (jA (0,s) 1).2 1).1:=⟨_,rfl⟩
 rw[←hn]
 obtain⟨st0,hst0⟩:∃st0,st0=(jA (jA (0,s) 1).2 1).2:=⟨_,rfl⟩
 have RB:wS hB r4 s st0.1 st0.2:=by rw[hst0];exact RB
 have hdr:aEO s=⟨ab,(aA9 (min n 3) st0 []).1⟩:=by rw[hab,hn,hst0];rfl
 refine⟨λvs h'=>∃(i:Nat) (st:lT) (fs:List Lf) (v:Value),i≤min n 3∧vs=[.string (tx s),pT r1 0,pT r4 0,pT r10 0,.int .i64 ((n:Nat):Int),.int .i64 (i:Int)]∧wS h' r4 s st.1 st.2∧Bx h' r10 [.bool ab,v]∧Bx h' r1 [.bool false,.slice none 0 0]∧oN hB h' v fs∧eW [r4,r10] hB h'∧fs.length=i∧aA9 (min n 3-i) st fs=aA9 (min n 3) st0 [],jP (min n 3) 5,⟨0,st0,[],_,by omega,rfl,RB,XB,ZB,oN.nil,eW.refl,rfl,rfl⟩,?_⟩
 rintro ρ h' ⟨i,st,fs,v,hi,hvs,R,X,Z,L,U,hfl,hd⟩
 simp only[jT,kF,mQ,and_true] at hvs
 obtain⟨w0,w1,w2,w3,w4,w5⟩:=hvs
 unfold aE3
 rw[w0,w1,w2,w3,w4,w5]
 have nB':∀x,h' x=none->hB x=none:=λx hx=>U.grow1 (λy hy=>by
  simp only[jG,mD,or_false] at hy
  rcases hy with rfl|rfl
  ·exact R.known
  ·exact X.known) hx
 by_cases hlt:i<min n 3
 ·have g1:((i:Int)<((n:Nat):Int))=True:=eq_true (by omega)
  have g2:((i:Int)<3)=True:=eq_true (by omega)
  have gi:IntKind.i64.wrap ((i:Int)+1)=((i+1:Nat):Int):=by rw[gD (by omega) (by omega)];omega
  simp only[g1,g2,eK,reduceIte,eX,Nat.reduceAdd]
  obtain⟨a,ha⟩:∃a,a=jA st 8:=⟨_,rfl⟩
  refine aMZ R hS12 λh2 R2 u2=>?_
  rw[←ha] at R2 ⊢
  obtain⟨b,hb⟩:∃b,b=jA a.2 8:=⟨_,rfl⟩
  refine aMZ R2 hS12 λh3 R3 u3=>?_
  rw[←hb] at R3 ⊢
  have u23:=u2.trans u3
  simp only[aWQ,eK,reduceIte,eX,Nat.reduceAdd]
  intro r32 hr32
  try rw[eY]
  have n432:r32≠r4:=λe=>R3.known (e▸hr32)
  have n32':h' r32=none:=u23.grow1 (λy hy=>by simp only[iQ] at hy;subst hy;exact R3.known) hr32
  refine eD.fill (vs:=Lf.cells ⟨((a.1%1000000:Nat):Int),((b.1%1000000:Nat):Int),⟨[],[]⟩,[]⟩ (.slice none 0 0)) hr32 rfl (Lf.isC _ rfl) λh5' X5 u5'=>?_
  obtain⟨kk,hkk⟩:∃kk,kk=nJ b.2:=⟨_,rfl⟩
  refine aMg (R3.ext u5') hS12 λh7 R7 u7=>?_
  rw[←hkk] at R7 ⊢
  have X7:=X5.upd u7 (by simp only[iQ];exact n432)
  simp only[eD.f2,eQ.f0,iG,eK,reduceIte,eX,Nat.reduceAdd]
  refine cT.put X7 (o:=2) (by show 2<5;decide) rfl λh8 X8 u8=>?_
  have X8:Bx h8 r32 (Lf.cells ⟨((a.1%1000000:Nat):Int),((b.1%1000000:Nat):Int),⟨kk.1,[]⟩,[]⟩ (.slice none 0 0)):=X8
  have R8:=R7.upd u8 (by simp only[iQ];exact n432.symm)
  obtain⟨vv,hvv⟩:∃vv,vv=nJ kk.2:=⟨_,rfl⟩
  refine aMg R8 hS12 λh9 R9 u9=>?_
  rw[←hvv] at R9 ⊢
  have X9:=X8.upd u9 (by simp only[iQ];exact n432)
  simp only[eD.f2,eQ.f1,iG,Nat.reduceAdd,eK,reduceIte,eX,Nat.reduceAdd]
  refine cT.put X9 (o:=3) (by show 3<5;decide) rfl λh10 X10 u10=>?_
  have X10:Bx h10 r32 (Lf.cells ⟨((a.1%1000000:Nat):Int),((b.1%1000000:Nat):Int),⟨kk.1,vv.1⟩,[]⟩ (.slice none 0 0)):=X10
  have R10':=R9.upd u10 (by simp only[iQ];exact n432.symm)
  obtain⟨c,hc⟩:∃c,c=jA vv.2 1:=⟨_,rfl⟩
  refine aJi R10' hS12 λh11 R11 u11=>?_
  rw[←hc] at R11 ⊢
  have hc256:c.1<256:=by rw[hc];exact aGl vv.2 1
  have X11:=X10.upd u11 (by simp only[iQ];exact n432)
  have s32:∀x∈[r32],x∈[r4]∨h' x=none:=λx hx=>by simp only[iQ] at hx;subst hx;exact .inr n32'
  have U11:eW [r4] h' h11:=(((((u23.trans u5'.upd).trans u7).then u8 s32).trans u9).then u10 s32).trans u11
  refine aVS hS12 R11 U11 n32' R.known X11 hc256 λh12 pv G R12 U12 X12 O12 f12 hl12=>?_
  generalize hm:aCl (min c.1 17) c.2 []=mm at R12 O12 hl12
  have hdl:dLf st=(⟨((a.1%1000000:Nat):Int),((b.1%1000000:Nat):Int),⟨kk.1,vv.1⟩,mm.1⟩,mm.2):=by
   rw[ha] at *
   rw[←hm,hc,hvv,hkk,hb]
   rfl
  have n1032:r10≠r4:=n410.symm
  have X12':Bx h12 r10 [.bool ab,v]:=X.upd U12 (by simp only[iQ];exact n1032)
  have Z12:=Z.upd U12 (by simp only[iQ];exact n14)
  have l10:bT PG h12 (loadAt eR (pT r10 1))=some v:=by rw[eR.load,X12'.cell];rfl
  have l32:bT PG h12 (loadAt eD (pT r32 0))=some (Lf.val ⟨((a.1%1000000:Nat):Int),((b.1%1000000:Nat):Int),⟨kk.1,vv.1⟩,mm.1⟩ pv):=Lf.boxC (f:=⟨((a.1%1000000:Nat):Int),((b.1%1000000:Nat):Int),⟨kk.1,vv.1⟩,mm.1⟩) X12
  simp only[eH.f1,iG,l10,l32,eK,reduceIte,eX,Nat.reduceAdd]
  have n12B:∀x,h12 x=none->hB x=none:=λx hx=>nB' x (U12.grow1 (λy hy=>by simp only[iQ] at hy;subst hy;exact R12.known) hx)
  refine oN.push (b:=r4) (m:=r4) (h1:=h') (f:=⟨((a.1%1000000:Nat):Int),((b.1%1000000:Nat):Int),⟨kk.1,vv.1⟩,mm.1⟩) L k4B k4B (U12.mono λx hx=>.inl (by simp only[iQ] at hx;simp[hx])) nB' n12B O12 f12 (by omega) λh13 v13 F13 L13 f13 u13=>?_
  have q10:r10∉F13:=λhm'=>k10B (f13 _ hm')
  have q4:r4∉F13:=λhm'=>k4B (f13 _ hm')
  have q1:r1∉F13:=λhm'=>ZB.known (f13 _ hm')
  have X13:=X12'.upd u13 q10
  refine eR.put X13 (o:=1) (by show 1<2;decide) L13.isc λh14 X14 u14=>?_
  have X14:Bx h14 r10 [.bool ab,v13]:=X14
  simp only[gi,eK,reduceIte,eX,Nat.reduceAdd]
  refine⟨⟨i+1,mm.2,fs++[(⟨((a.1%1000000:Nat):Int),((b.1%1000000:Nat):Int),⟨kk.1,vv.1⟩,mm.1⟩:Lf)],v13,by omega,rfl,((R12.upd u13 q4).upd u14 (by simp only[iQ];exact n410)),X14,(Z12.upd u13 q1).upd u14 (by simp only[iQ];exact n110),L13.upd u14 (λx hx=>by simp only[iQ] at hx;subst hx;exact k10B),?_,by simp[hfl],?_⟩,by simp[jP,w5];omega⟩
  ·exact((U.trans (U12.mono λx hx=>.inl (by simp only[iQ] at hx;simp[hx]))).then u13 (λx hx=>.inr (f13 x hx))).trans (u14.mono λx hx=>.inl (by simp only[iQ] at hx;simp[hx]))
  ·rw[←hd,show min n 3-i=(min n 3-(i+1))+1 by omega,aPc,hdl]
 ·have hi':i=min n 3:=by omega
  rw[hi',Nat.sub_self] at hd
  have hfs:(aA9 (min n 3) st0 []).1=fs:=by rw[←hd];rfl
  have hdr:aEO s=⟨ab,fs⟩:=by rw[hdr,hfs]
  have EX:∀{h'':PH},eW [r4,r10,r1] hB h''->fE h h'':=fun {h''} w=>UB.then w (λx hx=>by
   simp only[jG,mD,or_false] at hx
   rcases hx with rfl|rfl|rfl
   ·exact .inr (u1.none hr4)
   ·exact .inr h10h
   ·exact .inr hr1)
  have fin:aR (bT PG h' (loadAt eH (pT r10 0))) λv91=>cR PG tU #[v91] h' λv92 h93=>aR (aT PG (extract v92 0)) λv94=>aR (aT PG (extract v92 1)) λv95=>aR (bT PG h93 (hQ BinOp.neq dR (.tmp 80) (.const (Value.int IntKind.i64 0)) v95 (Value.int IntKind.i64 0))) λv96=>
    eN (yV v96) false (λk99=>k99 v94 h93) h93 λv97 h98=>eN (yV v96) false (λk102=>k102 (.string (tx s)) h98) h98 λv100 h101=>eN (yV v96) false (λk105=>aR (bT PG h101 (hQ BinOp.neq cT (.tmp 83) (.tmp 84) v97 v100)) λv106=>k105 v106 h101) h101 λv103 h104=>aR (iB v96 (Value.bool true) v103) λv107=>
    fL v107 (aR (aT PG (build eH #[])) λv108=>eZ PG (fQ eH (pT r1 0) v108) h104 λv109 h110=>aR (bT PG h110 (loadAt eH (pT r1 0))) λv111=>k (Value.tuple #[v111,(Value.int IntKind.i64 5)]) h110)
    (aR (bT PG h104 (loadAt eH (pT r10 0))) λv112=>eZ PG (fQ eH (pT r1 0) v112) h104 λv113 h114=>aR (bT PG h114 (loadAt eH (pT r1 0))) λv115=>k (Value.tuple #[v115,(Value.int IntKind.i64 0)]) h114):=by
   obtain⟨l,F,el,OL,fF,LL⟩:=L.here
   have hll:l.length≤1000000:=by
    have:l.length=fs.length:=by rw[←el,kQ]
    omega
   simp only[Pf.boxC X,eK,reduceIte,eX,Nat.reduceAdd]
   refine aNh (ab:=ab) OL.slR LL.lfs hll λh2 u2=>?_
   rw[el,←hdr]
   have hpe:=aRx s
   have U2:eW [r4,r10,r1] hB h2:=(U.trans u2.upd).mono λx hx=>.inl (by simp only[jG,mD,or_false] at hx;rcases hx with rfl|rfl<;>simp)
   have L2:oN hB h2 v fs:=L.upd u2 (by simp)
   by_cases cp:mG (aEO s)=(s,0)
   ·rw[if_pos cp] at hpe
    have h0:(jM s).2=0:=by
     by_cases c:(jM s).2=0
     ·exact c
     ·rw[if_neg c] at hpe;exact absurd (show(0:Int)=5 from congrArg Prod.snd hpe) (by decide)
    rw[if_pos h0] at hpe
    rw[←hpe,hdr] at hk
    rw[cp]
    have q1:((0:Int) !=0)=false:=rfl
    have q2:(!decide (s=s))=false:=by simp
    simp only[lR,q1,aEw,q2,Pf.boxC (X.ext u2),eK,reduceIte,eX,Nat.reduceAdd]
    refine eH.put (vs:=[.bool ab,v]) (Z.ext u2) (o:=0) rfl (by show 0+2≤2;decide) (by
     have:=L.isc
     simp[iF];exact this) λh3 Z3 u3=>?_
    have Z3:Bx h3 r1 [.bool ab,v]:=Z3
    simp only[Pf.boxC Z3,eK,reduceIte,eX,Nat.reduceAdd]
    refine hk h3 v ?_ (EX (U2.trans (u3.mono λx hx=>.inl (by simp only[iQ] at hx;simp[hx]))))
    have L3:oN hB h3 v fs:=L2.upd u3 (λx hx=>by simp only[iQ] at hx;subst hx;exact ZB.known)
    obtain⟨l',F',e',O',f',L'⟩:=L3.here
    exact⟨l',F',e',O',λx hx=>nB x (f' x hx),λy hy=>by
     obtain⟨G,a1,a2,a3⟩:=L' y hy
     exact⟨G,a1,λx hx=>nB x (a2 x hx),a3⟩⟩
   ·rw[if_neg cp] at hpe
    have h0:(jM s).2≠0:=λc=>by
     rw[if_pos c] at hpe
     have:=congrArg Prod.snd hpe
     rw[c] at this;cases this
    rw[aRO s h0] at hk
    have bad:aR (aT PG (build eH #[])) λv108=>eZ PG (fQ eH (pT r1 0) v108) h2 λv109 h110=>aR (bT PG h110 (loadAt eH (pT r1 0))) λv111=>k (Value.tuple #[v111,(Value.int IntKind.i64 5)]) h110:=by
     simp only[aFw,eK,reduceIte,eX,Nat.reduceAdd]
     refine eH.put (vs:=[.bool false,.slice none 0 0]) (Z.ext u2) (o:=0) rfl (by show 0+2≤2;decide) (by simp[iF]) λh3 Z3 u3=>?_
     have Z3:Bx h3 r1 [.bool false,.slice none 0 0]:=Z3
     simp only[Pf.boxC Z3,eK,reduceIte,eX,Nat.reduceAdd]
     exact hk h3 _ oN.nil (EX (U2.trans (u3.mono λx hx=>.inl (by simp only[iQ] at hx;simp[hx]))))
    by_cases c0:(mG (aEO s)).2=0
    ·have q1:((mG (aEO s)).2 !=0)=false:=by simp[c0]
     have q2:(!decide ((mG (aEO s)).1=s))=true:=by
      have:¬(mG (aEO s)).1=s:=λe=>cp (Prod.ext e c0)
      simp[this]
     simp only[lR,q1,aEw,q2,eK,reduceIte,eX,Nat.reduceAdd]
     try simp only[eK,reduceIte,eX,Nat.reduceAdd] at bad
     exact bad
    ·have q1:((mG (aEO s)).2 !=0)=true:=by simpa using c0
     simp only[lR,q1,eK,reduceIte,eX,Nat.reduceAdd]
     try simp only[eK,reduceIte,eX,Nat.reduceAdd] at bad
     exact bad
  by_cases hin:i<n
  ·have g1:((i:Int)<((n:Nat):Int))=True:=eq_true (by omega)
   have g2:((i:Int)<3)=False:=eq_false (by omega)
   simp only[g1,g2,eK,reduceIte,eX,Nat.reduceAdd]
   try simp only[eK,reduceIte,eX,Nat.reduceAdd] at fin
   exact fin
  ·have g1:((i:Int)<((n:Nat):Int))=False:=eq_false (by omega)
   simp only[g1,eK,reduceIte,eX,Nat.reduceAdd]
   try simp only[eK,reduceIte,eX,Nat.reduceAdd] at fin
   exact fin
theorem iR.lfc{h:PH}{v:Value}{l:List LV}(S:iR h 5 v (l.map qS)){j:Nat}{y:LV}(hy:l[j]? =some y):
  ∃b o,aT PG (indexAt eR v (.int .i64 (j:Int)))=some (pT b o)∧fH h ⟨b,o,none⟩=some (.int .i64 y.1.i)∧fH h ⟨b,o+1,none⟩=some (.int .i64 y.1.n)∧fH h ⟨b,o+2,none⟩=some (.string (tx y.1.p.k))∧fH h ⟨b,o+2+1,none⟩=some (.string (tx y.1.p.v)):=by
 obtain⟨b,o,h1,h2,-⟩:=S.fields eR.und eD.info eD.size (k:=.i64) (j:=j) (r:=qS y) (by rw[zLW,hy];rfl)
 exact⟨b,o,h1,h2 0 _ rfl,h2 1 _ rfl,h2 2 _ rfl,h2 3 _ rfl⟩
theorem oN.offs{h0 h:PH}{v:Value}{fs:List Lf}(H:oN h0 h v fs){b m:Nat}(kb:h0 b≠none)(km:h0 m≠none):∃l:List LV,l.map (·.1)=fs∧iR h 5 v (l.map qS)∧LfS h l∧Off b m v∧∀y∈l,Off b m y.2:=by
 obtain⟨l,F,e,O,f,L⟩:=H.here
 refine⟨l,e,O.slR,L.lfs,λa n c ev=>f.off kb km _ (aFk O a n c ev),λy hy a n c ev=>?_⟩
 obtain⟨G,OG,fG,-⟩:=L y hy
 exact fG.off kb km _ (aFk OG a n c ev)
def wO:List Lf->List Tx
 | []=>[]
 | f::l=>(if (oM f).isSome then aGJ f else [])++wO l
theorem aPK(l:List Lf)(f:Lf):wO (l++[f])=wO l++(if (oM f).isSome then aGJ f else []):=by
 induction l with
 | nil=>simp[wO]
 | cons a l ih=>simp[wO,ih]
theorem aOp(root:Tx)(l:List Lf)(f:Lf):nN root (l++[f])=(nN root l&&(oM f==some root)):=by
 unfold nN
 simp
theorem aMd{h:PH}{root:Tx}{ab:Bool}{v:Value}{l:List LV}{b m:Nat}{A:List Tx}{K:List Nat}(H:Bk b m A K h)(S:iR h 5 v (l.map qS))(HS:LfS h l)(ov:Off b m v)(oy:∀y∈l,Off b m y.2)(hl:l.length≤1000)(hb:∀y∈l,y.1.Bd){k:eJ}
  (hk:∀h',Bk b m (wO (l.map (·.1))++A) K h'->eW [b,m] h h'->k (.bool (nN root (l.map (·.1)))) h'):
  cR PG wW #[pT b 0,.string (tx root),Pf.val ab v] h k:=by
 apply aAi.call
 unfold aAi
 intro r1 hr1
 try rw[eY]
 have hr1b:r1∉[b,m]:=(gQ.one hr1).off (H.known b (by simp)) (H.known m (by simp)) r1 (by simp)
 have u1:fE h (h.set r1 (.cells (Value.cells (Pf.val ab v)) eH)):=eW.new hr1
 have X1:Bx (h.set r1 (.cells (Value.cells (Pf.val ab v)) eH)) r1 [.bool ab,v]:=Bx.new
 generalize h.set r1 (.cells (Value.cells (Pf.val ab v)) eH)=h1 at *
 refine⟨λvs h'=>∃i:Nat,i≤l.length∧vs=[pT b 0,.string (tx root),pT r1 0,.bool (nN root ((l.take i).map (·.1))),.int .i64 (i:Int)]∧Bk b m (wO ((l.take i).map (·.1))++A) K h'∧eW [b,m] h1 h',jP l.length 4,⟨0,by omega,rfl,H.ext u1,eW.refl⟩,?_⟩
 rintro ρ h' ⟨i,hi,hvs,B,u⟩
 simp only[jT,kF,mQ,and_true] at hvs
 obtain⟨v0,v1,v2,v3,v4⟩:=hvs
 unfold aEz
 rw[v0,v1,v2,v3,v4]
 have X:=X1.upd u hr1b
 have lv:bT PG h' (loadAt eR (pT r1 1))=some v:=by rw[eR.load,X.cell];rfl
 have ll:=aIZ S
 by_cases hlt:i<l.length
 ·have g:((i:Int)<(l.length:Int))=True:=eq_true (by omega)
  have gi:IntKind.i64.wrap ((i:Int)+1)=((i+1:Nat):Int):=by rw[gD (by omega) (by omega)];omega
  obtain⟨y,hy⟩:∃y,l[i]? =some y:=⟨_,nM hlt⟩
  have hym:=uJ hy
  obtain⟨pa,e1,e2⟩:=((S.ext u1).upd u ov).lf hy
  have hbd:=hb y hym
  have et:(l.take (i+1)).map (·.1)=(l.take i).map (·.1)++[y.1]:=by rw[zLR,hy];simp
  have key:∀(t:Tx) (o:Bool) {h2:PH},Bk b m ((if (oM y.1).isSome then aGJ y.1 else [])++(wO ((l.take i).map (·.1))++A)) K h2->eW [b,m] h' h2->(o&&decide (t=root))=(oM y.1==some root)->
    (∃i':Nat,i'≤l.length∧([pT b 0,.string (tx root),pT r1 0,.bool (nN root ((l.take i).map (·.1))&&(o&&decide (t=root))),.int .i64 ((i+1:Nat):Int)]:List Value)=[pT b 0,.string (tx root),pT r1 0,.bool (nN root ((l.take i').map (·.1))),.int .i64 (i':Int)]∧Bk b m (wO ((l.take i').map (·.1))++A) K h2∧eW [b,m] h1 h2):=by
   intro t o h2 B2 u2 ho
   refine⟨i+1,by omega,?_,B2.mono λa ha=>?_,u.trans u2⟩
   ·rw[et,aOp,ho]
   ·rw[et,aPK] at ha
    simp only[kR] at ha ⊢
    rcases ha with(ha|ha)|ha
    ·exact .inr (.inl ha)
    ·exact .inl ha
    ·exact .inr (.inr ha)
  simp only[eH.f1,iG,lv,ll,g,e1,e2,eK,reduceIte,eX,Nat.reduceAdd]
  refine aSe B (((HS y hym).ext u1).upd u (oy y hym)) (oy y hym) (by have:=hbd.m;omega) (by have:=hbd.k;have:=hbd.v;omega) (λhno h2 B2 u2=>?_) (λhok h2 B2 u2=>?_)
  ·have hc:=aOI hno
   have hfin:=key [] false (B2.mono λa ha=>by rw[hc] at ha;simpa using ha) u2 (by rw[hc];rfl)
   simp only[wU,aFZ] at hfin
   cases hcl:nN root ((l.take i).map (·.1)) with
   | true=>
    simp only[gi,eK,reduceIte,eX,Nat.reduceAdd]
    exact⟨hfin,by simp[jP,v4];omega⟩
   | false=>
    simp only[gi,eK,reduceIte,eX,Nat.reduceAdd]
    exact⟨hfin,by simp[jP,v4];omega⟩
  ·have hc:=aOD hok
   have hfin:=key (aH5 y.1.n.toNat (aKT y.1)) true (B2.mono λa ha=>by rw[hc] at ha;simpa using ha) u2 (by
    rw[hc,zLo]
    by_cases c:aH5 y.1.n.toNat (aKT y.1)=root
    ·simp[c]
    ·simp[c])
   simp only[zLo] at hfin
   cases hcl:nN root ((l.take i).map (·.1)) with
   | true=>
    rw[hcl] at hfin
    simp only[zLo] at hfin
    simp only[aEv,gi,eK,reduceIte,eX,Nat.reduceAdd]
    exact⟨hfin,by simp[jP,v4];omega⟩
   | false=>
    rw[hcl] at hfin
    simp only[wU] at hfin
    simp only[gi,eK,reduceIte,eX,Nat.reduceAdd]
    exact⟨hfin,by simp[jP,v4];omega⟩
 ·have g:((i:Int)<(l.length:Int))=False:=eq_false (by omega)
  rw[qR (by omega)] at B
  rw[qR (by omega)]
  simp only[eH.f1,iG,lv,ll,g,eK,reduceIte,eX,Nat.reduceAdd]
  exact hk h' B (u1.upd.trans u)
def aGM(l:List Lf)(q:Pr):Bool:=match l with
 | [f]=>f.p==q
 | _=>false
theorem aSl{l:List Lf}(h:l.length≠1)(q:Pr):aGM l q=false:=by
 match l,h with
 | [],_=>rfl
 | [f],h=>exact absurd rfl h
 | _::_::_,_=>rfl
theorem aQR(root s k v:Tx):aAM root s k v=((jM s).2==0 && !(jM s).1.ab&&aGM (jM s).1.lv ⟨k,v⟩&&nN root (jM s).1.lv):=by
 unfold aAM aGM
 rfl
def aFv(s:Tx):List Tx:=if (jM s).2=0∧(jM s).1.ab=false∧(jM s).1.lv.length=1 then wO (jM s).1.lv else []
theorem aQU{h:PH}{root s key value:Tx}{b m:Nat}{A:List Tx}{K:List Nat}(H:Bk b m A K h)(hs:s.length≤1000000000){k:eJ}(hk:∀h',Bk b m (aFv s++A) K h'->eW [b,m] h h'->k (.bool (aAM root s key value)) h'):
  cR PG aAm #[pT b 0,.string (tx root),.string (tx s),.string (tx key),.string (tx value)] h k:=by
 apply aCu.call
 unfold aCu
 have kb:=H.known b (by simp)
 have km:=H.known m (by simp)
 refine aOF hs λh1 v L1 u1=>?_
 have hbd:=aJ0 s
 have hl2:=aIi s
 rw[aQR] at hk
 unfold aFv at hk
 generalize jM s=P at *
 obtain⟨⟨ab,fs⟩,e⟩:=P
 simp only at L1 hbd hl2 hk ⊢
 simp only[eK,reduceIte,eX,Nat.reduceAdd]
 intro r5 hr5
 try rw[eY]
 have hr5h:h r5=none:=u1.none hr5
 refine eH.fill (vs:=[.bool ab,v]) hr5 rfl (by
  have:=L1.isc
  simp[iF];exact this) λh2 X2 u2=>?_
 have e2:=u1.trans u2
 have L2:=L1.upd u2 (by simp)
 obtain⟨l,el,S2,HS2,ov,oy⟩:=L2.offs kb km
 have hll:l.length=fs.length:=by rw[←el,kQ]
 have B2:=H.ext e2
 have la:bT PG h2 (loadAt iV (pT r5 0))=some (.bool ab):=by rw[iV.load,X2.cell];rfl
 have lv:bT PG h2 (loadAt eR (pT r5 1))=some v:=by rw[eR.load,X2.cell];rfl
 have ll:=aIZ S2
 have bad:¬(e=0∧ab=false∧fs.length=1)->k (.bool false) h2:=λhn=>by
  have:=hk h2
  rw[if_neg hn] at this
  have hf:(e==0 && !ab&&aGM fs ⟨key,value⟩&&nN root fs)=false:=by
   by_cases c0:e=0
   ·cases ab with
    | true=>simp
    | false=>rw[aSl (λh=>hn ⟨c0,rfl,h⟩)];simp
   ·simp[c0]
  rw[hf] at this
  exact this B2 e2.upd
 by_cases c0:e=0
 case neg=>
  have q:(e !=0)=true:=by simpa using c0
  simp only[lR,q,eK,reduceIte,eX,Nat.reduceAdd]
  exact bad λh=>c0 h.1
 have q:(e !=0)=false:=by simp[c0]
 cases ab with
 | true=>
  simp only[lR,q,eH.f0,la,eK,reduceIte,eX,Nat.reduceAdd]
  exact bad λh=>by cases h.2.1
 | false=>
  by_cases c1:fs.length=1
  case neg=>
   have q1:((l.length:Int) !=1)=true:=by simp;omega
   simp only[lR,q,q1,eH.f0,eH.f1,iG,la,lv,ll,eK,reduceIte,eX,Nat.reduceAdd]
   exact bad λh=>c1 h.2.2
  have q1:((l.length:Int) !=1)=false:=by simp;omega
  obtain⟨y,rfl⟩:=List.length_eq_one_iff.1 (show l.length=1 by omega)
  simp only[jT,kF] at el
  subst el
  simp only[lR,q,q1,eH.f0,eH.f1,iG,la,lv,ll,Pf.boxC X2,eK,reduceIte,eX,Nat.reduceAdd]
  refine aMd B2 S2 HS2 ov oy (by simp) (λz hz=>hbd z.1 (by simp only[iQ] at hz;subst hz;simp)) λh3 B3 u3=>?_
  have U3:eW [b,m] h h3:=e2.upd.trans u3
  have hk:=hk h3
  rw[if_pos ⟨c0,rfl,c1⟩] at hk
  have hk:=hk B3 U3
  have X3:=X2.upd u3 (λhm=>by
   have:=(gQ.one hr5h).off kb km r5 (by simp)
   exact this hm)
  have lv3:bT PG h3 (loadAt eR (pT r5 1))=some v:=by rw[eR.load,X3.cell];rfl
  obtain⟨x,o,i1,-,-,i4,i5⟩:=(S2.upd u3 ov).lfc (j:=0) (y:=y) rfl
  rw[show((0:Nat):Int)=0 from rfl] at i1
  simp only[c0,beq_self_eq_true,Bool.not_false,zLo] at hk
  have hpe:aGM [y.1] ⟨key,value⟩=(decide (y.1.p.k=key)&&decide (y.1.p.v=value)):=by
   rw[zLl]
   obtain⟨⟨_,_,⟨pk,pv⟩,_⟩,_⟩:=y
   simp[aGM]
  rw[hpe] at hk
  simp only[jT,kF]
  cases hc:nN root [y.1] with
  | false=>
   rw[hc,aFZ] at hk
   simp only[eK,reduceIte,eX,Nat.reduceAdd]
   exact hk
  | true=>
   rw[hc,Bool.and_true] at hk
   by_cases ck:y.1.p.k=key
   ·have d:=decide_eq_true ck
    rw[d,zLo] at hk
    simp only[lv3,i1,eH.f1,eD.f2,eQ.f0,eQ.f1,iG,cT.load,i4,i5,aEv,d,eK,reduceIte,eX,Nat.reduceAdd]
    exact hk
   ·have d:=decide_eq_false ck
    rw[d,wU] at hk
    simp only[lv3,i1,eH.f1,eD.f2,eQ.f0,iG,cT.load,i4,aEv,d,eK,reduceIte,eX,Nat.reduceAdd]
    exact hk
def aAQ(root:Tx)(l:List Lf)(k:Tx):Bool:=match l with
 | []=>root==lO []
 | [f]=>(f.i==0&&decide (k<f.p.k))||(f.i==IntKind.i64.wrap (f.n-1)&&decide (f.p.k<k))
 | f::g::_=>f.n==g.n&&(IntKind.i64.wrap (f.i+1)==g.i)&&decide (f.p.k<k)&&decide (k<g.p.k)
theorem aN0(root s k:Tx):aAU root s k=((jM s).2==0&&(jM s).1.ab&&decide (1≤k.length)&&decide (k.length≤16)&&nN root (jM s).1.lv&&aAQ root (jM s).1.lv k):=by
 unfold aAU aAQ
 rfl
def aHp(s k:Tx):List Tx:=if (jM s).2=0∧(jM s).1.ab=true∧1≤k.length∧k.length≤16 then wO (jM s).1.lv++(if (jM s).1.lv=[] then xG [] else []) else []
theorem aRh{h:PH}{root s key:Tx}{b m:Nat}{A:List Tx}{K:List Nat}(H:Bk b m A K h)(hs:s.length≤1000000000){k:eJ}(hk:∀h',Bk b m (aHp s key++A) K h'->eW [b,m] h h'->k (.bool (aAU root s key)) h'):
  cR PG aCX #[pT b 0,.string (tx root),.string (tx s),.string (tx key)] h k:=by
 apply sV.call
 unfold sV
 have kb:=H.known b (by simp)
 have km:=H.known m (by simp)
 have lk:aT PG (Builtin.len_ #[cT] dR #[.string (tx key)])=some (.int .i64 (key.length:Int)):=by rw[mW cT.und,jL]
 refine aOF hs λh1 v L1 u1=>?_
 have hbd:=aJ0 s
 have hl2:=aIi s
 rw[aN0] at hk
 unfold aHp at hk
 generalize jM s=P at *
 obtain⟨⟨ab,fs⟩,e⟩:=P
 simp only at L1 hbd hl2 hk ⊢
 simp only[eK,reduceIte,eX,Nat.reduceAdd]
 intro r5 hr5
 try rw[eY]
 have hr5h:h r5=none:=u1.none hr5
 refine eH.fill (vs:=[.bool ab,v]) hr5 rfl (by
  have:=L1.isc
  simp[iF];exact this) λh2 X2 u2=>?_
 have e2:=u1.trans u2
 have L2:=L1.upd u2 (by simp)
 obtain⟨l,el,S2,HS2,ov,oy⟩:=L2.offs kb km
 have hll:l.length=fs.length:=by rw[←el,kQ]
 have B2:=H.ext e2
 have la:bT PG h2 (loadAt iV (pT r5 0))=some (.bool ab):=by rw[iV.load,X2.cell];rfl
 have ll:=aIZ S2
 have bad:¬(e=0∧ab=true∧1≤key.length∧key.length≤16)->k (.bool false) h2:=λhn=>by
  have:=hk h2
  rw[if_neg hn] at this
  have hf:(e==0&&ab&&decide (1≤key.length)&&decide (key.length≤16)&&nN root fs&&aAQ root fs key)=false:=by
   by_cases c0:e=0
   ·cases ab with
    | false=>simp
    | true=>
     by_cases c1:1≤key.length
     ·have c2:¬key.length≤16:=λh=>hn ⟨c0,rfl,c1,h⟩
      simp[c2]
     ·simp[c1]
   ·simp[c0]
  rw[hf] at this
  exact this B2 e2.upd
 by_cases c0:e=0
 case neg=>
  have q:(e !=0)=true:=by simpa using c0
  simp only[lR,q,eK,reduceIte,eX,Nat.reduceAdd]
  exact bad λh=>c0 h.1
 have q:(e !=0)=false:=by simp[c0]
 cases ab with
 | false=>
  simp only[lR,q,eH.f0,la,eK,reduceIte,eX,Nat.reduceAdd]
  exact bad λh=>by cases h.2.1
 | true=>
  by_cases d1:key.length<1
  ·have g1:((key.length:Int)<1)=True:=eq_true (by omega)
   simp only[lR,q,eH.f0,la,lk,g1,eK,reduceIte,eX,Nat.reduceAdd]
   exact bad λh=>by omega
  have g1:((key.length:Int)<1)=False:=eq_false (by omega)
  by_cases d2:16<key.length
  ·have g2:((16:Int)<(key.length:Int))=True:=eq_true (by omega)
   simp only[lR,q,eH.f0,la,lk,g1,g2,eK,reduceIte,eX,Nat.reduceAdd]
   exact bad λh=>by omega
  have g2:((16:Int)<(key.length:Int))=False:=eq_false (by omega)
  have f1:decide (1≤key.length)=true:=decide_eq_true (by omega)
  have f2:decide (key.length≤16)=true:=decide_eq_true (by omega)
  simp only[lR,q,eH.f0,la,lk,g1,g2,Pf.boxC X2,eK,reduceIte,eX,Nat.reduceAdd]
  refine aMd B2 S2 HS2 ov oy (by omega) (λz hz=>hbd z.1 (by rw[←el];exact zL4 hz)) λh3 B3 u3=>?_
  rw[el] at B3 ⊢
  have U3:eW [b,m] h h3:=e2.upd.trans u3
  have X3:=X2.upd u3 (λhm=>by
   have:=(gQ.one hr5h).off kb km r5 (by simp)
   exact this hm)
  have lv3:bT PG h3 (loadAt eR (pT r5 1))=some v:=by rw[eR.load,X3.cell];rfl
  have S3:=S2.upd u3 ov
  have hk:∀h',Bk b m ((wO fs++(if fs=[] then xG [] else []))++A) K h'->eW [b,m] h h'->k (.bool (nN root fs&&aAQ root fs key)) h':=λh' hB hU=>by
   have:=hk h'
   rw[if_pos ⟨c0,rfl,by omega,by omega⟩,f1,f2,c0] at this
   simp only[beq_self_eq_true,zLo,Bool.and_self] at this
   exact this hB hU
  cases hc:nN root fs with
  | false=>
   rw[hc] at hk
   simp only[wU] at hk
   simp only[eK,reduceIte,eX,Nat.reduceAdd]
   have hne:fs≠[]:=λh=>by rw[h] at hc;cases hc
   rw[if_neg hne,zLN] at hk
   exact hk h3 B3 U3
  | true=>
   rw[hc] at hk
   simp only[zLo] at hk
   subst el
   match l,S3,ll,hl2,hk,B3 with
   | [],S3,ll,hl2,hk,B3=>
    have q0:(((([]:List LV).length:Nat):Int)==0)=true:=rfl
    simp only[lv3,ll,jO,q0,eH.f1,iG,eK,reduceIte,eX,Nat.reduceAdd]
    refine aUE B3 (l:=[]) (by simp) (gU.nil (e:=eQ) (size:=2)).slR (λa n c e=>by cases e) (λp hp=>by cases hp) λh4 B4 u4=>?_
    have:=hk h4 (B4.mono λa ha=>by
     simp only[kF,if_true,kR] at ha ⊢
     rcases ha with(ha|ha)|ha
     ·cases ha
     ·exact .inl ha
     ·exact .inr (.inr ha)) (U3.trans u4)
    simp only[aEv,eK,reduceIte,eX,Nat.reduceAdd]
    have ht:aAQ root (([]:List LV).map (·.1)) key=decide (root=lO []):=by
     rw[zLl];simp[aAQ]
    rw[ht] at this
    exact this
   | [y],S3,ll,hl2,hk,B3=>
    have q0:((([y].length:Nat):Int)==0)=false:=rfl
    have q1:((([y].length:Nat):Int)==1)=true:=rfl
    obtain⟨x,o,i1,i2,i3,i4,-⟩:=S3.lfc (j:=0) (y:=y) rfl
    rw[show((0:Nat):Int)=0 from rfl] at i1
    have hk:=hk h3 (B3.mono λa ha=>by simpa using ha) U3
    have ht:aAQ root ([y].map (·.1)) key=((y.1.i==0&&decide (key<y.1.p.k))||(y.1.i==IntKind.i64.wrap (y.1.n-1)&&decide (y.1.p.k<key))):=rfl
    rw[ht] at hk
    simp only[lv3,ll,jO,q0,q1,i1,eH.f1,eD.f0,eD.f1,eD.f2,eQ.f0,iG,dR.load,cT.load,i2,i3,i4,eK,reduceIte,eX,Nat.reduceAdd]
    cases hi:y.1.i==0 with
    | true=>
     rw[hi] at hk
     simp only[zLo] at hk
     simp only[i1,eD.f0,eD.f1,eD.f2,eQ.f0,dR.load,cT.load,i2,i3,i4,aMm,jO,eK,reduceIte,eX,Nat.reduceAdd]
     cases hj:y.1.i==IntKind.i64.wrap (y.1.n-1) with
     | true=>
      rw[hj] at hk
      simp only[zLo] at hk
      by_cases ck:key<y.1.p.k
      ·have d:=decide_eq_true ck
       rw[d] at hk
       simp only[Bool.true_or] at hk
       simp only[i1,eD.f2,eQ.f0,cT.load,i4,xQ,d,eK,reduceIte,eX,Nat.reduceAdd]
       exact hk
      ·have d:=decide_eq_false ck
       rw[d] at hk
       simp only[aJv] at hk
       simp only[i1,eD.f2,eQ.f0,cT.load,i4,xQ,d,eK,reduceIte,eX,Nat.reduceAdd]
       exact hk
     | false=>
      rw[hj] at hk
      simp only[wU,Bool.or_false] at hk
      by_cases ck:key<y.1.p.k
      ·have d:=decide_eq_true ck
       rw[d] at hk
       simp only[d,eK,reduceIte,eX,Nat.reduceAdd]
       exact hk
      ·have d:=decide_eq_false ck
       rw[d] at hk
       simp only[d,eK,reduceIte,eX,Nat.reduceAdd]
       exact hk
    | false=>
     rw[hi] at hk
     simp only[wU,aJv] at hk
     simp only[i1,eD.f0,eD.f1,dR.load,i2,i3,jO,eK,reduceIte,eX,Nat.reduceAdd]
     cases hj:y.1.i==IntKind.i64.wrap (y.1.n-1) with
     | true=>
      rw[hj] at hk
      simp only[zLo] at hk
      simp only[i1,eD.f2,eQ.f0,cT.load,i4,xQ,eK,reduceIte,eX,Nat.reduceAdd]
      exact hk
     | false=>
      rw[hj] at hk
      simp only[wU] at hk
      simp only[eK,reduceIte,eX,Nat.reduceAdd]
      exact hk
   | y::z::r,S3,ll,hl2,hk,B3=>
    have q0:((((y::z::r).length:Nat):Int)==0)=false:=by simp;omega
    have q1:((((y::z::r).length:Nat):Int)==1)=false:=by simp;omega
    obtain⟨x,o,i1,i2,i3,i4,-⟩:=S3.lfc (j:=0) (y:=y) rfl
    obtain⟨x',o',j1,j2,j3,j4,-⟩:=S3.lfc (j:=1) (y:=z) rfl
    rw[show((0:Nat):Int)=0 from rfl] at i1
    rw[show((1:Nat):Int)=1 from rfl] at j1
    have hk:=hk h3 (B3.mono λa ha=>by simpa using ha) U3
    have ht:aAQ root ((y::z::r).map (·.1)) key=(y.1.n==z.1.n&&(IntKind.i64.wrap (y.1.i+1)==z.1.i)&&decide (y.1.p.k<key)&&decide (key<z.1.p.k)):=rfl
    rw[ht] at hk
    have hsw:(z.1.i==IntKind.i64.wrap (y.1.i+1))=(IntKind.i64.wrap (y.1.i+1)==z.1.i):=by
     rw[zLl];simp only[beq_iff_eq];exact eq_comm
    simp only[lv3,ll,jO,q0,q1,i1,j1,eH.f1,eD.f0,eD.f1,eD.f2,eQ.f0,iG,dR.load,cT.load,i2,i3,i4,j2,j3,j4,eK,reduceIte,eX,Nat.reduceAdd]
    cases h1':y.1.n==z.1.n with
    | false=>
     rw[h1'] at hk
     simp only[wU] at hk
     simp only[eK,reduceIte,eX,Nat.reduceAdd]
     exact hk
    | true=>
     rw[h1'] at hk
     simp only[zLo] at hk
     simp only[i1,j1,eD.f0,dR.load,i2,j2,jO,hsw,eK,reduceIte,eX,Nat.reduceAdd]
     cases h2':IntKind.i64.wrap (y.1.i+1)==z.1.i with
     | false=>
      rw[h2'] at hk
      simp only[wU] at hk
      simp only[eK,reduceIte,eX,Nat.reduceAdd]
      exact hk
     | true=>
      rw[h2'] at hk
      simp only[zLo] at hk
      simp only[i1,eD.f2,eQ.f0,cT.load,i4,xQ,eK,reduceIte,eX,Nat.reduceAdd]
      by_cases c3:y.1.p.k<key
      ·have d:=decide_eq_true c3
       rw[d] at hk
       simp only[zLo] at hk
       simp only[j1,eD.f2,eQ.f0,cT.load,j4,aMm,d,eK,reduceIte,eX,Nat.reduceAdd]
       exact hk
      ·have d:=decide_eq_false c3
       rw[d] at hk
       simp only[wU] at hk
       simp only[d,eK,reduceIte,eX,Nat.reduceAdd]
       exact hk
end Go.Proofs.YtcoajnpchhmgjaaGreatDoor
namespace Go.Proofs.YtcoajnpchhmgjaaGreatDoor
open Go Bld
theorem aR0:iP PG (buildSlice eM 0 #[])=some (.cells #[] eQ,λr=>pure (.slice (some ⟨r,0,none⟩) 0 0)):=by kernel_rfl
theorem aLD{h:PH}{v x:Value}{l ys:List Pr}{F:List Nat}(O:gU h eQ 2 v (l.map Pr.cells) F)(S:iR h 2 x (ys.map Pr.cells))(hl:l.length+ys.length≤1000000){t:TypeId}{k:eJ}
  (hk:∀v' h' F',gU h' eQ 2 v' ((l++ys).map Pr.cells) F'->eW F h h'->(∀b∈F',b∈F∨h b=none)->k v' h'):eZ PG (Builtin.append_ #[eM,eM] t #[v,x]) h k:=by
 refine kU eM.und eM.und eQ.info eQ.size eQ.bytes eQ.zero rfl (by decide) O S (Pr.isCell ys) (by simp;omega) ?_
 intro v' h' F' O' u' k' _
 rw[←rL] at O'
 exact hk v' h' F' O' u' k'
theorem vH.now{h h1 h':PH}{b:Nat}{s:St}{G F:List Nat}{n:List Pr}{nv bv v:Value}(H:vH h b s G)(hb:h b=some (.cells #[nv,.int .u64 ((s.height-(s.blocks.length-1):Nat):Int),bv] fN (0,0)))(u:fE h h1)(O:gU h1 eQ 2 v (n.map Pr.cells) F)(fF:gQ h F)(hok:St.Ok {s with now:=n})
  (e:h'=h1.set b (.cells #[v,.int .u64 ((s.height-(s.blocks.length-1):Nat):Int),bv] fN (0,0))):vH h' b {s with now:=n} (G++F)∧eW [b] h h'∧(∀g∈G++F,g∈G∨h g=none):=by
 subst e
 obtain⟨nv',bv',bl,h1',h2,h3,h4,h5,h6,h7,h8,h9⟩:=H.here
 rw[hb] at h1'
 simp only[zL5,Obj.cells.injEq,Array.mk.injEq,mQ,and_true,true_and] at h1'
 obtain⟨rfl,rfl⟩:=h1'
 have uu:eW [b] h (h1.set b (.cells #[v,.int .u64 ((s.height-(s.blocks.length-1):Nat):Int),bv] fN (0,0))):=u.upd.trans (eW.set (by simp))
 have hG:∀g∈G,g∉[b]:=λg hg=>by simp only[iQ];rintro rfl;exact h8 hg
 have hF:∀g∈F,g∉[b]:=λg hg=>by
  simp only[iQ];rintro rfl
  have:=fF _ hg
  rw[hb] at this;cases this
 have O':=O.upd (eW.set (F:=[b]) (r:=b) (o:=(.cells #[v,.int .u64 ((s.height-(s.blocks.length-1):Nat):Int),bv] fN (0,0))) (by simp)) hF
 refine⟨⟨⟨v,bv,bl,fP,O'.slR,h3.upd uu λa n c e=>hG _ (h7 a n c e),λx hx=>⟨(h4 x hx).1.upd uu λa n c e=>hG _ ((h4 x hx).2 a n c e),λa n c e=>zLj _ ((h4 x hx).2 a n c e)⟩,h5,λa n c e=>zLk _ (aFk O' a n c e),λa n c e=>zLj _ (h7 a n c e),?_,λg hg=>?_⟩,hok⟩,uu,λg hg=>?_⟩
 ·intro hm
  rcases kR.1 hm with hm|hm
  ·exact h8 hm
  ·exact hF _ hm (by simp)
 ·rcases kR.1 hg with hg|hg
  ·obtain⟨o,ho⟩:=aGt.1 (h9 g hg)
   rw[uu.get ho (hG g hg)];simp
  ·exact O'.known g hg
 ·rcases kR.1 hg with hg|hg
  ·exact .inl hg
  ·exact .inr (fF g hg)
theorem aVc{h:PH}{b:Nat}{s:St}{G:List Nat}(H:vH h b s G)(k v:Tx){kk:eJ}(hk:∀h' G',vH h' b (aCU s k v).1 G'->eW [b] h h'->(∀g∈G',g∈G∨h g=none)->kk (.int .i64 (aCU s k v).2) h'):
  cR PG oG #[pT b 0,.string (tx k),.string (tx v)] h kk:=by
 apply xA.call
 unfold xA
 have fin1:(k.length<1∨16<k.length∨64<v.length)->kk (.int .i64 1) h:=λhb=>by
  have:=hk h G (by unfold aCU;rw[if_pos hb];exact H) eW.refl (λg hg=>.inl hg)
  unfold aCU at this
  rw[if_pos hb] at this
  exact this
 by_cases d1:k.length<1
 ·have g1:((k.length:Int)==0)=true:=by simp;exact zLL (by omega)
  simp only[cT.len,jL,g1,eK,reduceIte]
  exact fin1 (.inl d1)
 have g1:((k.length:Int)==0)=false:=by simp;rintro rfl;simp at d1
 by_cases d2:16<k.length
 ·have g2:((16:Int)<(k.length:Int))=True:=eq_true (by omega)
  simp only[cT.len,jL,g1,g2,eK,reduceIte]
  exact fin1 (.inr (.inl d2))
 have g2:((16:Int)<(k.length:Int))=False:=eq_false (by omega)
 by_cases d3:64<v.length
 ·have g3:((64:Int)<(v.length:Int))=True:=eq_true (by omega)
  simp only[cT.len,jL,g1,g2,g3,eK,reduceIte]
  exact fin1 (.inr (.inr d3))
 have g3:((64:Int)<(v.length:Int))=False:=eq_false (by omega)
 have hr:¬(k.length<1∨16<k.length∨64<v.length):=by omega
 have hok:=H.ok
 have hH:=H
 obtain⟨A,M,B,c⟩:=hok.up.cut k
 obtain⟨nv,bv,bl,h1,h2,h3,h4,h5,h6,h7,h8,h9⟩:=H.here
 have c0:fH h ⟨b,0,none⟩=some nv:=by simp[fH,h1]
 have hlen:s.now.length=A.length+(M.length+B.length):=by rw[c.eq];simp
 have hfew:=hok.few
 have hget:=c.get hok.up
 simp only[cT.len,jL,g1,g2,g3,eK,reduceIte]
 refine aNK H c ?_
 obtain⟨w1,x1,x2⟩:=h2.cutP (lo:=some (.int .i64 (A.length:Int))) (hi:=none) (a:=A.length) (m:=s.now.length) (.inr ⟨_,rfl⟩) (.inl ⟨rfl,rfl⟩) (by omega) (sL _)
 rw[zLG] at x2
 simp only[fN.f0,eM.load,c0,x1,eK,reduceIte]
 -- what is left, laid
 have fin:∀t9,iR h 2 t9 (B.map Pr.cells)->¬(jI s.now k=none∧4096≤s.now.length)->rZ kk (pT b 0) (.string (tx k)) (.string (tx v)) (.int .i64 (A.length:Int)) t9 h:=by
  intro t9 S9 hc
  unfold rZ
  simp only[aR0,eK,reduceIte]
  intro r hr'
  refine iK ?_
  try rw[eY]
  have u1:fE h (h.set r (.cells #[] eQ)):=eW.new hr'
  have O1:gU (h.set r (.cells #[] eQ)) eQ 2 (.slice (some ⟨r,0,none⟩) 0 0) (([]:List Pr).map Pr.cells) [r]:=gU.lit (n:=0) (Pr.rows []) fP (by simp) (by decide) rfl
  generalize h.set r (.cells #[] eQ)=h1' at *
  have f1:gQ h [r]:=gQ.one hr'
  have hb1:=u1.get h1
  have c0:fH h1' ⟨b,0,none⟩=some nv:=by simp[fH,hb1]
  obtain⟨w2,y1,y2⟩:=(h2.ext u1).cutP (lo:=none) (hi:=some (.int .i64 (A.length:Int))) (a:=0) (m:=A.length) (.inl ⟨rfl,rfl⟩) (.inr ⟨_,rfl⟩) (by omega) (by omega)
  have eA:(s.now.take A.length).drop 0=A:=by rw[zLa,c.eq,List.take_left]
  rw[eA] at y2
  simp only[fN.f0,eM.load,c0,y1,eK,reduceIte]
  refine aLD O1 y2 (by simp;omega) λv2 h2' F2 O2 u2 k2=>?_
  rw[yB] at O2
  have e2:fE h h2':=u1.fresh u2 f1
  have f2:gQ h F2:=f1.grow u1 k2
  have hpb:aT PG (build eQ #[(0,.string (tx k)),(1,.string (tx v))])=some (Pr.val ⟨k,v⟩):=aPb ⟨k,v⟩
  have hpl:=aR6 ⟨k,v⟩
  simp only[hpb,hpl,eK,reduceIte]
  intro r3 hr3
  refine iK ?_
  try rw[eY]
  have u3:fE h2' (h2'.set r3 (.cells #[.string (tx k),.string (tx v)] eQ)):=eW.new hr3
  have s3:iR (h2'.set r3 (.cells #[.string (tx k),.string (tx v)] eQ)) 2 (.slice (some ⟨r3,0,none⟩) 1 1) ([(⟨k,v⟩:Pr)].map Pr.cells):=(gU.lit (n:=1) (Pr.rows [⟨k,v⟩]) fP (by simp) (by decide) rfl).slR
  generalize h2'.set r3 (.cells #[.string (tx k),.string (tx v)] eQ)=h3' at *
  have e3:fE h h3':=e2.trans u3
  refine aLD (O2.ext u3) s3 (by simp;omega) λv4 h4' F4 O4 u4 k4=>?_
  have e4:fE h h4':=e3.fresh u4 f2
  have f4:gQ h F4:=f2.grow e3 k4
  refine aLD O4 (S9.ext e4) (by simp;omega) λv5 h5' F5 O5 u5 k5=>?_
  have e5:fE h h5':=e4.fresh u5 f4
  have f5:gQ h F5:=f4.grow e4 k5
  have eL:(A++[(⟨k,v⟩:Pr)])++B=oV s.now ⟨k,v⟩:=by rw[c.set hok.up];simp
  rw[eL] at O5
  have hb5:=e5.get h1
  have hvc:iF v5=true:=by obtain⟨_,_,e,_⟩:=O5.slR.here;rw[e];rfl
  try simp only[fN.f0,eK,reduceIte]
  refine jY eM.und rfl hb5 (by simp) hvc eM.info eM.size ?_
  have hs:aCU s k v=({s with now:=oV s.now ⟨k,v⟩},0):=by unfold aCU;rw[if_neg hr,if_neg hc]
  rw[hs] at hk
  obtain⟨q1,q2,q3⟩:=vH.now hH h1 e5 O5 f5 (hok.setOk hr hc) rfl
  exact hk _ _ q1 q2 q3
 rcases c.mid with e|⟨q,e,e2⟩
 ·have gM:decide (M≠[])=false:=by simp[e]
  have hgn:jI s.now k=none:=by rw[gM] at hget;simpa using hget
  have eB:s.now.drop A.length=B:=by rw[c.eq,List.drop_left,e,yB]
  rw[eB] at x2
  have ln:=h2.len (t':=dR) eM.und
  rw[kQ] at ln
  by_cases d4:4096≤s.now.length
  ·have g4:((4096:Int)≤(s.now.length:Int))=True:=eq_true (by omega)
   simp only[gM,fN.f0,eM.load,c0,ln,g4,eK,reduceIte]
   have hs:aCU s k v=(s,2):=by unfold aCU;rw[if_neg hr,if_pos ⟨hgn,d4⟩]
   rw[hs] at hk
   exact hk h G hH eW.refl (λg hg=>.inl hg)
  ·have g4:((4096:Int)≤(s.now.length:Int))=False:=eq_false (by omega)
   simp only[gM,fN.f0,eM.load,c0,ln,g4,eK,reduceIte]
   exact fin w1 x2 (λh=>d4 h.2)
 ·have gM:decide (M≠[])=true:=by simp[e]
  have hgn:¬jI s.now k=none:=λh=>by rw[h,gM] at hget;simp at hget
  have gi:IntKind.i64.wrap ((A.length:Int)+1)=((A.length+1:Nat):Int):=by rw[gD (by omega) (by omega)];omega
  have hM1:M.length=1:=by rw[e];rfl
  obtain⟨w3,z1,z2⟩:=h2.cutP (lo:=some (.int .i64 ((A.length+1:Nat):Int))) (hi:=none) (a:=A.length+1) (m:=s.now.length) (.inr ⟨_,rfl⟩) (.inl ⟨rfl,rfl⟩) (by omega) (sL _)
  have eB:(s.now.take s.now.length).drop (A.length+1)=B:=by
   rw[zLG,c.eq,←qU]
   have:A.length+1=(A++M).length:=by rw[lH,hM1]
   rw[this,List.drop_left]
  rw[eB] at z2
  simp only[gM,fN.f0,eM.load,c0,gi,z1,eK,reduceIte]
  exact fin w3 z2 (λh=>hgn h.1)
theorem aVs{h:PH}{b:Nat}{s:St}{G:List Nat}(H:vH h b s G)(k:Tx){kk:eJ}(hk:∀h' G',vH h' b (aEp s k).1 G'->eW [b] h h'->(∀g∈G',g∈G∨h g=none)->kk (.int .i64 (aEp s k).2) h'):
  cR PG oR #[pT b 0,.string (tx k)] h kk:=by
 apply oF.call
 unfold oF
 have hok:=H.ok
 have hH:=H
 obtain⟨A,M,B,c⟩:=hok.up.cut k
 obtain⟨nv,bv,bl,h1,h2,h3,h4,h5,h6,h7,h8,h9⟩:=H.here
 have c0:fH h ⟨b,0,none⟩=some nv:=by simp[fH,h1]
 have hlen:s.now.length=A.length+(M.length+B.length):=by rw[c.eq];simp
 have hfew:=hok.few
 have hget:=c.get hok.up
 refine aNK H c ?_
 rcases c.mid with e|⟨q,e,e2⟩
 ·have gM:decide (M≠[])=false:=by simp[e]
  have hgn:jI s.now k=none:=by rw[gM] at hget;simpa using hget
  simp only[gM,eK,reduceIte]
  have hs:aEp s k=(s,3):=by unfold aEp;rw[if_pos hgn]
  rw[hs] at hk
  exact hk h G hH eW.refl (λg hg=>.inl hg)
 ·have gM:decide (M≠[])=true:=by simp[e]
  have hgn:¬jI s.now k=none:=λh=>by rw[h,gM] at hget;simp at hget
  have gi:IntKind.i64.wrap ((A.length:Int)+1)=((A.length+1:Nat):Int):=by rw[gD (by omega) (by omega)];omega
  have hM1:M.length=1:=by rw[e];rfl
  obtain⟨w3,z1,z2⟩:=h2.cutP (lo:=some (.int .i64 ((A.length+1:Nat):Int))) (hi:=none) (a:=A.length+1) (m:=s.now.length) (.inr ⟨_,rfl⟩) (.inl ⟨rfl,rfl⟩) (by omega) (sL _)
  have eB:(s.now.take s.now.length).drop (A.length+1)=B:=by
   rw[zLG,c.eq,←qU]
   have:A.length+1=(A++M).length:=by rw[lH,hM1]
   rw[this,List.drop_left]
  rw[eB] at z2
  obtain⟨w2,y1,y2⟩:=h2.cutP (lo:=none) (hi:=some (.int .i64 (A.length:Int))) (a:=0) (m:=A.length) (.inl ⟨rfl,rfl⟩) (.inr ⟨_,rfl⟩) (by omega) (by omega)
  have eA:(s.now.take A.length).drop 0=A:=by rw[zLa,c.eq,List.take_left]
  rw[eA] at y2
  simp only[gM,fN.f0,eM.load,c0,gi,y1,z1,aR0,eK,reduceIte]
  intro r hr'
  refine iK ?_
  try rw[eY]
  have u1:fE h (h.set r (.cells #[] eQ)):=eW.new hr'
  have O1:gU (h.set r (.cells #[] eQ)) eQ 2 (.slice (some ⟨r,0,none⟩) 0 0) (([]:List Pr).map Pr.cells) [r]:=gU.lit (n:=0) (Pr.rows []) fP (by simp) (by decide) rfl
  generalize h.set r (.cells #[] eQ)=h1' at *
  have f1:gQ h [r]:=gQ.one hr'
  refine aLD O1 (y2.ext u1) (by simp;omega) λv2 h2' F2 O2 u2 k2=>?_
  rw[yB] at O2
  have e2:fE h h2':=u1.fresh u2 f1
  have f2:gQ h F2:=f1.grow u1 k2
  have hb2:=e2.get h1
  refine⟨by simp[fH,hb2],?_⟩
  refine aLD O2 (z2.ext e2) (by omega) λv5 h5' F5 O5 u5 k5=>?_
  have e5:fE h h5':=e2.fresh u5 f2
  have f5:gQ h F5:=f2.grow e2 k5
  rw[←c.del] at O5
  have hb5:=e5.get h1
  have hvc:iF v5=true:=by obtain⟨_,_,e,_⟩:=O5.slR.here;rw[e];rfl
  try simp only[fN.f0,eK,reduceIte]
  refine jY eM.und rfl hb5 (by simp) hvc eM.info eM.size ?_
  have hs:aEp s k=({s with now:=zR s.now k},0):=by unfold aEp;rw[if_neg hgn]
  rw[hs] at hk
  obtain⟨q1,q2,q3⟩:=vH.now hH h1 e5 O5 f5 ⟨hok.up.del _,λp hp=>hok.fit p (aN5.1 hp).1,zLB (List.length_filter_le _ _) hok.few,hok.blk,hok.h1,hok.h2,hok.h3,hok.h4⟩ rfl
  exact hk _ _ q1 q2 q3
theorem aCx{h:PH}{b:Nat}{s:St}{G:List Nat}(H:vH h b s G){kk:eJ}(hk:kk (.int .u64 s.height) h):cR PG kW #[pT b 0] h kk:=by
 apply oE.call
 unfold oE
 have hok:=H.ok
 obtain⟨nv,bv,bl,h1,h2,h3,h4,h5,h6,h7,h8,h9⟩:=H.here
 have c1:fH h ⟨b,0+1,none⟩=some (.int .u64 ((s.height-(s.blocks.length-1):Nat):Int)):=by simp[fH,h1]
 have c2:fH h ⟨b,0+2,none⟩=some bv:=by simp[fH,h1]
 have ln:=h3.len (t':=dR) hZ.und
 rw[kQ,show bl.length=s.blocks.length by rw[←h5,kQ]] at ln
 have a1:=hok.h1
 have a2:=hok.h2
 have a3:=hok.h3
 have a4:=hok.h4
 have e1:IntKind.i64.wrap ((s.blocks.length:Int)-1)=((s.blocks.length-1:Nat):Int):=by rw[gD (by omega) (by omega)];omega
 have e2:IntKind.u64.wrap ((s.blocks.length-1:Nat):Int)=((s.blocks.length-1:Nat):Int):=iZ (by omega) (by omega)
 have e3:IntKind.u64.wrap (((s.height-(s.blocks.length-1):Nat):Int)+((s.blocks.length-1:Nat):Int))=(s.height:Int):=by rw[iZ (by omega) (by omega)];omega
 simp only[fN.f1,fN.f2,dT.load,hZ.load,c1,c2,ln,e1,aBX,e2,e3,eK,reduceIte]
 exact hk
theorem aUg{h:PH}{v x:Value}{l ys:List (Value×List Pr)}{F:List Nat}(O:gU h eM 1 v (l.map aEi) F)(S:iR h 1 x (ys.map aEi))(hy:∀y∈ys,iF y.1=true)(hl:l.length+ys.length≤1000000){t:TypeId}{k:eJ}
  (hk:∀v' h' F',gU h' eM 1 v' ((l++ys).map aEi) F'->eW F h h'->(∀b∈F',b∈F∨h b=none)->k v' h'):eZ PG (Builtin.append_ #[hZ,hZ] t #[v,x]) h k:=by
 refine kU hZ.und hZ.und eM.info eM.size eM.bytes eM.zero rfl (by decide) O S ?_ (by simp;omega) ?_
 ·intro r hr u hu
  obtain⟨y,hyy,rfl⟩:=mT.1 hr
  simp only[aEi,iQ] at hu
  subst hu
  exact hy y hyy
 intro v' h' F' O' u' k' _
 rw[←rL] at O'
 exact hk v' h' F' O' u' k'
theorem aVq{h:PH}{b:Nat}{s:St}{G:List Nat}(H:vH h b s G){kk:eJ}(hk:∀h' G',vH h' b (lF s).1 G'->eW [b] h h'->(∀g∈G',g∈G∨h g=none)->kk (.tuple #[.int .u64 ((lF s).2.1:Int),.int .i64 (lF s).2.2]) h'):
  cR PG wI #[pT b 0] h kk:=by
 apply oI.call
 unfold oI
 refine aCx H ?_
 have hok:=H.ok
 have hH:=H
 have a1:=hok.h1
 have a2:=hok.h2
 have a3:=hok.h3
 have a4:=hok.h4
 by_cases d1:s.height=18446744073709551615
 ·have e1:IntKind.u64.wrap ((s.height:Int)+1)=0:=by
   rw[d1];rfl
  simp only[e1,show((0:Int)==0)=true from rfl,eK,reduceIte]
  have hs:lF s=(s,(0,12)):=by unfold lF;rw[if_pos d1]
  rw[hs] at hk
  exact hk h G hH eW.refl (λg hg=>.inl hg)
 have e1:IntKind.u64.wrap ((s.height:Int)+1)=((s.height+1:Nat):Int):=by rw[iZ (by omega) (by omega)];omega
 have g1:(((s.height+1:Nat):Int)==0)=false:=by simp;omega
 obtain⟨nv,bv,bl,h1,h2,h3,h4,h5,h6,h7,h8,h9⟩:=H.here
 have c0:fH h ⟨b,0,none⟩=some nv:=by simp[fH,h1]
 have c2:fH h ⟨b,0+2,none⟩=some bv:=by simp[fH,h1]
 have ln:=h3.len (t':=dR) hZ.und
 have hbn:bl.length=s.blocks.length:=by rw[←h5,kQ]
 rw[kQ,hbn] at ln
 by_cases d2:4096≤s.blocks.length
 ·have g2:((4096:Int)≤(s.blocks.length:Int))=True:=eq_true (by omega)
  simp only[e1,g1,fN.f2,hZ.load,c2,ln,g2,eK,reduceIte]
  have hs:lF s=(s,(0,2)):=by unfold lF;rw[if_neg d1,if_pos d2]
  rw[hs] at hk
  exact hk h G hH eW.refl (λg hg=>.inl hg)
 have g2:((4096:Int)≤(s.blocks.length:Int))=False:=eq_false (by omega)
 have l0:iP PG (buildSlice hZ 0 #[])=some (.cells #[] eM,λr=>pure (.slice (some ⟨r,0,none⟩) 0 0)):=by kernel_rfl
 simp only[e1,g1,fN.f0,fN.f2,eM.load,hZ.load,c0,c2,ln,g2,l0,eK,reduceIte]
 intro r hr'
 refine iK ?_
 try rw[eY]
 have u1:fE h (h.set r (.cells #[] eM)):=eW.new hr'
 have O1:gU (h.set r (.cells #[] eM)) eM 1 (.slice (some ⟨r,0,none⟩) 0 0) (([]:List (Value×List Pr)).map aEi) [r]:=gU.lit (n:=0) (aEi.rows []) fP (by simp) (by decide) rfl
 generalize h.set r (.cells #[] eM)=h1' at *
 have f1:gQ h [r]:=gQ.one hr'
 refine aUg O1 (h3.ext u1) (λy hy=>(h4 y hy).1.isc) (by simp;omega) λv2 h2' F2 O2 u2 k2=>?_
 rw[yB] at O2
 have e2:fE h h2':=u1.fresh u2 f1
 have f2:gQ h F2:=f1.grow u1 k2
 have hb2:=e2.get h1
 refine⟨by simp[fH,hb2],?_⟩
 have hnl:∃a n c,nv= .slice a n c:=by obtain⟨a,c,e,_⟩:=h2.here;exact⟨a,_,c,e⟩
 have l1:iP PG (buildSlice hZ 1 #[(0,nv)])=some (.cells #[nv] eM,λr=>pure (.slice (some ⟨r,0,none⟩) 1 1)):=by
  obtain⟨a,n,c,rfl⟩:=hnl
  kernel_rfl
 simp only[l1,eK,reduceIte]
 intro r3 hr3
 refine iK ?_
 try rw[eY]
 have u3:fE h2' (h2'.set r3 (.cells #[nv] eM)):=eW.new hr3
 have s3:iR (h2'.set r3 (.cells #[nv] eM)) 1 (.slice (some ⟨r3,0,none⟩) 1 1) ([((nv:Value),s.now)].map aEi):=(gU.lit (n:=1) (aEi.rows [(nv,s.now)]) fP (by simp) (by decide) rfl).slR
 generalize h2'.set r3 (.cells #[nv] eM)=h3' at *
 have e3:fE h h3':=e2.trans u3
 refine aUg (O2.ext u3) s3 (λy hy=>by simp only[iQ] at hy;subst hy;exact h2.isc) (by simp;omega) λv5 h5' F5 O5 u5 k5=>?_
 have e5:fE h h5':=e3.fresh u5 f2
 have f5:gQ h F5:=f2.grow e3 k5
 have hb5:=e5.get h1
 try simp only[fN.f2,eK,reduceIte]
 refine jY hZ.und rfl hb5 (by simp) O5.slR.isc hZ.info hZ.size ?_
 have ew:(#[nv,.int .u64 ((s.height-(s.blocks.length-1):Nat):Int),bv]:Array Value).setIfInBounds (0+2) v5= #[nv,.int .u64 ((s.height-(s.blocks.length-1):Nat):Int),v5]:=rfl
 rw[ew]
 have u6:eW [b] h5' (h5'.set b (.cells #[nv,.int .u64 ((s.height-(s.blocks.length-1):Nat):Int),v5] fN (0,0))):=eW.set (by simp)
 have b6:(h5'.set b (.cells #[nv,.int .u64 ((s.height-(s.blocks.length-1):Nat):Int),v5] fN (0,0))) b=some (.cells #[nv,.int .u64 ((s.height-(s.blocks.length-1):Nat):Int),v5] fN (0,0)):=fP
 generalize h5'.set b (.cells #[nv,.int .u64 ((s.height-(s.blocks.length-1):Nat):Int),v5] fN (0,0))=h6' at *
 have hs:lF s=({s with blocks:=s.blocks++[s.now],height:=s.height+1},(s.height+1,0)):=by unfold lF;rw[if_neg d1,if_neg d2]
 rw[hs] at hk
 have uu:eW [b] h h6':=e5.upd.trans u6
 have hG:∀g∈G,g∉[b]:=λg hg=>by simp only[iQ];rintro rfl;exact h8 hg
 have hF:∀g∈F5,g∉[b]:=λg hg=>by
  simp only[iQ];rintro rfl
  have:=f5 _ hg
  rw[h1] at this;cases this
 have O6:=O5.upd u6 hF
 have hnew:vH h6' b {s with blocks:=s.blocks++[s.now],height:=s.height+1} (G++F5):=by
  refine⟨⟨nv,v5,bl++[(nv,s.now)],?_,h2.upd uu λa n c e=>hG _ (h6 a n c e),O6.slR,λx hx=>?_,by rw[rL,h5];rfl,λa n c e=>zLj _ (h6 a n c e),λa n c e=>zLk _ (aFk O6 a n c e),?_,λg hg=>?_⟩,?_⟩
  ·have eh:s.height+1-((s.blocks++[s.now]).length-1)=s.height-(s.blocks.length-1):=by
    simp only[lH,zLQ]
    omega
   show h6' b=some (.cells #[nv,.int .u64 ((s.height+1-((s.blocks++[s.now]).length-1):Nat):Int),v5] fN (0,0))
   rw[eh];exact b6
  ·rw[kR] at hx
   rcases hx with hx|hx
   ·exact⟨(h4 x hx).1.upd uu λa n c e=>hG _ ((h4 x hx).2 a n c e),λa n c e=>zLj _ ((h4 x hx).2 a n c e)⟩
   ·simp only[iQ] at hx
    subst hx
    exact⟨h2.upd uu λa n c e=>hG _ (h6 a n c e),λa n c e=>zLj _ (h6 a n c e)⟩
  ·intro hm
   rcases kR.1 hm with hm|hm
   ·exact h8 hm
   ·exact hF _ hm (by simp)
  ·rcases kR.1 hg with hg|hg
   ·obtain⟨o,ho⟩:=aGt.1 (h9 g hg)
    rw[uu.get ho (hG g hg)];simp
   ·exact O6.known g hg
  ·refine⟨hok.up,hok.fit,hok.few,λb hb=>?_,?_,?_,?_,?_⟩
   ·simp only[kR,iQ] at hb
    rcases hb with hb|rfl
    ·exact hok.blk b hb
    ·exact⟨hok.up,hok.fit,hok.few⟩
   ·simp
   ·simp only[lH,zLQ];omega
   ·simp only[lH,zLQ];omega
   ·show s.height+1<18446744073709551616
    omega
 refine aCx hnew ?_
 refine hk h6' (G++F5) hnew uu λg hg=>?_
 rcases kR.1 hg with hg|hg
 ·exact .inl hg
 ·exact .inr (f5 g hg)
structure SAc where
 kind:Int
 key:Tx
 val:Tx
def SAc.cells(c:SAc):List Value:=[.int .i64 c.kind,.string (tx c.key),.string (tx c.val)]
def SAc.v(c:SAc):Value:=.agg c.cells.toArray
theorem SAc.rows(l:List SAc):lC 3 (l.map SAc.cells):=λr hr=>by
 obtain⟨p,-,rfl⟩:=mT.1 hr;rfl
end Go.Proofs.YtcoajnpchhmgjaaGreatDoor
namespace Go.Proofs.YtcoajnpchhmgjaaGreatDoor
open Go Go.Sort Go.Shelf
def Pl.v(q:Pl):Value:=.agg q.cells.toArray
theorem Pl.isC(q:Pl):∀v∈q.cells,iF v=true:=by
 intro v hv
 simp only[Pl.cells,jG,mD,or_false] at hv
 rcases hv with rfl|rfl<;>rfl
end Go.Proofs.YtcoajnpchhmgjaaGreatDoor
namespace Go.Proofs.YtcoajnpchhmgjaaGreatDoor
open Go
theorem Ch.Ok.pos{s:Ch}(ok:s.Ok)(h1:1≤s.st.blocks.length):s.st.height+1=s.first+s.blk.length:=by
 have:=ok.len
 have:=ok.first
 omega
structure aWS(s:Ch)(q:Pl)(p:Nat):Prop where
 here:∃d i:Nat,q=⟨((s.first+d:Nat):Int),((i:Nat):Int)⟩∧d<s.blk.length∧i≤((s.blk.drop d).head?.getD []).length∧((s.blk.take d).flatten).length+i=p
theorem aWS.first{s:Ch}(h:s.blk≠[]):aWS s ⟨(s.first:Int),0⟩ 0:=⟨⟨0,0,rfl,aGv.2 h,Nat.zero_le _,by simp⟩⟩
def aSp(x:lV):Prop:=x.kind=0∨(2≤x.kind∧x.kind≤4)
instance (x:lV):Decidable (aSp x):=by unfold aSp;infer_instance
structure yR(s:Ch):Prop where
 blk:∀b∈s.blk,∀n∈b,n.right=true
 nts:∀n∈s.nts,n.right=true
theorem aLu:∀{l:List (Int×Bool)},(∀x∈l,x.1≠0)->zG l=0->∀x∈l,x.2=true
 | [],_,_,x,hx=>by cases hx
 | y::l,hz,h,x,hx=>by
  rw[zG] at h
  cases hy:y.2 with
  | true=>
   rw[hy,if_pos rfl] at h
   rcases jG.1 hx with rfl|hx
   ·exact hy
   ·exact aLu (λz hz'=>hz z (by simp[hz'])) h x hx
  | false=>
   rw[hy,if_neg (by decide)] at h
   exact absurd h (hz y (by simp))
theorem aKY{s:Ch}{l:List (Int×Bool)}(hz:∀x∈l,x.1≠0)(h:pZ s l=0):(∀x∈l,x.2=true)∧s.st.height≠18446744073709551615:=by
 unfold pZ at h
 by_cases c:s.st.height=18446744073709551615
 ·rw[if_pos c] at h;cases h
 ·rw[if_neg c] at h
  exact⟨aLu hz h,c⟩
theorem aSc{s:Ch}{d:Tx}{t:Nat}(h:sJ s d t=0):s.seq<18446744073709551615∧(lJ s d t).right=true∧aI8 s.cl<(t:Int)∧s.st.now.length+1≤4096∧s.st.height≠18446744073709551615:=by
 obtain⟨h1,h2⟩:=aKY (by simp) h
 simp only[jG,mD,or_false,forall_eq_or_imp,forall_eq,decide_eq_true_eq] at h1
 exact⟨h1.1,h1.2.1,h1.2.2.1,h1.2.2.2,h2⟩
theorem aKf{s:Ch}{p:Pk}{pf:Tx}{x:Int}(h:pZ s (qJ s p pf x)=0):p.right=true∧p.f=1-s.id∧IntKind.u64.wrap ((s.st.height:Int)+1)<p.t∧(jI s.st.now (jF 114 p.s.toNat)).isSome=false∧(lZ s.cl x).isSome=true∧aAM (qB s.cl x) pf (jF 99 p.s.toNat) (rB p)=true∧s.st.height≠18446744073709551615:=by
 obtain⟨h1,h2⟩:=aKY (by unfold qJ;simp) h
 unfold qJ at h1
 simp only[jG,mD,or_false,forall_eq_or_imp,forall_eq,zF,beq_iff_eq,decide_eq_true_eq,Bool.not_eq_true'] at h1
 obtain⟨⟨a,b⟩,c,d,e,f,-⟩:=h1
 exact⟨a,b,c,d,e,f,h2⟩
theorem aDY{s:Ch}{p:Pk}{l:List (Int×Bool)}(hz:∀x∈l,x.1≠0)(h:kJ s p l=0):p.right=true∧p.f=s.id∧wX s p=true∧(∀x∈l,x.2=true)∧s.st.height≠18446744073709551615:=by
 obtain⟨h1,h2⟩:=aKY (by
  intro x hx
  simp only[zLT,yB,jG] at hx
  rcases hx with rfl|rfl|hx
  ·show(1:Int)≠0;decide
  ·show(3:Int)≠0;decide
  ·exact hz x hx) h
 have a:=h1 (1,p.right&&(p.f==s.id)) (by simp)
 have b:=h1 (3,wX s p) (by simp)
 simp only[zF,beq_iff_eq] at a
 exact⟨a.1,a.2,b,λx hx=>h1 x (by simp[hx]),h2⟩
theorem yR.add{s:Ch}(H:yR s){n:Nt}(h:n.right=true):yR (s.add n):=⟨H.blk,λm hm=>by
 rcases kR.1 hm with hm|hm
 ·exact H.nts m hm
 ·simp only[iQ] at hm
  subst hm;exact h⟩
theorem yR.com{s:Ch}(H:yR s):yR s.committed:=by
 unfold Ch.committed
 split
 ·refine⟨λb hb=>?_,λn hn=>by cases hn⟩
  rcases kR.1 hb with hb|hb
  ·exact H.blk b hb
  ·simp only[iQ] at hb
   subst hb;exact H.nts
 ·exact H
theorem yR.new{id:Int}{n seq:Nat}:yR (Ch.new id n seq):=by
 refine⟨λb hb n hn=>?_,λn hn=>by cases hn⟩
 simp only[Ch.new,iQ] at hb
 subst hb
 cases hn
theorem aJc{k:Int}{p:Pk}(h1:1≤k)(h2:k≤4)(h:p.right=true):Nt.right ⟨k,p⟩=true:=by
 unfold Nt.right
 simp[h1,h2,h]
theorem yR.doP{c:Ch}(H:yR c)(o:Ch)(x:lV):yR (mB c o x).1:=by
 unfold mB
 by_cases k0:x.kind=0
 ·rw[if_pos k0]
  split
  ·rename_i e
   exact yR.add (s:=(c.put _ _).next) ⟨H.blk,H.nts⟩ (aJc (by decide) (by decide) (aSc e).2.1)
  ·exact H
 rw[if_neg k0]
 by_cases k1:x.kind=1
 ·rw[if_pos k1]
  split
  ·exact H
  ·exact⟨H.blk,H.nts⟩
 rw[if_neg k1]
 by_cases k2:x.kind=2
 ·rw[if_pos k2]
  split
  ·rename_i e
   exact yR.add (s:=(c.put _ _).put _ _) ⟨H.blk,H.nts⟩ (aJc (by decide) (by decide) (aKf e).1)
  ·exact H
 rw[if_neg k2]
 by_cases k3:x.kind=3
 ·rw[if_pos k3]
  split
  ·rename_i e
   exact yR.add (s:=c.del _) ⟨H.blk,H.nts⟩ (aJc (by decide) (by decide) (aDY (by unfold xU;simp) e).1)
  ·exact H
 rw[if_neg k3]
 by_cases k4:x.kind=4
 ·rw[if_pos k4]
  split
  ·rename_i e
   exact yR.add (s:=c.del _) ⟨H.blk,H.nts⟩ (aJc (by decide) (by decide) (aDY (by unfold qZ;simp) e).1)
  ·exact H
 rw[if_neg k4]
 by_cases k5:x.kind=5
 ·rw[if_pos k5]
  exact H.com
 ·rw[if_neg k5]
  exact H
theorem yR.step{a b:Ch}(A:yR a)(B:yR b)(x:lV):yR (iU a b x).1.1∧yR (iU a b x).1.2:=by
 unfold iU
 split
 ·exact⟨A,B.doP a x⟩
 ·exact⟨A.doP b x,B⟩
end Go.Proofs.YtcoajnpchhmgjaaGreatDoor
