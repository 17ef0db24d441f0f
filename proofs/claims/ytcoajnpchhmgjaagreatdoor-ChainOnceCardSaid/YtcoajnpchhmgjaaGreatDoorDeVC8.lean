/- The texts of this claim, put together. -/
import Derived.Test.YtcoajnpchhmgjaaGreatDoorDeVC7
set_option linter.unusedSimpArgs false
set_option linter.unusedVariables false
set_option linter.unusedSectionVars false
set_option maxRecDepth 100000
open Go.Instr (loadAt fieldAt indexAt extract buildSlice build)
namespace Go.Proofs.YtcoajnpchhmgjaaGreatDoor
open Go
def tP:List (List Nt)->Nat->Nat->Nat->List Nt×Nat×Nat
 | [],H,i,_=>([],H,i)
 | b::bs,H,i,n=>if i+min (b.length-i) n<b.length∨bs=[] then((b.drop i).take (min (b.length-i) n),H,i+min (b.length-i) n) else
   ((b.drop i).take (min (b.length-i) n)++(tP bs (H+1) 0 (n-min (b.length-i) n)).1,(tP bs (H+1) 0 (n-min (b.length-i) n)).2)
def aE0(I:Int)(b:List Nt):Nat:=if I<0 then 0 else if (b.length:Int)<I then b.length else I.toNat
theorem aTL(I:Int)(b:List Nt):aE0 I b≤b.length:=by
 unfold aE0
 split
 ·omega
 ·split<;>omega
def aGA(s:Ch)(H:Nat)(I:Int)(n:Nat):List Nt×Nat×Nat:=tP (s.blk.drop (H-s.first)) H (aE0 I ((s.blk[H-s.first]?).getD [])) n
def aEI(s:Ch)(q:Pl)(most:Int):List Nt×Pl:=
 if q.h<s.first∨(s.st.height:Int)<q.h then([],q) else((aGA s q.h.toNat q.i most.toNat).1,⟨((aGA s q.h.toNat q.i most.toNat).2.1:Nat),((aGA s q.h.toNat q.i most.toNat).2.2:Nat)⟩)
theorem aTw(b:List Nt):aE0 0 b=0:=by
 unfold aE0
 split
 ·rfl
 ·split<;>omega
theorem aSZ(I:Int)(b:List Nt):(if 0<(if (b.length:Int)<I then(b.length:Int) else I) then(if (b.length:Int)<I then(b.length:Int) else I) else 0)=(aE0 I b:Nat):=by
 unfold aE0
 by_cases h1:I<0
 ·rw[if_pos h1,if_neg (show ¬(b.length:Int)<I by omega),if_neg (by omega)];rfl
 ·rw[if_neg h1]
  by_cases h2:(b.length:Int)<I
  ·rw[if_pos h2,if_pos h2];split<;>omega
  ·rw[if_neg h2,if_neg h2];split<;>omega
theorem aWU(m:Int)(o L i:Nat)(hi:i≤L)(hm:(o:Int)≤if m<0 then 0 else m):(if 0<(if m-(o:Int)<((L-i:Nat):Int) then m-(o:Int) else((L-i:Nat):Int)) then(if m-(o:Int)<((L-i:Nat):Int) then m-(o:Int) else((L-i:Nat):Int)) else 0)=((min (L-i) (m.toNat-o):Nat):Int):=by
 by_cases h1:m<0
 ·rw[if_pos h1] at hm
  have ho:o=0:=by omega
  subst ho
  rw[if_pos (show m-((0:Nat):Int)<((L-i:Nat):Int) by omega),if_neg (by omega),show m.toNat=0 by omega]
  simp
 ·rw[if_neg h1] at hm
  by_cases h2:m-(o:Int)<((L-i:Nat):Int)
  ·rw[if_pos h2];split<;>omega
  ·rw[if_neg h2];split<;>omega
theorem Ch.Ok.pos{s:Ch}(ok:s.Ok)(h1:1≤s.st.blocks.length):s.st.height+1=s.first+s.blk.length:=by
 have:=ok.len
 have:=ok.first
 omega
def aPK(n r:Nat)(h:PH):Nat:=match dD h ⟨r,0,none⟩ with
 | some (.int _ x)=>n-x.toNat
 | _=>0
theorem aOe{n r:Nat}{h:PH}{X:Nat}{I:Int}(B:Bx h r (Pl.cells ⟨(X:Int),I⟩)):aPK n r h=n-X:=by
 have c:dD h ⟨r,0,none⟩=some (.int .u64 (X:Int)):=B.cell 0
 unfold aPK
 rw[c];rfl
theorem aWb{h:PH}{c:Nat}{s:Ch}{F:List Nat}(H:iO c s h F){q:Pl}(wq1:0≤q.h)(wq2:q.h<18446744073709551616)(wq3: -9223372036854775808≤q.i)(wq4:q.i<9223372036854775808){most:Int}(m1: -9223372036854775808≤most)(m2:most<9223372036854775808){kk:cD}
  (hk:∀h' v Fl,eS h' eQ 5 v ((aEI s q most).1.map Nt.cells) Fl->eP h Fl->dC h h'->kk (.tuple #[v,(aEI s q most).2.v]) h'):aT PG aDa #[pT c 0,q.v,.int .i64 most] h kk:=by
 apply wI.call
 unfold wI
 obtain⟨sp,m,cp,nv,bv,lk,P,perm,ok⟩:=H
 have hst:=P.okst
 have hpos:=ok.pos hst.h1
 have hb2:=hst.h2
 have hb4:=hst.h4
 have hlen:=ok.len
 intro r1 hr1
 try rw[cZ]
 have u1:dC h (h.set r1 (.cells (Value.cells q.v) dX)):=cU.new hr1
 have B1:Bx (h.set r1 (.cells (Value.cells q.v) dX)) r1 q.cells:=Bx.new
 generalize h.set r1 (.cells (Value.cells q.v) dX)=h1 at *
 intro r3 hr3
 try rw[cZ]
 have u3:dC h1 (h1.set r3 (.cells (dP PG dX) dX)):=cU.new hr3
 have B3:Bx (h1.set r3 (.cells (dP PG dX) dX)) r3 (Pl.cells ⟨0,0⟩):=dX.zbox
 have C1:=B1.ext u3
 have n13:r1≠r3:=B1.apart hr3
 generalize h1.set r3 (.cells (dP PG dX) dX)=h3 at *
 have e3:=u1.trans u3
 have k3:h r3=none:=u1.none hr3
 have P3:=iV.good.ext P e3
 have lf:∀{h'':PH},dC h3 h''->cG PG h'' (loadAt cA (pT c 1))=some (.int .u64 s.first):=λv=>Ch.load1 (P3.cell.ext v)
 have ls:∀{h'':PH},dC h3 h''->cG PG h'' (loadAt iW (pT c 0))=some (pT sp 0):=λv=>Ch.load0 (P3.cell.ext v)
 have lb:∀{h'':PH},dC h3 h''->cG PG h'' (loadAt eH (pT c 2))=some bv:=λv=>Ch.load2 (P3.cell.ext v)
 have lq:cG PG h3 (loadAt cA (pT r1 0))=some (.int .u64 q.h):=by rw[cA.load,C1.cell];rfl
 obtain⟨Fs,S3,hFs,-⟩:=P3.fSt
 -- out of range
 have bad:(q.h<s.first∨(s.st.height:Int)<q.h)->∀{h4:PH},dC h3 h4->dZ (cG PG h4 (loadAt dX (pT r1 0))) λv44=>cW PG (dJ dX (pT r3 0) v44) h4 λv45 h46=>dZ (cG PG h46 (loadAt dX (pT r3 0))) λv47=>kk (Value.tuple #[(Value.slice none 0 0),v47]) h46:=λhb h4 u4=>by
  have hl:aEI s q most=([],q):=by unfold aEI;rw[if_pos hb]
  rw[hl] at hk
  simp only[(C1.ext u4).place,cE,reduceIte,cT,Nat.reduceAdd]
  refine dX.put (B3.ext u4) (o:=0) (vs:=q.cells) rfl (by show 0+2≤2;decide) (Pl.isC q) λh5 B5 u5=>?_
  have B5:Bx h5 r3 q.cells:=B5
  simp only[B5.place,cE,reduceIte,cT,Nat.reduceAdd]
  exact hk h5 _ [] eS.nil (λb hb=>by cases hb) ((e3.trans u4).fresh u5 (eP.one k3))
 simp only[dX.f0,eK.f1,fL,lq,lf cU.refl,cE,reduceIte,cT,Nat.reduceAdd]
 by_cases d1:q.h<(s.first:Int)
 ·have g1:=eq_true d1
  simp only[g1,cE,reduceIte,cT,Nat.reduceAdd]
  exact⟨λh=>by simp at h,bad (.inl d1) cU.refl⟩
 have g1:=eq_false d1
 simp only[g1,dX.f0,eK.f0,fL,lq,ls cU.refl,cE,reduceIte,cT,Nat.reduceAdd]
 refine aI3 S3 ?_
 refine⟨λ_=>lq,?_⟩
 by_cases d2:(s.st.height:Int)<q.h
 ·have g2:=eq_true d2
  simp only[g2,cE,reduceIte,cT,Nat.reduceAdd]
  exact bad (.inr d2) cU.refl
 have g2:=eq_false d2
 simp only[g2,cE,reduceIte,cT,Nat.reduceAdd]
 have hlp:aEI s q most=((aGA s q.h.toNat q.i most.toNat).1,⟨((aGA s q.h.toNat q.i most.toNat).2.1:Nat),((aGA s q.h.toNat q.i most.toNat).2.2:Nat)⟩):=by unfold aEI;rw[if_neg (by omega)]
 refine⟨λvs h'=>∃(X:Nat) (I:Int) (out:List Nt) (v:Value) (Fl:List Nat),vs=[pT c 0,.int .i64 most,pT r1 0,pT r3 0,v]∧Bx h' r1 (Pl.cells ⟨(X:Int),I⟩)∧Bx h' r3 (Pl.cells ⟨0,0⟩)∧eS h' eQ 5 v (out.map Nt.cells) Fl∧eP h3 Fl∧cU [r1] h3 h'∧s.first≤X∧X≤s.st.height∧ -9223372036854775808≤I∧I<9223372036854775808∧out.length≤(X-s.first)*1000000∧out.length≤most.toNat∧
  (out++(aGA s X I (most.toNat-out.length)).1,(aGA s X I (most.toNat-out.length)).2)=aGA s q.h.toNat q.i most.toNat,λ_ h'=>aPK (s.st.height+1) r1 h',⟨q.h.toNat,q.i,[],_,[],rfl,by rw[Int.toNat_of_nonneg wq1];exact C1,B3,eS.nil,(λb hb=>by cases hb),cU.refl,by omega,by omega,wq3,wq4,by simp,by simp,by simp⟩,?_⟩
 rintro ρ h' ⟨X,I,out,v,Fl,hvs,BX,BR,O,fl,u,x1,x2,i1,i2,o1,o2,hr⟩
 simp only[iH,iU,lF,and_true] at hvs
 obtain⟨v0,v2,v4,v7,v8⟩:=hvs
 simp only[v0,v2,v4,v7,v8,iH,iU]
 unfold aGD
 have P4:iV c (s.cells sp bv nv m cp) sp s.st m lk cp s.cl nv s.nts bv s.blk h' F:=iV.good.upd P3 u λb hb=>by
  simp only[fW];rintro rfl;exact iV.good.known P _ hb hr1
 have cX:dD h' ⟨r1,0,none⟩=some (.int .u64 (X:Int)):=BX.cell 0
 have cI:dD h' ⟨r1,1,none⟩=some (.int .i64 I):=BX.cell 1
 obtain⟨Ft,⟨Fn,Fb,rfl,On,⟨bl,Fb',G,Ob,Sb,ebl,rfl,hG⟩,hd⟩,hFt,-⟩:=P4.fTwo
 have hGF:∀g∈G,g∈F:=λg hg=>hFt g (by simp[hg])
 have hbl:bl.length=s.blk.length:=by rw[←ebl];simp
 obtain⟨j,hj⟩:∃j,j=X-s.first:=⟨_,rfl⟩
 have hjl:j<bl.length:=by omega
 have wj:IntKind.u64.wrap ((X:Int)-(s.first:Int))=((j:Nat):Int):=by rw[gG (by omega) (by omega)];omega
 have hrow:(bl.map aJK)[((j:Nat):Int).toNat]? =some [bl[j].1]:=by rw[qQ,sC,lS hjl];rfl
 obtain⟨pa,hpa,hload⟩:=Ob.slR.loadCell (t:=eH) (k:=.u64) (j:=((j:Nat):Int)) eH.und dB.info dB.size dB.und rfl (by omega) hrow
 obtain⟨Sj,Gj⟩:=Sb bl[j] (aJ9 hjl)
 have hat:s.blk[j]? =some bl[j].2:=by rw[←ebl,sC,lS hjl];rfl
 have hdr:s.blk.drop j=bl[j].2::s.blk.drop (j+1):=by
  have hj2:j<s.blk.length:=by omega
  rw[aJx hj2]
  congr 1
  rw[lS hj2] at hat
  exact aJJ hat
 have hbw:=(ok.bwf _ (sH hat)).1
 generalize bl[j]=y at *
 obtain⟨yv,b⟩:=y
 simp only at Sj Gj hat hdr hbw hload
 have lnb:=Sj.len (t':=bT) dB.und
 rw[jC] at lnb
 have lout:=O.slR.len (t':=bT) dB.und
 rw[jC] at lout
 have hob:out.length≤4096000000:=by
  have:(X-s.first)*1000000≤4096*1000000:=zLM _ (by omega)
  omega
 obtain⟨i,hi⟩:∃i,i=aE0 I b:=⟨_,rfl⟩
 have hib:i≤b.length:=by rw[hi];exact aTL _ _
 have ec:=aSZ I b
 rw[←hi] at ec
 simp only[eK.f2,eK.f1,dX.f0,dX.f1,fL,cA.load,bT.load,cX,cI,Ch.load1 P4.cell,Ch.load2 P4.cell,wj,hpa,hload,lnb,aLi,aJY,ec,cE,reduceIte,cT,Nat.reduceAdd]
 have nF1:r1∉F:=λhm=>iV.good.known P _ hm hr1
 have nl1:r1∉Fl:=λhm=>C1.known (fl _ hm)
 have nl3:r3∉Fl:=λhm=>B3.known (fl _ hm)
 refine bT.put BX (o:=1) (by show 1<2;decide) rfl λh5 B5 u5=>?_
 have B5:Bx h5 r1 (Pl.cells ⟨(X:Int),((i:Nat):Int)⟩):=B5
 have O5:=O.upd u5 (λb hb=>by simp only[fW];rintro rfl;exact nl1 hb)
 have S5:=Sj.upd u5 (λa n c e=>by simp only[fW];intro e2;exact nF1 (e2▸hGF _ (Gj a n c e)))
 have R5:=BR.upd u5 (by simp only[fW];exact n13.symm)
 have c51:dD h5 ⟨r1,1,none⟩=some (.int .i64 ((i:Nat):Int)):=B5.cell 1
 have w1:IntKind.i64.wrap ((b.length:Int)-((i:Nat):Int))=((b.length-i:Nat):Int):=by rw[eZ (by omega) (by omega)];omega
 have w2:IntKind.i64.wrap (most-(out.length:Int))=most-(out.length:Int):=eZ (by omega) (by omega)
 obtain⟨t,ht⟩:∃t,t=min (b.length-i) (most.toNat-out.length):=⟨_,rfl⟩
 have et:=aWU most out.length b.length i hib (by split<;>omega)
 rw[←ht] at et
 have htb:t≤b.length-i:=by omega
 have w3:IntKind.i64.wrap (((i:Nat):Int)+((t:Nat):Int))=((i+t:Nat):Int):=by rw[eZ (by omega) (by omega)];omega
 obtain⟨cv,hcv,Sc,-⟩:=S5.cut (t:=dB) dB.und eQ.info eQ.size (lo:=some (.int .i64 ((i:Nat):Int))) (hi:=some (.int .i64 ((i+t:Nat):Int))) (l:=i) (m:=i+t) (.inr ⟨_,rfl⟩) (.inr ⟨_,rfl⟩) (by omega) (by rw[jC];omega)
 have ecut:((b.map Nt.cells).take (i+t)).drop i=((b.drop i).take t).map Nt.cells:=by
  rw[zLv,aKK,aJG,aK4]
 rw[ecut] at Sc
 simp only[dX.f1,fL,bT.load,c51,lnb,lout,w1,w2,aLi,aJY,et,w3,hcv,cE,reduceIte,cT,Nat.reduceAdd]
 have htl:((b.drop i).take t).length=t:=by rw[rN,oU];omega
 refine jL dB.und dB.und eQ.info eQ.size eQ.bytes eQ.zero rfl (by decide) O5 Sc (Nt.isC _) (by rw[jC,jC,htl];omega) ?_
 intro v6 h6 F6 O6 u6 g6 _
 rw[←qB] at O6
 have B6:=B5.upd u6 nl1
 have R6:=R5.upd u6 nl3
 have c61:dD h6 ⟨r1,1,none⟩=some (.int .i64 ((i:Nat):Int)):=B6.cell 1
 have n35:∀b,h5 b=none->h3 b=none:=λb hb=>by
  cases e:h3 b with
  | none=>rfl
  | some o=>
   exfalso
   by_cases hbr:b=r1
   ·subst hbr;exact B5.known hb
   ·have:=(u.trans u5) b o e (by simp[hbr])
    rw[hb] at this;cases this
 simp only[dX.f1,fL,bT.load,c61,w3,cE,reduceIte,cT,Nat.reduceAdd]
 refine bT.put B6 (o:=1) (by show 1<2;decide) rfl λh7 B7 u7=>?_
 have B7:Bx h7 r1 (Pl.cells ⟨(X:Int),((i+t:Nat):Int)⟩):=B7
 have R7:=R6.upd u7 (by simp only[fW];exact n13.symm)
 have n6:r1∉F6:=λhm=>by
  rcases g6 _ hm with hx|hx
  ·exact nl1 hx
  ·exact B5.known hx
 have m6:r3∉F6:=λhm=>by
  rcases g6 _ hm with hx|hx
  ·exact nl3 hx
  ·exact R5.known hx
 have O7:=O6.upd u7 (λb hb=>by simp only[fW];rintro rfl;exact n6 hb)
 have c70:dD h7 ⟨r1,0,none⟩=some (.int .u64 (X:Int)):=B7.cell 0
 have c71:dD h7 ⟨r1,1,none⟩=some (.int .i64 ((i+t:Nat):Int)):=B7.cell 1
 have f6:eP h3 F6:=λb hb=>by
  rcases g6 b hb with hx|hx
  ·exact fl b hx
  ·exact n35 b hx
 have u37:cU [r1] h3 h7:=((u.trans u5).then u6 (λb hb=>.inr (fl b hb))).trans u7
 have P7:iV c (s.cells sp bv nv m cp) sp s.st m lk cp s.cl nv s.nts bv s.blk h7 F:=iV.good.upd P3 u37 λb hb=>by
  simp only[fW];rintro rfl;exact nF1 hb
 obtain⟨Fs7,S7,hFs7,-⟩:=P7.fSt
 have eR:∀n,aGA s X I n=tP (b::s.blk.drop (j+1)) X i n:=λn=>by
  unfold aGA
  rw[←hj,hat,hdr,aGn,←hi]
 rw[eR] at hr
 simp only[dX.f1,fL,bT.load,c71,lnb,cE,reduceIte,cT,Nat.reduceAdd]
 -- the end
 have stop:(i+t<b.length∨s.blk.drop (j+1)=[])->dZ (cG PG h7 (loadAt dX (pT r1 0))) λv128=>cW PG (dJ dX (pT r3 0) v128) h7 λv129 h130=>dZ (cG PG h130 (loadAt dX (pT r3 0))) λv131=>kk (Value.tuple #[v6,v131]) h130:=λhs=>by
  have hg:tP (b::s.blk.drop (j+1)) X i (most.toNat-out.length)=((b.drop i).take t,X,i+t):=by
   unfold tP
   rw[←ht,if_pos hs]
  rw[hg] at hr
  rw[hlp,←hr] at hk
  simp only[B7.place,cE,reduceIte,cT,Nat.reduceAdd]
  refine dX.put R7 (o:=0) (vs:=Pl.cells ⟨(X:Int),((i+t:Nat):Int)⟩) rfl (by show 0+2≤2;decide) (Pl.isC _) λh8 B8 u8=>?_
  have B8:Bx h8 r3 (Pl.cells ⟨(X:Int),((i+t:Nat):Int)⟩):=B8
  simp only[B8.place,cE,reduceIte,cT,Nat.reduceAdd]
  refine hk h8 v6 F6 (O7.upd u8 (λb hb=>by simp only[fW];rintro rfl;exact m6 hb)) (f6.of e3) ?_
  have e7:dC h h7:=e3.fresh u37 (eP.one hr1)
  exact e7.fresh u8 (eP.one k3)
 by_cases c1:i+t<b.length
 ·have g:(((i+t:Nat):Int)<(b.length:Int))=True:=eq_true (by omega)
  simp only[g,cE,reduceIte,cT,Nat.reduceAdd]
  exact⟨λh=>by simp at h,stop (.inl c1)⟩
 have g:(((i+t:Nat):Int)<(b.length:Int))=False:=eq_false (by omega)
 simp only[g,dX.f0,eK.f0,fL,cA.load,c70,Ch.load0 P7.cell,cE,reduceIte,cT,Nat.reduceAdd]
 refine aI3 S7 ?_
 refine⟨λ_=>c70,?_⟩
 by_cases c2:X=s.st.height
 ·have g2:((X:Int)==(s.st.height:Int))=true:=by rw[beq_iff_eq];omega
  simp only[hE,g2,cE,reduceIte,cT,Nat.reduceAdd]
  exact stop (.inr (List.drop_eq_nil_of_le (by omega)))
 have g2:((X:Int)==(s.st.height:Int))=false:=by rw[beq_eq_false_iff_ne];omega
 have w4:IntKind.u64.wrap ((X:Int)+1)=((X+1:Nat):Int):=by rw[gG (by omega) (by omega)];omega
 simp only[hE,g2,dX.f0,cA.load,c70,w4,aRA,cE,reduceIte,cT,Nat.reduceAdd]
 refine dX.put B7 (o:=0) (vs:=Pl.cells ⟨((X+1:Nat):Int),0⟩) rfl (by show 0+2≤2;decide) (Pl.isC _) λh8 B8 u8=>?_
 have B8:Bx h8 r1 (Pl.cells ⟨((X+1:Nat):Int),0⟩):=B8
 have hne:s.blk.drop (j+1)≠[]:=λe=>by
  have:=List.drop_eq_nil_iff.1 e
  omega
 refine⟨⟨X+1,0,out++(b.drop i).take t,v6,F6,rfl,B8,R7.upd u8 (by simp only[fW];exact n13.symm),O7.upd u8 (λb hb=>by simp only[fW];rintro rfl;exact n6 hb),f6,u37.trans u8,by omega,by omega,by omega,by omega,?_,?_,?_⟩,?_⟩
 ·rw[jE,htl,show X+1-s.first=(X-s.first)+1 by omega,zLC]
  omega
 ·rw[jE,htl]
  omega
 ·rw[←hr]
  have hg:tP (b::s.blk.drop (j+1)) X i (most.toNat-out.length)=((b.drop i).take t++(tP (s.blk.drop (j+1)) (X+1) 0 (most.toNat-out.length-t)).1,(tP (s.blk.drop (j+1)) (X+1) 0 (most.toNat-out.length-t)).2):=by
   rw[tP,←ht,if_neg (by rintro(h|h);exact c1 h;exact hne h)]
  have eL:aGA s (X+1) 0 (most.toNat-(out++(b.drop i).take t).length)=tP (s.blk.drop (j+1)) (X+1) 0 (most.toNat-out.length-t):=by
   unfold aGA
   rw[aTw,show X+1-s.first=j+1 by omega,jE,htl,Nat.sub_add_eq]
  rw[hg,eL,pH]
 ·rw[aOe B8,aOe BX]
  omega
theorem aNV:∀(bs:List (List Nt)) (H i n:Nat),i≤(bs.head?.getD []).length->(tP bs H i n).1=(bs.flatten.drop i).take n
 | [],H,i,n,h=>by simp[tP]
 | b::bs,H,i,n,h=>by
  have h:i≤b.length:=h
  rw[tP]
  by_cases c:i+min (b.length-i) n<b.length∨bs=[]
  ·rw[if_pos c]
   rw[aEr,List.drop_append_of_le_length h]
   rcases c with c|rfl
   ·have e:min (b.length-i) n=n:=by omega
    rw[e,zLE (by rw[oU];omega)]
   ·rw[List.flatten_nil,zLN]
    by_cases hn:n≤b.length-i
    ·rw[Nat.min_eq_right hn]
    ·rw[aIQ (by omega),mV (by rw[oU];omega),mV (by rw[oU];omega)]
  ·rw[if_neg c]
   have e:min (b.length-i) n=b.length-i:=by
    have:¬(i+min (b.length-i) n<b.length):=λh=>c (.inl h)
    omega
   have hn:b.length-i≤n:=by omega
   have e2:(b.drop i).take (b.length-i)=b.drop i:=mV (by rw[oU];omega)
   rw[e]
   simp only[e2]
   rw[aNV bs (H+1) 0 (n-(b.length-i)) (Nat.zero_le _),aEr,List.drop_append_of_le_length h,List.take_append,zLa,oU,mV (i:=n) (l:=b.drop i) (by rw[oU];omega)]
theorem aL7:∀(bs:List (List Nt)) (H i n:Nat),bs≠[]->i≤(bs.head?.getD []).length->∃d,(tP bs H i n).2.1=H+d∧d<bs.length∧(tP bs H i n).2.2≤((bs.drop d).head?.getD []).length∧((bs.take d).flatten).length+(tP bs H i n).2.2=i+(tP bs H i n).1.length∧(i+n ≥ bs.flatten.length->d+1=bs.length∧(tP bs H i n).2.2=(bs.getLast?.getD []).length)
 | [],H,i,n,h0,h=>absurd rfl h0
 | b::bs,H,i,n,h0,h=>by
  have h:i≤b.length:=h
  rw[tP]
  by_cases c:i+min (b.length-i) n<b.length∨bs=[]
  ·rw[if_pos c]
   refine⟨0,rfl,by simp,?_,?_,λhn=>?_⟩
   ·show i+min (b.length-i) n≤b.length
    omega
   ·simp only[List.take_zero,List.flatten_nil,zLK,fL,rN,oU]
    omega
   ·rcases c with c|rfl
    ·rw[aEr,jE] at hn
     omega
    ·refine⟨rfl,?_⟩
     rw[aEr,jE,List.flatten_nil,zLK] at hn
     show i+min (b.length-i) n=b.length
     omega
  ·rw[if_neg c]
   have hne:bs≠[]:=λe=>c (.inr e)
   have e:min (b.length-i) n=b.length-i:=by
    have:¬(i+min (b.length-i) n<b.length):=λh=>c (.inl h)
    omega
   rw[e]
   obtain⟨d,p1,p2,p3,p4,p5⟩:=aL7 bs (H+1) 0 (n-(b.length-i)) hne (Nat.zero_le _)
   refine⟨d+1,by rw[p1];omega,by simp only[tT];omega,p3,?_,λhn=>?_⟩
   ·simp only[zLb,aEr,jE,rN,oU]
    omega
   ·rw[aEr,jE] at hn
    obtain⟨q1,q2⟩:=p5 (by omega)
    refine⟨by simp only[tT];omega,?_⟩
    rw[q2]
    cases bs with
    | nil=>exact absurd rfl hne
    | cons x xs=>rw[List.getLast?_cons_cons]
structure aNo(s:Ch)(q:Pl)(p:Nat):Prop where
 here:∃d i:Nat,q=⟨((s.first+d:Nat):Int),((i:Nat):Int)⟩∧d<s.blk.length∧i≤((s.blk.drop d).head?.getD []).length∧((s.blk.take d).flatten).length+i=p
theorem aMy(bs:List (List Nt))(d:Nat):bs.flatten=(bs.take d).flatten++(bs.drop d).flatten:=by
 rw[←zLD,zL7]
theorem aNo.first{s:Ch}(h:s.blk≠[]):aNo s ⟨(s.first:Int),0⟩ 0:=⟨⟨0,0,rfl,aG1.2 h,Nat.zero_le _,by simp⟩⟩
theorem aRd{i:Nat}{b:List Nt}(h:i≤b.length):aE0 (i:Int) b=i:=by
 unfold aE0
 rw[if_neg (by omega),if_neg (by omega)]
 omega
def aVY(s:Ch):Pl:=⟨((s.first+(s.blk.length-1):Nat):Int),(((s.blk.getLast?.getD []).length:Nat):Int)⟩
theorem aNo.log{s:Ch}(hf:s.first+(s.blk.length-1)=s.st.height){q:Pl}{p:Nat}(A:aNo s q p)(n:Nat):
  (aEI s q (n:Int)).1=(s.blk.flatten.drop p).take n∧aNo s (aEI s q (n:Int)).2 (p+((s.blk.flatten.drop p).take n).length)∧q.h≤(aEI s q (n:Int)).2.h∧((aEI s q (n:Int)).2.h=q.h->(aEI s q (n:Int)).2.i=q.i+(((s.blk.flatten.drop p).take n).length:Int))∧
  (s.blk.flatten.length≤p+n->(aEI s q (n:Int)).2=aVY s):=by
 obtain⟨d,i,rfl,hd,hi,hp⟩:=A.here
 have hdr:s.blk.drop d=(s.blk[d]?.getD [])::s.blk.drop (d+1):=by
  rw[aJx hd,lS hd];rfl
 have hhd:(s.blk.drop d).head?.getD []=s.blk[d]?.getD []:=by rw[hdr];rfl
 have hne:s.blk.drop d≠[]:=by rw[hdr];simp
 have hl:aEI s ⟨((s.first+d:Nat):Int),((i:Nat):Int)⟩ (n:Int)=((tP (s.blk.drop d) (s.first+d) i n).1,⟨((tP (s.blk.drop d) (s.first+d) i n).2.1:Nat),((tP (s.blk.drop d) (s.first+d) i n).2.2:Nat)⟩):=by
  unfold aEI
  rw[if_neg (by simp only;omega)]
  unfold aGA
  simp only[qQ,aKK]
  rw[aRd (by rw[←hhd];exact hi)]
 rw[hl]
 have e1:=aNV (s.blk.drop d) (s.first+d) i n hi
 obtain⟨x,p1,p2,p3,p4,p5⟩:=aL7 (s.blk.drop d) (s.first+d) i n hne hi
 have hfl:s.blk.flatten.drop p=(s.blk.drop d).flatten.drop i:=by
  rw[aMy s.blk d,←hp,List.drop_append]
  rw[aKV (by omega),wN]
  congr 1
  omega
 have hlen:s.blk.flatten.length=((s.blk.take d).flatten).length+((s.blk.drop d).flatten).length:=by rw[aMy s.blk d,jE]
 rw[hfl]
 refine⟨e1,⟨⟨d+x,(tP (s.blk.drop d) (s.first+d) i n).2.2,by rw[p1,Nat.add_assoc],?_,?_,?_⟩⟩,?_,λh=>?_,λh=>?_⟩
 ·rw[oU] at p2;omega
 ·rw[aG0] at p3;exact p3
 ·rw[←e1,List.take_add,zLD,jE]
  omega
 ·simp only[p1];omega
 ·simp only[p1] at h
  have hx:x=0:=by omega
  subst hx
  simp only[List.take_zero,List.flatten_nil,zLK,fL] at p4
  rw[p4,e1]
  simp
 ·obtain⟨q1,q2⟩:=p5 (by omega)
  rw[oU] at q1
  unfold aVY
  rw[p1,q2]
  have hlast:(s.blk.drop d).getLast? =s.blk.getLast?:=by
   rw[List.getLast?_drop,if_neg (by omega)]
  rw[hlast,show s.first+d+x=s.first+(s.blk.length-1) by omega]
def Ch.tot(s:Ch):Nat:=s.blk.flatten.length+s.nts.length
theorem aWg(s:Ch)(n:Nt):(s.add n).tot=s.tot+1:=by
 unfold Ch.tot Ch.add
 simp only[jE,tT,zLK]
 omega
theorem aOA(s:Ch):s.committed.tot=s.tot:=by
 unfold Ch.tot Ch.committed
 split
 ·simp only[zLD,jE,aEr,List.flatten_nil,zLN,zLK]
  omega
 ·rfl
theorem aUA{l:List hZ}{x:hZ}(h:(yS l x).1≠0):(yS l x).2=l:=by
 unfold yS at h ⊢
 split
 ·rfl
 ·rename_i h1
  rw[if_neg h1] at h
  split
  ·rfl
  ·rename_i h2
   rw[if_neg h2] at h
   split
   ·rfl
   ·rename_i h3
    rw[if_neg h3] at h
    exact absurd rfl h
def aDK(x:kM):Prop:=x.kind=0∨(2≤x.kind∧x.kind≤4)
instance (x:kM):Decidable (aDK x):=by unfold aDK;infer_instance
theorem aOk(c o:Ch)(x:kM):((jU c o x).2.2.2≠0->(jU c o x).1=c)∧(jU c o x).1.tot=c.tot+(if (jU c o x).2.2.2=0∧aDK x then 1 else 0):=by
 have t1:∀(s:Ch) (e:Int),s.tot=c.tot->e≠0->s.tot=c.tot+(if e=0∧aDK x then 1 else 0):=λs e h he=>by rw[if_neg (λhh=>he hh.1),h];rfl
 have t2:∀(s:Ch) (e:Int),s.tot=c.tot->¬aDK x->s.tot=c.tot+(if e=0∧aDK x then 1 else 0):=λs e h he=>by rw[if_neg (λhh=>he hh.2),h];rfl
 have t3:∀(s:Ch) (n:Nt),s.tot=c.tot->aDK x->(s.add n).tot=c.tot+(if (0:Int)=0∧aDK x then 1 else 0):=λs n h he=>by rw[if_pos ⟨rfl,he⟩,aWg,h]
 unfold jU
 by_cases k0:x.kind=0
 ·rw[if_pos k0]
  by_cases e:rB c x.d x.h=0
  ·rw[if_pos e]
   exact⟨λh=>absurd rfl h,t3 ((c.put _ _).next) _ rfl (.inl k0)⟩
  ·rw[if_neg e]
   exact⟨λ_=>rfl,t1 c _ rfl e⟩
 rw[if_neg k0]
 by_cases k1:x.kind=1
 ·rw[if_pos k1]
  have nc:¬aDK x:=by unfold aDK;omega
  cases qD o.st x.h with
  | none=>exact⟨λ_=>rfl,t2 c _ rfl nc⟩
  | some b=>
   refine⟨λh=>?_,t2 _ _ rfl nc⟩
   show c.told _ _=c
   unfold Ch.told
   rw[aUA h]
 rw[if_neg k1]
 by_cases k2:x.kind=2
 ·rw[if_pos k2]
  split
  ·exact⟨λh=>absurd rfl h,t3 ((c.put _ _).put _ _) _ rfl (.inr (by omega))⟩
  ·rename_i e
   exact⟨λ_=>rfl,t1 c _ rfl e⟩
 rw[if_neg k2]
 by_cases k3:x.kind=3
 ·rw[if_pos k3]
  split
  ·exact⟨λh=>absurd rfl h,t3 (c.del _) _ rfl (.inr (by omega))⟩
  ·rename_i e
   exact⟨λ_=>rfl,t1 c _ rfl e⟩
 rw[if_neg k3]
 by_cases k4:x.kind=4
 ·rw[if_pos k4]
  split
  ·exact⟨λh=>absurd rfl h,t3 (c.del _) _ rfl (.inr (by omega))⟩
  ·rename_i e
   exact⟨λ_=>rfl,t1 c _ rfl e⟩
 rw[if_neg k4]
 have nc:¬aDK x:=by unfold aDK;omega
 by_cases k5:x.kind=5
 ·rw[if_pos k5]
  refine⟨λh=>?_,t2 _ _ (aOA c) nc⟩
  show c.committed=c
  unfold Ch.committed
  rw[if_neg h]
 ·rw[if_neg k5]
  exact⟨λ_=>rfl,t2 c _ rfl nc⟩
structure yJ(s:Ch):Prop where
 blk:∀b∈s.blk,∀n∈b,n.right=true
 nts:∀n∈s.nts,n.right=true
theorem aL1:∀{l:List (Int×Bool)},(∀x∈l,x.1≠0)->yW l=0->∀x∈l,x.2=true
 | [],_,_,x,hx=>by cases hx
 | y::l,hz,h,x,hx=>by
  rw[yW] at h
  cases hy:y.2 with
  | true=>
   rw[hy,if_pos rfl] at h
   rcases gZ.1 hx with rfl|hx
   ·exact hy
   ·exact aL1 (λz hz'=>hz z (by simp[hz'])) h x hx
  | false=>
   rw[hy,if_neg (by decide)] at h
   exact absurd h (hz y (by simp))
theorem aLO{s:Ch}{l:List (Int×Bool)}(hz:∀x∈l,x.1≠0)(h:pD s l=0):(∀x∈l,x.2=true)∧s.st.height≠18446744073709551615:=by
 unfold pD at h
 by_cases c:s.st.height=18446744073709551615
 ·rw[if_pos c] at h;cases h
 ·rw[if_neg c] at h
  exact⟨aL1 hz h,c⟩
theorem aOS{s:Ch}{d:Tx}{t:Nat}(h:rB s d t=0):s.seq<18446744073709551615∧(kB s d t).right=true∧aJI s.cl<(t:Int)∧s.st.now.length+1≤4096∧s.st.height≠18446744073709551615:=by
 obtain⟨h1,h2⟩:=aLO (by simp) h
 simp only[gZ,kW,or_false,forall_eq_or_imp,forall_eq,decide_eq_true_eq] at h1
 exact⟨h1.1,h1.2.1,h1.2.2.1,h1.2.2.2,h2⟩
theorem aLe{s:Ch}{p:Pk}{pf:Tx}{x:Int}(h:pD s (pW s p pf x)=0):p.right=true∧p.f=1-s.id∧IntKind.u64.wrap ((s.st.height:Int)+1)<p.t∧(gQ s.st.now (gH 114 p.s.toNat)).isSome=false∧(kJ s.cl x).isSome=true∧aAU (oL s.cl x) pf (gH 99 p.s.toNat) (nR p)=true∧s.st.height≠18446744073709551615:=by
 obtain⟨h1,h2⟩:=aLO (by unfold pW;simp) h
 unfold pW at h1
 simp only[gZ,kW,or_false,forall_eq_or_imp,forall_eq,wP,beq_iff_eq,decide_eq_true_eq,Bool.not_eq_true'] at h1
 obtain⟨⟨a,b⟩,c,d,e,f,-⟩:=h1
 exact⟨a,b,c,d,e,f,h2⟩
theorem aDO{s:Ch}{p:Pk}{l:List (Int×Bool)}(hz:∀x∈l,x.1≠0)(h:jF s p l=0):p.right=true∧p.f=s.id∧uK s p=true∧(∀x∈l,x.2=true)∧s.st.height≠18446744073709551615:=by
 obtain⟨h1,h2⟩:=aLO (by
  intro x hx
  simp only[zLT,wN,gZ] at hx
  rcases hx with rfl|rfl|hx
  ·show(1:Int)≠0;decide
  ·show(3:Int)≠0;decide
  ·exact hz x hx) h
 have a:=h1 (1,p.right&&(p.f==s.id)) (by simp)
 have b:=h1 (3,uK s p) (by simp)
 simp only[wP,beq_iff_eq] at a
 exact⟨a.1,a.2,b,λx hx=>h1 x (by simp[hx]),h2⟩
theorem yJ.add{s:Ch}(H:yJ s){n:Nt}(h:n.right=true):yJ (s.add n):=⟨H.blk,λm hm=>by
 rcases jJ.1 hm with hm|hm
 ·exact H.nts m hm
 ·simp only[fW] at hm
  subst hm;exact h⟩
theorem yJ.com{s:Ch}(H:yJ s):yJ s.committed:=by
 unfold Ch.committed
 split
 ·refine⟨λb hb=>?_,λn hn=>by cases hn⟩
  rcases jJ.1 hb with hb|hb
  ·exact H.blk b hb
  ·simp only[fW] at hb
   subst hb;exact H.nts
 ·exact H
theorem yJ.new{id:Int}{n seq:Nat}:yJ (Ch.new id n seq):=by
 refine⟨λb hb n hn=>?_,λn hn=>by cases hn⟩
 simp only[Ch.new,fW] at hb
 subst hb
 cases hn
theorem aKP{k:Int}{p:Pk}(h1:1≤k)(h2:k≤4)(h:p.right=true):Nt.right ⟨k,p⟩=true:=by
 unfold Nt.right
 simp[h1,h2,h]
theorem yJ.doP{c:Ch}(H:yJ c)(o:Ch)(x:kM):yJ (jU c o x).1:=by
 unfold jU
 by_cases k0:x.kind=0
 ·rw[if_pos k0]
  split
  ·rename_i e
   exact yJ.add (s:=(c.put _ _).next) ⟨H.blk,H.nts⟩ (aKP (by decide) (by decide) (aOS e).2.1)
  ·exact H
 rw[if_neg k0]
 by_cases k1:x.kind=1
 ·rw[if_pos k1]
  split
  ·exact H
  ·exact⟨H.blk,H.nts⟩
 rw[if_neg k1]
 by_cases k2:x.kind=2
 ·rw[if_pos k2]
  split
  ·rename_i e
   exact yJ.add (s:=(c.put _ _).put _ _) ⟨H.blk,H.nts⟩ (aKP (by decide) (by decide) (aLe e).1)
  ·exact H
 rw[if_neg k2]
 by_cases k3:x.kind=3
 ·rw[if_pos k3]
  split
  ·rename_i e
   exact yJ.add (s:=c.del _) ⟨H.blk,H.nts⟩ (aKP (by decide) (by decide) (aDO (by unfold xH;simp) e).1)
  ·exact H
 rw[if_neg k3]
 by_cases k4:x.kind=4
 ·rw[if_pos k4]
  split
  ·rename_i e
   exact yJ.add (s:=c.del _) ⟨H.blk,H.nts⟩ (aKP (by decide) (by decide) (aDO (by unfold qL;simp) e).1)
  ·exact H
 rw[if_neg k4]
 by_cases k5:x.kind=5
 ·rw[if_pos k5]
  exact H.com
 ·rw[if_neg k5]
  exact H
theorem yJ.step{a b:Ch}(A:yJ a)(B:yJ b)(x:kM):yJ (gL a b x).1.1∧yJ (gL a b x).1.2:=by
 unfold gL
 split
 ·exact⟨A,B.doP a x⟩
 ·exact⟨A.doP b x,B⟩
theorem aHP{h:PH}(p:Pk)(hs0:0≤p.s)(ht0:0≤p.t){k:cD}(hk:∀h',dC h h'->k (.bool p.right) h'):aT PG nO #[.agg p.cells.toArray] h k:=by
 apply aA5.call
 unfold aA5
 intro r hr
 rw[cZ]
 have u:dC h (h.set r (.cells (Value.cells (.agg p.cells.toArray)) aR)):=cU.new hr
 have b:Bx (h.set r (.cells (Value.cells (.agg p.cells.toArray)) aR)) r p.cells:=Bx.new
 generalize h.set r (.cells (Value.cells (.agg p.cells.toArray)) aR)=h1 at *
 have c0:dD h1 ⟨r,0,none⟩=some (.int .i64 p.f):=b.cell 0
 have c1:dD h1 ⟨r,0+1,none⟩=some (.int .u64 p.s):=b.cell 1
 have c2:dD h1 ⟨r,0+2,none⟩=some (.int .u64 p.t):=b.cell 2
 have c3:dD h1 ⟨r,0+3,none⟩=some (.string p.d):=b.cell 3
 have hk:=hk h1 u
 unfold Pk.right at hk
 have hf:(p.f=0∨p.f=1)∨(p.f<0∨1<p.f):=by omega
 rcases hf with hf|hf
 ·have g1:(0≤p.f)=True:=by apply eq_true;omega
  have g2:(p.f≤1)=True:=by apply eq_true;omega
  have go:cG PG h1 (loadAt bT (pT r 0))=some (.int .i64 p.f):=by rw[bT.load,c0]
  have first:∀X:Prop,X->X:=λ_ x=>x
  by_cases h3:p.s=0
  ·have e3:((0:Int)<p.s)=False:=by apply eq_false;omega
   have e3':(p.s≠0)=False:=by simp[h3]
   simp only[g1,g2,e3',decide_false,wO,aFT,cE,reduceIte] at hk
   rcases hf with hf|hf
   ·have d0:(p.f==0)=true:=by simp[hf]
    simp only[aR.f0,aR.f1,aR.f2,aR.f3,bT.load,cA.load,bR.load,c0,d0,c1,e3,cE,reduceIte]
    exact hk
   ·have d0:(p.f==0)=false:=by simp[hf]
    have d1:(p.f==1)=true:=by simp[hf]
    simp only[aR.f0,aR.f1,aR.f2,aR.f3,bT.load,cA.load,bR.load,c0,d0,d1,c1,e3,cE,reduceIte]
    exact hk
  ·have e3:((0:Int)<p.s)=True:=by apply eq_true;omega
   have e3':(p.s≠0)=True:=by simp[h3]
   by_cases h4:p.t=0
   ·have e4:((0:Int)<p.t)=False:=by apply eq_false;omega
    have e4':(p.t≠0)=False:=by simp[h4]
    simp only[g1,g2,e3',e4',decide_false,wO,aFT,cE,reduceIte] at hk
    rcases hf with hf|hf
    ·have d0:(p.f==0)=true:=by simp[hf]
     simp only[aR.f0,aR.f1,aR.f2,aR.f3,bT.load,cA.load,bR.load,c0,d0,c1,e3,c2,e4,cE,reduceIte]
     exact hk
    ·have d0:(p.f==0)=false:=by simp[hf]
     have d1:(p.f==1)=true:=by simp[hf]
     simp only[aR.f0,aR.f1,aR.f2,aR.f3,bT.load,cA.load,bR.load,c0,d0,d1,c1,e3,c2,e4,cE,reduceIte]
     exact hk
   ·have e4:((0:Int)<p.t)=True:=by apply eq_true;omega
    have e4':(p.t≠0)=True:=by simp[h4]
    have e5:decide ((p.d.size:Int)≤64)=decide (p.d.size≤64):=by
     rw[zLl];simp only[decide_eq_true_eq];omega
    simp only[g1,g2,e3',e4',Bool.and_self,zLo,cE,reduceIte] at hk
    rcases hf with hf|hf
    ·have d0:(p.f==0)=true:=by simp[hf]
     simp only[aR.f0,aR.f1,aR.f2,aR.f3,bT.load,cA.load,bR.load,c0,d0,c1,e3,c2,e4,c3,lV bR.und,e5,cE,reduceIte]
     exact hk
    ·have d0:(p.f==0)=false:=by simp[hf]
     have d1:(p.f==1)=true:=by simp[hf]
     simp only[aR.f0,aR.f1,aR.f2,aR.f3,bT.load,cA.load,bR.load,c0,d0,d1,c1,e3,c2,e4,c3,lV bR.und,e5,cE,reduceIte]
     exact hk
 ·have d0:(p.f==0)=false:=by simp;omega
  have d1:(p.f==1)=false:=by simp;omega
  have g:(decide (0≤p.f)&&decide (p.f≤1))=false:=by
   rw[Bool.and_eq_false_iff];simp only[decide_eq_false_iff_not];omega
  simp only[g,wO] at hk
  simp only[aR.f0,bT.load,c0,d0,d1,cE,reduceIte]
  exact hk
def oX(p:Pk):List Tx:=if p.right then [p.bs] else []
def aFa(p:Pk):List Tx:=if p.right then [[97,99,107]++p.bs] else []
theorem aJ3{h:PH}{b m:Nat}{A:List Tx}{K:List Nat}(H:Bk b m A K h){p:Pk}(w:p.wf){k:cD}(hk:∀h',Bk b m (oX p++A) K h'->cU [b,m] h h'->k (.string (tx (nR p))) h'):
  aT PG oN #[pT b 0,p.v] h k:=by
 apply vI.call
 unfold vI
 intro r1 hr1
 try rw[cZ]
 have u1:dC h (h.set r1 (.cells (Value.cells p.v) aR)):=cU.new hr1
 have B1:Bx (h.set r1 (.cells (Value.cells p.v) aR)) r1 p.cells:=Bx.new
 generalize h.set r1 (.cells (Value.cells p.v) aR)=h1 at *
 have lp:∀{h':PH},dC h1 h'->cG PG h' (loadAt aR (pT r1 0))=some (.agg p.cells.toArray):=λu=>(B1.ext u).pk rfl
 simp only[lp cU.refl,cE,reduceIte,cT,Nat.reduceAdd]
 refine aHP p w.1 w.2.2.1 λh2 u2=>?_
 unfold oX nR aG2 at hk
 cases hr:p.right with
 | false=>
  simp only[hr,zLr,if_false,wN] at hk
  simp only[aBE,cE,reduceIte,cT,Nat.reduceAdd]
  exact hk h2 (H.ext (u1.trans u2)) (u1.trans u2).upd
 | true=>
  simp only[hr,if_true] at hk
  simp only[lp u2,cE,reduceIte,cT,Nat.reduceAdd]
  refine aNF w hr λh3 u3=>?_
  have e3:=(u1.trans u2).trans u3
  have hb:=aMU hr
  refine aLt (H.ext e3) (by omega) λh4 B4 u4=>?_
  exact hk h4 B4 (e3.upd.trans u4)
theorem aNZ{h:PH}{b m:Nat}{A:List Tx}{K:List Nat}(H:Bk b m A K h){p:Pk}(w:p.wf){k:cD}(hk:∀h',Bk b m (aFa p++A) K h'->cU [b,m] h h'->k (.string (tx (aAq p))) h'):
  aT PG wV #[pT b 0,p.v] h k:=by
 apply aAV.call
 unfold aAV
 intro r1 hr1
 try rw[cZ]
 have u1:dC h (h.set r1 (.cells (Value.cells p.v) aR)):=cU.new hr1
 have B1:Bx (h.set r1 (.cells (Value.cells p.v) aR)) r1 p.cells:=Bx.new
 generalize h.set r1 (.cells (Value.cells p.v) aR)=h1 at *
 have lp:∀{h':PH},dC h1 h'->cG PG h' (loadAt aR (pT r1 0))=some (.agg p.cells.toArray):=λu=>(B1.ext u).pk rfl
 simp only[lp cU.refl,cE,reduceIte,cT,Nat.reduceAdd]
 refine aHP p w.1 w.2.2.1 λh2 u2=>?_
 unfold aFa aAq aG2 at hk
 cases hr:p.right with
 | false=>
  simp only[hr,zLr,if_false,wN] at hk
  simp only[aBE,cE,reduceIte,cT,Nat.reduceAdd]
  exact hk h2 (H.ext (u1.trans u2)) (u1.trans u2).upd
 | true=>
  simp only[hr,if_true] at hk
  simp only[lp u2,cE,reduceIte,cT,Nat.reduceAdd]
  refine aNF w hr λh3 u3=>?_
  have e3:=(u1.trans u2).trans u3
  have hb:=aMU hr
  have qa:({data:=#[97,99,107]}:ByteArray)=tx [97,99,107]:=rfl
  have s1:cV PG (binOp .add bR (.string (tx [97,99,107])) (.string (tx p.bs)))=some (.string (tx ([97,99,107]++p.bs))):=lQ (by simp;omega)
  simp only[qa,s1,cE,reduceIte,cT,Nat.reduceAdd]
  refine aLt (H.ext e3) (by simp;omega) λh4 B4 u4=>?_
  exact hk h4 B4 (e3.upd.trans u4)
structure Ch.DOk(s:Ch):Prop where
 id:s.id=0∨s.id=1
 seq:s.seq<18446744073709551616
 rk:∃hs,vX hs s.cl
 few:s.cl.length≤4096
 pos:∀y∈yX s.cl,0≤y∧y<18446744073709551616
def qY(b m:Nat)(A:List Tx)(K:List Nat):kG:=λh F=>F=b::m::K∧Bk b m A K h
theorem qY.good(b m:Nat)(A:List Tx)(K:List Nat):kN (qY b m A K):=⟨λ⟨e,H⟩ x hx=>H.known x (e▸hx),λ⟨e,H⟩ u hK=>⟨e,H.upd u (λx hx=>hK x (e▸hx))⟩⟩
def rsA(sp:Nat)(s:St):kG:=λh F=>∃G,vF h sp s G∧F=sp::G
theorem rsA.good(sp:Nat)(s:St):kN (rsA sp s):=⟨λ⟨G,H,e⟩ x hx=>H.known x (e▸hx),λ⟨G,H,e⟩ u hK=>⟨G,H.upd u (hK _ (by rw[e];simp)) (λg hg=>hK g (by rw[e];simp[hg])),e⟩⟩
def krA(cp:Nat)(l:List hZ):kG:=λh F=>xL h cp l F
theorem krA.good(cp:Nat)(l:List hZ):kN (krA cp l):=⟨λH=>xL.known H,λH u hK=>xL.upd H u hK⟩
def noA(w:Value)(n:Nat):kG:=λh F=>∃ns:List Nt,eS h eQ 5 w (ns.map Nt.cells) F∧ns.length≤n
theorem noA.good(w:Value)(n:Nat):kN (noA w n):=⟨λ⟨_,O,_⟩=>O.known,λ⟨ns,O,l⟩ u hK=>⟨ns,O.upd u hK,l⟩⟩
def boA(v:Value)(n:Nat):kG:=λh F=>∃rows:List (List Value),eS h dB 1 v rows F∧rows.length≤n∧∀r∈rows,∀u∈r,fK u=true
theorem boA.good(v:Value)(n:Nat):kN (boA v n):=⟨λ⟨_,O,_⟩=>O.known,λ⟨ns,O,l⟩ u hK=>⟨ns,O.upd u hK,l⟩⟩
def Ch.dcells(s:Ch)(b sp cp:Nat)(bv nv:Value):List Value:=[pT b 0,.int .i64 s.id,pT sp 0,pT cp 0,.int .u64 (s.seq:Int),bv,nv]
def mT(c:Nat)(cs:List Value)(sp:Nat)(st:St)(cp:Nat)(cl:List hZ)(bv nv:Value)(n:Nat):kG:=dT (pM c cs) (dT (rsA sp st) (dT (krA cp cl) (dT (boA bv n) (noA nv n))))
def DC(c b:Nat)(s:Ch)(n:Nat):kG:=λh F=>∃sp cp bv nv,mT c (s.dcells b sp cp bv nv) sp s.st cp s.cl bv nv n h F
theorem mT.good{c:Nat}{cs:List Value}{sp:Nat}{st:St}{cp:Nat}{cl:List hZ}{bv nv:Value}{n:Nat}:kN (mT c cs sp st cp cl bv nv n):=(pM.good _ _).star ((rsA.good _ _).star ((krA.good _ _).star ((boA.good _ _).star (noA.good _ _))))
theorem DC.good(c b:Nat)(s:Ch)(n:Nat):kN (DC c b s n):=⟨λ⟨_,_,_,_,H⟩=>mT.good.known H,λ⟨a,b,c,d,H⟩ u hK=>⟨a,b,c,d,mT.good.upd H u hK⟩⟩
section
variable{c:Nat}{cs:List Value}{sp:Nat}{st:St}{cp:Nat}{cl:List hZ}{bv nv:Value}{n:Nat}{h:PH}{F:List Nat}(H:mT c cs sp st cp cl bv nv n h F)
include H
theorem mT.fBox:uJ h F (pM c cs) (λX=>dT X (dT (rsA sp st) (dT (krA cp cl) (dT (boA bv n) (noA nv n))))):=dT.left ((rsA.good _ _).star ((krA.good _ _).star ((boA.good _ _).star (noA.good _ _)))) H
theorem mT.fSt:uJ h F (rsA sp st) (λX=>dT (pM c cs) (dT X (dT (krA cp cl) (dT (boA bv n) (noA nv n))))):=(dT.right (pM.good _ _) H).comp λ_ H=>dT.left ((krA.good _ _).star ((boA.good _ _).star (noA.good _ _))) H
theorem mT.fCl:uJ h F (krA cp cl) (λX=>dT (pM c cs) (dT (rsA sp st) (dT X (dT (boA bv n) (noA nv n))))):=(dT.right (pM.good _ _) H).comp λ_ H=>(dT.right (rsA.good _ _) H).comp λ_ H=>dT.left ((boA.good _ _).star (noA.good _ _)) H
theorem mT.fTwo:uJ h F (dT (boA bv n) (noA nv n)) (λX=>dT (pM c cs) (dT (rsA sp st) (dT (krA cp cl) X))):=(dT.right (pM.good _ _) H).comp λ_ H=>(dT.right (rsA.good _ _) H).comp λ_ H=>dT.right (krA.good _ _) H
theorem mT.cell:Bx h c cs:=by
 obtain⟨Fa,⟨-,B⟩,-,-⟩:=mT.fBox H
 exact B
theorem mT.okst:st.Ok:=by
 obtain⟨Fs,⟨G,S,-⟩,-,-⟩:=mT.fSt H
 exact S.ok
end
section
variable{h:PH}{c:Nat}{s:Ch}{b sp cp:Nat}{bv nv:Value}(B:Bx h c (s.dcells b sp cp bv nv))
include B
theorem dl0:cG PG h (loadAt fU (pT c 0))=some (pT b 0):=by rw[fU.load,B.cell];rfl
theorem dl1:cG PG h (loadAt bT (pT c 1))=some (.int .i64 s.id):=by rw[bT.load,B.cell];rfl
theorem dl2:cG PG h (loadAt fH (pT c 2))=some (pT sp 0):=by rw[fH.load,B.cell];rfl
theorem dl3:cG PG h (loadAt jM (pT c 3))=some (pT cp 0):=by rw[jM.load,B.cell];rfl
theorem dl4:cG PG h (loadAt cA (pT c 4))=some (.int .u64 (s.seq:Int)):=by rw[cA.load,B.cell];rfl
theorem dl5:cG PG h (loadAt eH (pT c 5))=some bv:=by rw[eH.load,B.cell];rfl
theorem dl6:cG PG h (loadAt dB (pT c 6))=some nv:=by rw[dB.load,B.cell];rfl
end
theorem aXM(k:Int)(p:Pk):cV PG (build eQ #[(0,.int .i64 k),(1,.agg p.cells.toArray)])=some (.agg (Nt.cells ⟨k,p⟩).toArray):=by kernel_rfl
theorem aYe:jS PG (buildSlice dB 0 #[])=some (.cells #[] eQ,λr=>pure (.slice (some ⟨r,0,none⟩) 0 0)):=by kernel_rfl
theorem aPe{h:PH}{c b:Nat}{s:Ch}{n:Nat}{F:List Nat}(H:DC c b s n h F)(m:Nat)(hm:m≤10){k:cD}(hk:k (.bool (decide (s.st.now.length+m≤4096))) h):aT PG rW #[pT c 0,.int .i64 (m:Int)] h k:=by
 apply vM.call
 unfold vM
 obtain⟨sp,cp,bv,nv,P⟩:=H
 have hfew:=P.okst.few
 obtain⟨Fs,⟨G,S,-⟩,-,-⟩:=P.fSt
 obtain⟨nv',bv',bl,h1,h2,-⟩:=S.here
 have l0:cG PG h (loadAt cJ (pT sp 0))=some nv':=by rw[cJ.load];simp[dD,h1]
 have ll:=h2.len (t':=bT) cJ.und
 rw[jC] at ll
 have w:IntKind.i64.wrap ((s.st.now.length:Int)+(m:Int))=((s.st.now.length+m:Nat):Int):=by rw[eZ (by omega) (by omega)];omega
 have d:decide (((s.st.now.length+m:Nat):Int)≤4096)=decide (s.st.now.length+m≤4096):=by
  rw[zLl];simp only[decide_eq_true_eq];omega
 simp only[cQ.f2,dK.f0,fL,dl2 P.cell,l0,ll,w,d,cE,reduceIte,cT,Nat.reduceAdd]
 exact hk
theorem aJr{h:PH}{c b:Nat}{s:Ch}{n:Nat}{F:List Nat}(H:DC c b s n h F)(hn:n≤10000)(kind:Int)(p:Pk){k:cD}(hk:∀h' F',DC c b s (n+1) h' F'->iR h F h' F'->k (.tuple #[]) h'):
  aT PG mQ #[pT c 0,.int .i64 kind,p.v] h k:=by
 apply oI.call
 unfold oI
 obtain⟨sp,cp,bv,nv,P⟩:=H
 intro r1 hr1
 try rw[cZ]
 have u1:dC h (h.set r1 (.cells (Value.cells p.v) aR)):=cU.new hr1
 have B1:Bx (h.set r1 (.cells (Value.cells p.v) aR)) r1 p.cells:=Bx.new
 generalize h.set r1 (.cells (Value.cells p.v) aR)=h1 at *
 have P1:=mT.good.ext P u1
 have lp:∀{h':PH},dC h1 h'->cG PG h' (loadAt aR (pT r1 0))=some (.agg p.cells.toArray):=λu=>(B1.ext u).pk rfl
 obtain⟨Ft,⟨Fb,Fn,rfl,⟨rows,Ob,lb,cb⟩,⟨ns,On,ln⟩,hd⟩,hFt,back⟩:=P1.fTwo
 simp only[cQ.f6,fL,dl6 P1.cell,lp cU.refl,aXM,aYe,cE,reduceIte,cT,Nat.reduceAdd]
 intro r8 hr8
 refine fT ?_
 try rw[cZ]
 have u2:dC h1 (h1.set r8 (.cells #[] eQ)):=cU.new hr8
 have O2:eS (h1.set r8 (.cells #[] eQ)) eQ 5 (.slice (some ⟨r8,0,none⟩) 0 0) (([]:List Nt).map Nt.cells) [r8]:=eS.lit (n:=0) (Nt.rows []) dL (by simp) (by decide) rfl
 generalize h1.set r8 (.cells #[] eQ)=h2 at *
 refine jL dB.und dB.und eQ.info eQ.size eQ.bytes eQ.zero rfl (by decide) O2 (On.ext u2).slR (Nt.isC _) (by simp only[jC,zLK];omega) ?_
 intro v3 h3 F3 O3 u3 k3 _
 rw[iU,wN] at O3
 have e13:dC h1 h3:=u2.fresh u3 (eP.one hr8)
 have f3:eP h1 F3:=λx hx=>by
  rcases k3 x hx with hx|hx
  ·simp only[fW] at hx;subst hx;exact hr8
  ·exact u2.none hx
 refine⟨lp e13,?_⟩
 simp only[aUS,cE,reduceIte,cT,Nat.reduceAdd]
 intro r14 hr14
 refine fT ?_
 try rw[cZ]
 have u4:dC h3 (h3.set r14 (.cells (Nt.cells ⟨kind,p⟩).toArray eQ (0,0))):=cU.new hr14
 have S4:fY (h3.set r14 (.cells (Nt.cells ⟨kind,p⟩).toArray eQ (0,0))) 5 (.slice (some ⟨r14,0,none⟩) 1 1) ([(⟨kind,p⟩:Nt)].map Nt.cells):=(eS.lit (n:=1) (Nt.rows [⟨kind,p⟩]) dL (by simp) (by decide) (by simp)).slR
 generalize h3.set r14 (.cells (Nt.cells ⟨kind,p⟩).toArray eQ (0,0))=h4 at *
 refine jL dB.und dB.und eQ.info eQ.size eQ.bytes eQ.zero rfl (by decide) (O3.ext u4) S4 (Nt.isC _) (by simp only[jC,zLQ];omega) ?_
 intro v5 h5 F5 O5 u5 k5 _
 rw[←qB] at O5
 have e15:dC h1 h5:=(e13.trans u4).fresh u5 f3
 have f5:eP h1 F5:=f3.grow (e13.trans u4) k5
 have N5:noA v5 (n+1) h5 F5:=⟨ns++[⟨kind,p⟩],O5,by simp;omega⟩
 have W5:dT (boA bv (n+1)) (noA v5 (n+1)) h5 (Fb++F5):=dT.mk ⟨rows,Ob.ext e15,by omega,cb⟩ N5 (λx hx hx5=>Ob.known x hx (f5 x hx5))
 obtain⟨F6,P6,s6⟩:=back _ h5 _ W5 ⟨e15.upd,λx hx=>by
  rcases jJ.1 hx with hx|hx
  ·exact .inl (by simp[hx])
  ·exact .inr (f5 x hx)⟩
 have P6:mT c (s.dcells b sp cp bv nv) sp s.st cp s.cl bv v5 (n+1) h5 F6:=P6
 obtain⟨Fx,⟨rfl,X6⟩,hFx,back2⟩:=P6.fBox
 refine dB.put X6 (o:=6) (by show 6<7;decide) O5.slR.isc λh7 X7 u7=>?_
 have X7:Bx h7 c (s.dcells b sp cp bv v5):=X7
 obtain⟨F8,P8,s8⟩:=back2 (pM c (s.dcells b sp cp bv v5)) h7 [c] ⟨rfl,X7⟩ ⟨u7,λx hx=>.inl hx⟩
 refine hk h7 F8 ⟨sp,cp,bv,v5,P8⟩ ?_
 exact((iR.ext u1).trans s6).trans s8
theorem aOj{a b c d:Tx}(h:rY a b=rY c d)(hb:b.length=d.length):a=c∧b=d:=by
 unfold rY at h
 simp only[lF,true_and] at h
 exact List.append_inj' h hb
theorem aLs{n m:Nat}(hn:n<18446744073709551616)(hm:m<18446744073709551616)(h:be n 8=be m 8):n=m:=by
 have:=congrArg val h
 rw[aLR,aLR,aCK (show n<256^8 by omega),aCK (show m<256^8 by omega)] at this
 exact this
theorem aQC{n m:Nat}{d e:Tx}(hn:n<18446744073709551616)(hm:m<18446744073709551616)(h:aG4 n d=aG4 m e):n=m∧d=e:=by
 unfold aG4 at h
 simp only[lF,true_and] at h
 obtain⟨h1,h2⟩:=List.append_inj h (by rw[iF,iF])
 exact⟨aLs hn hm h1,h2⟩
theorem aXg{n m:Nat}(hn:n<256)(hm:m<256)(h:UInt8.ofNat (n%256)=UInt8.ofNat (m%256)):n=m:=by
 have:=congrArg UInt8.toNat h
 simp at this
 omega
theorem aSy{p q:Pr}(hk:q.k.length≤16)(hv:q.v.length≤64)(h:aAX p=aAX q):p=q:=by
 unfold aAX at h
 simp only[lF,true_and] at h
 obtain⟨h1,h2⟩:=h
 have hl:=congrArg List.length h2
 simp only[jE,tT] at hl
 have hkl:p.k.length=q.k.length:=aXg (by omega) (by omega) h1
 obtain⟨e1,e2⟩:=List.append_inj h2 hkl
 simp only[lF] at e2
 obtain⟨pk,pv⟩:=p
 obtain⟨qk,qv⟩:=q
 simp only at e1 e2
 rw[e1,e2.2]
theorem aYW{p:Pr}{i n:Nat}{path:List Tx}(h2:2≤n)(hi:i<dR n):oM p i n path=oT (rY (oM p i (dR n) path) (path.getD (gB i n-1) [])):=by
 rw[oM,dif_pos h2,if_pos hi];rfl
theorem aYo{p:Pr}{i n:Nat}{path:List Tx}(h2:2≤n)(hi:¬i<dR n):oM p i n path=oT (rY (path.getD (gB i n-1) []) (oM p (i-dR n) (n-dR n) path)):=by
 rw[oM,dif_pos h2,if_neg hi];rfl
theorem aYM{p:Pr}{i n:Nat}{path:List Tx}(h2:¬2≤n):oM p i n path=oT (aAX p):=by
 rw[oM,dif_neg h2];rfl
theorem aVn{p:Pr}{i n:Nat}{path:List Tx}(h2:2≤n)(hi:i<dR n):upA p i n path=rY (oM p i (dR n) path) (path.getD (gB i n-1) [])::upA p i (dR n) path:=by
 rw[upA,dif_pos h2,if_pos hi]
theorem aVc{p:Pr}{i n:Nat}{path:List Tx}(h2:2≤n)(hi:¬i<dR n):upA p i n path=rY (path.getD (gB i n-1) []) (oM p (i-dR n) (n-dR n) path)::upA p (i-dR n) (n-dR n) path:=by
 rw[upA,dif_pos h2,if_neg hi]
theorem aYI{p:Pr}{i n:Nat}{path:List Tx}(h2:¬2≤n):upA p i n path=[aAX p]:=by
 rw[upA,dif_neg h2]
theorem aV0(n:Nat)(p:Pr)(i:Nat)(path:List Tx):∃t∈upA p i n path,oT t=oM p i n path∧(if 2≤n then(if i<dR n then t=rY (oM p i (dR n) path) (path.getD (gB i n-1) []) else t=rY (path.getD (gB i n-1) []) (oM p (i-dR n) (n-dR n) path)) else t=aAX p):=by
 by_cases h2:2≤n
 ·by_cases hi:i<dR n
  ·exact⟨_,by rw[aVn h2 hi];exact aId,(aYW h2 hi).symm,by rw[if_pos h2,if_pos hi]⟩
  ·exact⟨_,by rw[aVc h2 hi];exact aId,(aYo h2 hi).symm,by rw[if_pos h2,if_neg hi]⟩
 ·exact⟨_,by rw[aYI h2];exact aId,(aYM h2).symm,by rw[if_neg h2]⟩
theorem aPW{l:List Pr}(h2:2≤l.length):aAL l=rY (lC (l.take (dR l.length))) (lC (l.drop (dR l.length)))::(aAL (l.drop (dR l.length))++aAL (l.take (dR l.length))):=by
 rw[aAL,dif_pos h2]
theorem aX1{l:List Pr}(h2:¬2≤l.length):aAL l=[aAX (l.headD ⟨[],[]⟩)]:=by
 rw[aAL,dif_neg h2]
theorem aXi{l:List Pr}(h2:2≤l.length):lC l=oT (rY (lC (l.take (dR l.length))) (lC (l.drop (dR l.length)))):=by
 rw[lC,dif_pos h2];rfl
theorem aXc{l:List Pr}(h2:¬2≤l.length):lC l=oT (aAX (l.headD ⟨[],[]⟩)):=by
 rw[lC,dif_neg h2];rfl
theorem aT5(l:List Pr):∃t∈aAL l,oT t=lC l∧(if 2≤l.length then t=rY (lC (l.take (dR l.length))) (lC (l.drop (dR l.length))) else t=aAX (l.headD ⟨[],[]⟩)):=by
 by_cases h2:2≤l.length
 ·exact⟨_,by rw[aPW h2];exact aId,(aXi h2).symm,by rw[if_pos h2]⟩
 ·exact⟨_,by rw[aX1 h2];exact aId,(aXc h2).symm,by rw[if_neg h2]⟩
theorem aUR{p:Pr}{i n:Nat}{path:List Tx}(h2:2≤n)(hi:i<dR n):∀t∈upA p i (dR n) path,t∈upA p i n path:=λt ht=>by
 rw[aVn h2 hi]
 exact aJ0 _ ht
theorem aTe{p:Pr}{i n:Nat}{path:List Tx}(h2:2≤n)(hi:¬i<dR n):∀t∈upA p (i-dR n) (n-dR n) path,t∈upA p i n path:=λt ht=>by
 rw[aVc h2 hi]
 exact aJ0 _ ht
theorem aTX{l:List Pr}(h2:2≤l.length):∀t∈aAL (l.take (dR l.length)),t∈aAL l:=λt ht=>by
 rw[aPW h2]
 simp[ht]
theorem aRc{l:List Pr}(h2:2≤l.length):∀t∈aAL (l.drop (dR l.length)),t∈aAL l:=λt ht=>by
 rw[aPW h2]
 simp[ht]
theorem aUF:∀(n:Nat) {l:List Pr} {p:Pr} {i:Nat} {path:List Tx},l.length=n->1≤n->i<n->(∀q∈l,q.k.length≤16∧q.v.length≤64)->gB i n≤path.length->(∀d∈path,d.length=32)->∀{A:List Tx},wK A->(∀t∈upA p i n path,t∈A)->(∀t∈aAL l,t∈A)->oM p i n path=lC l->l[i]? =some p:=by
 intro n
 induction n using Nat.strongRecOn with
 | ind n ih=>
  intro l p i path hl h1 hi hsm hdp hall A U hu hd e
  obtain⟨t,ht,et,ct⟩:=aV0 n p i path
  obtain⟨s,hs,es,cs⟩:=aT5 l
  have ets:t=s:=U t (hu t ht) s (hd s hs) (by rw[et,es,e])
  by_cases h2:2≤n
  ·obtain⟨m1,m2⟩:=lH h2
   have h2l:2≤l.length:=by omega
   rw[if_pos h2] at ct
   rw[if_pos h2l] at cs
   have hg:(path.getD (gB i n-1) []).length=32:=by
    have h3:1≤gB i n:=by rw[gB,dif_pos h2];split<;>omega
    rw[aAM,lS (by omega)]
    exact hall _ (aJ9 _)
   have hdep:gB i n=if i<dR n then 1+gB i (dR n) else 1+gB (i-dR n) (n-dR n):=by rw[gB,dif_pos h2]
   rw[hl] at cs
   by_cases hc:i<dR n
   ·rw[if_pos hc] at ct hdep
    rw[ct,cs] at ets
    obtain⟨e1,-⟩:=aOj ets (by rw[hg,uF])
    have:=ih (dR n) m2 (l:=l.take (dR n)) (p:=p) (i:=i) (path:=path) (by rw[rN];omega) m1 hc (λq hq=>hsm q (aKA hq)) (by omega) hall U (λt ht=>hu t (aUR h2 hc t ht)) (λt ht=>hd t (aTX h2l t (by rw[hl];exact ht))) e1
    rw[aGt,if_pos hc] at this
    exact this
   ·rw[if_neg hc] at ct hdep
    rw[ct,cs] at ets
    obtain⟨-,e1⟩:=aOj ets (by rw[aG3,uF])
    have:=ih (n-dR n) (by omega) (l:=l.drop (dR n)) (p:=p) (i:=i-dR n) (path:=path) (by rw[oU];omega) (by omega) (by omega) (λq hq=>hsm q (aLB hq)) (by omega) hall U (λt ht=>hu t (aTe h2 hc t ht)) (λt ht=>hd t (aRc h2l t (by rw[hl];exact ht))) e1
    rw[aJ8] at this
    rw[←this]
    congr 1
    omega
  ·rw[if_neg h2] at ct
   rw[if_neg (by omega)] at cs
   obtain⟨q,rfl⟩:=List.length_eq_one_iff.1 (show l.length=1 by omega)
   have i0:i=0:=by omega
   subst i0
   rw[ct,cs] at ets
   obtain⟨y1,y2⟩:=hsm q (by simp)
   have:=aSy (p:=p) (q:=q) y1 y2 ets
   rw[this];rfl
theorem aQX{f:Lf}{b:List Pr}(M:MOk b){A:List Tx}(U:wK A)(ha:∀t∈aF2 f,t∈A)(hb:∀t∈rQ b,t∈A)(h:nI f=some (jX b)):f.n=(b.length:Int)∧0≤f.i∧f.i<f.n∧b[f.i.toNat]? =some f.p:=by
 by_cases H:OkC f
 case neg=>rw[aOB H] at h;cases h
 rw[aOX H] at h
 simp only[zL5] at h
 have hn1:=H.n1
 have hn2:=H.n2
 have hi1:=H.i1
 have hi2:=H.i2
 have hml:=M.len
 have ht:aG4 f.n.toNat (aK5 f)=aG4 b.length (if b=[] then [] else lC b):=U _ (ha _ (by unfold aF2;simp)) _ (hb _ (by unfold rQ;simp)) h
 obtain⟨e1,e2⟩:=aQC (by omega) (by omega) ht
 have hne:b≠[]:=λe=>by rw[e] at e1;simp at e1;omega
 rw[if_neg hne] at e2
 refine⟨by omega,hi1,hi2,?_⟩
 unfold aK5 at e2
 refine aUF f.n.toNat e1.symm (by omega) (by omega) (λq hq=>⟨M.k q hq,M.v q hq⟩) (by rw[H.len];exact qZ _) H.all U (λt ht=>ha t (by unfold aF2;exact aJ0 _ ht)) (λt ht=>hb t (by unfold rQ;rw[if_neg hne,if_neg hne];exact aJ0 _ ht)) e2
theorem aL6:∀{l:List Lf} {f:Lf},f∈l->(nI f).isSome=true->∀t∈aF2 f,t∈wL l
 | g::l,f,hf,hs,t,ht=>by
  rw[wL]
  rcases gZ.1 hf with rfl|hf
  ·rw[if_pos hs];simp[ht]
  ·have:=aL6 hf hs t ht
   simp[this]
theorem aLb{l:List Lf}{b:List Pr}(M:MOk b){A:List Tx}(U:wK A)(ha:∀t∈wL l,t∈A)(hb:∀t∈rQ b,t∈A)(h:mJ (jX b) l=true):∀f∈l,f.n=(b.length:Int)∧0≤f.i∧f.i<f.n∧b[f.i.toNat]? =some f.p:=λf hf=>by
 unfold mJ at h
 rw[aCD] at h
 have hc:=h f hf
 simp only[beq_iff_eq] at hc
 exact aQX M U (λt ht=>ha t (aL6 hf (by rw[hc];rfl) t ht)) hb hc
theorem aON{b:List Pr}(M:MOk b){s k v:Tx}{A:List Tx}(U:wK A)(ha:∀t∈aF8 s,t∈A)(hb:∀t∈rQ b,t∈A)(h:aAU (jX b) s k v=true):(⟨k,v⟩:Pr)∈b:=by
 rw[aQo] at h
 simp only[wP,beq_iff_eq,Bool.not_eq_true'] at h
 obtain⟨⟨⟨h1,h2⟩,h3⟩,h4⟩:=h
 unfold aF8 at ha
 match hl:(iC s).1.lv,h3 with
 | [f],h3=>
  rw[hl] at h4 ha
  have hp:f.p=⟨k,v⟩:=by simpa[aGX] using h3
  rw[if_pos ⟨h1,h2,rfl⟩] at ha
  obtain⟨-,-,-,y⟩:=aLb M U ha hb h4 f (by simp)
  rw[←hp]
  exact sH y
 | [],h3=>simp[aGX] at h3
 | _::_::_,h3=>simp[aGX] at h3
theorem aPB{b:List Pr}(U:qR b){i j:Nat}{p q:Pr}(hi:b[i]? =some p)(hj:b[j]? =some q)(h:p.k<q.k):i<j:=by
 rcases Nat.lt_trichotomy i j with c|c|c
 ·exact c
 ·subst c
  rw[hi] at hj
  cases hj
  exact absurd h (zLY _)
 ·obtain⟨x1,x2⟩:=zLx.1 hi
  obtain⟨y1,y2⟩:=zLx.1 hj
  have:=List.pairwise_iff_getElem.1 U j i y1 x1 c
  rw[x2,y2] at this
  exact absurd h (List.lt_asymm this)
theorem aQf{b:List Pr}(M:MOk b){s k:Tx}{A:List Tx}(U:wK A)(ha:∀t∈aH1 s k,t∈A)(hb:∀t∈rQ b,t∈A)(h:aAO (jX b) s k=true):∀q∈b,q.k≠k:=by
 rw[aOw] at h
 simp only[wP,beq_iff_eq,decide_eq_true_eq] at h
 obtain⟨⟨⟨⟨⟨h1,h2⟩,h3⟩,h4⟩,h5⟩,h6⟩:=h
 unfold aH1 at ha
 rw[if_pos ⟨h1,h2,h3,h4⟩] at ha
 have hcl:=aLb M U (λt ht=>ha t (zLj _ ht)) hb h5
 intro q hq ek
 obtain⟨j,hj⟩:=List.mem_iff_getElem?.1 hq
 have hjl:=(zLx.1 hj).1
 have hml:=M.len
 generalize hL:(iC s).1.lv=L at *
 match L,h6 with
 | [],h6=>
  have e:jX b=jX []:=by simpa[aAS] using h6
  rw[if_pos rfl] at ha
  have ht:aG4 b.length (if b=[] then [] else lC b)=aG4 0 []:=U _ (hb _ (by unfold rQ;simp)) _ (ha _ (by unfold rQ;simp)) e
  obtain⟨e1,-⟩:=aQC (by omega) (by decide) ht
  omega
 | [f],h6=>
  obtain⟨y1,y2,y3,y4⟩:=hcl f (by simp)
  simp only[aAS,Bool.or_eq_true,wP,beq_iff_eq,decide_eq_true_eq] at h6
  rcases h6 with⟨z1,z2⟩|⟨z1,z2⟩
  ·have:=aPB M.up hj y4 (by rw[ek];exact z2)
   omega
  ·rw[eZ (by omega) (by omega)] at z1
   have:=aPB M.up y4 hj (by rw[ek];exact z2)
   omega
 | f::g::r,h6=>
  obtain⟨y1,y2,y3,y4⟩:=hcl f (by simp)
  obtain⟨w1,w2,w3,w4⟩:=hcl g (by simp)
  simp only[aAS,wP,beq_iff_eq,decide_eq_true_eq] at h6
  obtain⟨⟨⟨z1,z2⟩,z3⟩,z4⟩:=h6
  rw[eZ (by omega) (by omega)] at z2
  have a1:=aPB M.up y4 hj (by rw[ek];exact z3)
  have a2:=aPB M.up hj w4 (by rw[ek];exact z4)
  omega
theorem aOE{p q:Pk}(hp:p.right=true)(hq:q.right=true){A:List Tx}(U:wK A)(ha:∀t∈oX p,t∈A)(hb:∀t∈oX q,t∈A)(h:nR p=nR q):p.bs=q.bs:=by
 unfold oX at ha hb
 unfold nR aG2 at h
 rw[if_pos hp] at ha
 rw[if_pos hq] at hb
 simp only[hp,hq,if_true] at h
 exact U _ (ha _ (by simp)) _ (hb _ (by simp)) h
theorem aUh{p q:Pk}(hp:p.right=true)(hq:q.right=true){A:List Tx}(U:wK A)(ha:∀t∈aFa p,t∈A)(hb:∀t∈aFa q,t∈A)(h:aAq p=aAq q):p.bs=q.bs:=by
 unfold aFa at ha hb
 unfold aAq aG2 at h
 rw[if_pos hp] at ha
 rw[if_pos hq] at hb
 simp only[hp,hq,if_true] at h
 have:=U _ (ha _ (by simp)) _ (hb _ (by simp)) h
 exact List.append_cancel_left this
theorem DC.mono{c b:Nat}{s:Ch}{n n':Nat}{h:PH}{F:List Nat}(H:DC c b s n h F)(hn:n≤n'):DC c b s n' h F:=by
 obtain⟨sp,cp,bv,nv,Fx,Fr,rfl,hx,⟨F1,F2,rfl,h1,⟨F3,F4,rfl,h3,⟨F5,F6,rfl,⟨rows,r1,r2,r3⟩,⟨ns,n1,n2⟩,d5⟩,d3⟩,d1⟩,dx⟩:=H
 exact⟨sp,cp,bv,nv,Fx,_,rfl,hx,⟨F1,_,rfl,h1,⟨F3,_,rfl,h3,⟨F5,F6,rfl,⟨rows,r1,by omega,r3⟩,⟨ns,n1,by omega⟩,d5⟩,d3⟩,d1⟩,dx⟩
theorem aGp{b m:Nat}{A A':List Tx}{K:List Nat}{X:kG}(g:kN X){h h':PH}{F:List Nat}(H:dT (qY b m A K) X h F)(B:Bk b m A' K h')(u:cU [b,m] h h'):dT (qY b m A' K) X h' F∧iR h F h' F:=by
 obtain⟨Fa,Fb,rfl,⟨rfl,-⟩,HX,hd⟩:=H
 refine⟨⟨_,Fb,rfl,⟨rfl,B⟩,g.upd HX u (λx hx hm=>?_),hd⟩,⟨u.mono λx hx=>.inl ?_,λx hx=>.inl hx⟩⟩
 ·simp only[gZ,kW,or_false] at hm
  rcases hm with rfl|rfl
  ·exact hd _ (by simp) hx
  ·exact hd _ (by simp) hx
 ·simp only[gZ,kW,or_false] at hx
  rcases hx with rfl|rfl<;>simp
theorem aNt{h:PH}{c b:Nat}{s:Ch}{n:Nat}{F:List Nat}{sp cp:Nat}{bv nv:Value}(P:mT c (s.dcells b sp cp bv nv) sp s.st cp s.cl bv nv n h F){k v:Tx}(h1:1≤k.length)(h2:k.length≤16)(h3:v.length≤64)(hr:¬(gQ s.st.now k=none∧4096≤s.st.now.length)){kk:cD}
  (hk:∀h' F',mT c ((s.put k v).dcells b sp cp bv nv) sp (s.put k v).st cp (s.put k v).cl bv nv n h' F'->iR h F h' F'->kk (.int .i64 0) h'):aT PG mY #[pT sp 0,.string (tx k),.string (tx v)] h kk:=by
 obtain⟨Fs,⟨G,S,rfl⟩,hFs,back⟩:=P.fSt
 have es:aB6 s.st k v=({s.st with now:=mZ s.st.now ⟨k,v⟩},0):=by
  unfold aB6
  rw[if_neg (by omega),if_neg hr]
 refine aWo S k v λh5 G5 S5 u5 g5=>?_
 rw[es] at S5 ⊢
 obtain⟨F6,P6,s6⟩:=back (rsA sp {s.st with now:=mZ s.st.now ⟨k,v⟩}) h5 (sp::G5) ⟨G5,S5,rfl⟩ ⟨u5.mono λx hx=>.inl (by simp only[fW] at hx;simp[hx]),λx hx=>by
  rcases gZ.1 hx with rfl|hx
  ·exact .inl (by simp)
  ·rcases g5 x hx with hx|hx
   ·exact .inl (by simp[hx])
   ·exact .inr hx⟩
 exact hk h5 F6 P6 s6
theorem aQl{h:PH}{c b:Nat}{s:Ch}{n:Nat}{F:List Nat}{sp cp:Nat}{bv nv:Value}(P:mT c (s.dcells b sp cp bv nv) sp s.st cp s.cl bv nv n h F){k:Tx}(hr:(gQ s.st.now k).isSome=true){kk:cD}
  (hk:∀h' F',mT c ((s.del k).dcells b sp cp bv nv) sp (s.del k).st cp (s.del k).cl bv nv n h' F'->iR h F h' F'->kk (.int .i64 0) h'):aT PG nP #[pT sp 0,.string (tx k)] h kk:=by
 obtain⟨Fs,⟨G,S,rfl⟩,hFs,back⟩:=P.fSt
 have es:aEp s.st k=({s.st with now:=zM s.st.now k},0):=by
  unfold aEp
  rw[if_neg (λh=>by rw[h] at hr;cases hr)]
 refine aVu S k λh5 G5 S5 u5 g5=>?_
 rw[es] at S5 ⊢
 obtain⟨F6,P6,s6⟩:=back (rsA sp {s.st with now:=zM s.st.now k}) h5 (sp::G5) ⟨G5,S5,rfl⟩ ⟨u5.mono λx hx=>.inl (by simp only[fW] at hx;simp[hx]),λx hx=>by
  rcases gZ.1 hx with rfl|hx
  ·exact .inl (by simp)
  ·rcases g5 x hx with hx|hx
   ·exact .inl (by simp[hx])
   ·exact .inr hx⟩
 exact hk h5 F6 P6 s6
theorem aTq(s:Ch)(d:Tx)(t:Nat):rB s d t=if s.st.height=18446744073709551615 then 12 else if ¬s.seq<18446744073709551615 then 12 else if (kB s d t).right=false then 1 else if ¬aJI s.cl<(t:Int) then 10 else if ¬s.st.now.length+1≤4096 then 2 else 0:=by
 unfold rB pD
 by_cases c0:s.st.height=18446744073709551615
 ·rw[if_pos c0,if_pos c0]
 ·rw[if_neg c0,if_neg c0]
  by_cases c1:s.seq<18446744073709551615<;>cases hr:(kB s d t).right<;>by_cases c2:aJI s.cl<(t:Int)<;>by_cases c3:s.st.now.length+1≤4096<;>simp[yW,c1,hr,c2,c3]
theorem aTs{h:PH}{c b m:Nat}{s:Ch}{n:Nat}{A:List Tx}{K F:List Nat}(H:dT (qY b m A K) (DC c b s n) h F)(w:s.DOk)(hn:n≤10000)(d:Tx)(hd:d.length≤1000000){t:Nat}(ht:t<18446744073709551616){k:cD}
  (hbad:rB s d t≠0->∀h',dT (qY b m A K) (DC c b s n) h' F->iR h F h' F->k (.tuple #[Pk.v default,.int .i64 (rB s d t)]) h')
  (hok:rB s d t=0->∀h' F',dT (qY b m (oX (kB s d t)++A) K) (DC c b (s.sent (kB s d t)) (n+1)) h' F'->iR h F h' F'->k (.tuple #[(kB s d t).v,.int .i64 0]) h'):
  aT PG yT #[pT c 0,.string (tx d),.int .u64 (t:Int)] h k:=by
 apply oG.call
 unfold oG
 have gW:kN (dT (qY b m A K) (DC c b s n)):=(qY.good _ _ _ _).star (DC.good _ _ _ _)
 obtain⟨Fb,Fd,eF,⟨efb,HB⟩,Hd,hdis⟩:=id H
 obtain⟨sp,cp,bv,nv,P⟩:=id Hd
 obtain⟨hs,R⟩:=w.rk
 have hlat:=aNu R
 have hsq:=w.seq
 intro r1 hr1
 try rw[cZ]
 have u1:dC h (h.set r1 (.cells (dP PG aR) aR)):=cU.new hr1
 have X1:Bx (h.set r1 (.cells (dP PG aR) aR)) r1 (Pk.cells default):=aR.zbox
 generalize h.set r1 (.cells (dP PG aR) aR)=h1 at *
 have P1:=mT.good.ext P u1
 simp only[cQ.f1,cQ.f4,fL,dl1 P1.cell,dl4 P1.cell,aVW,cE,reduceIte,cT,Nat.reduceAdd]
 have ep:(Pk.v ⟨s.id,(s.seq:Int),(t:Int),tx d⟩)=(kB s d t).v:=rfl
 rw[ep]
 obtain⟨p,hp⟩:∃p,p=kB s d t:=⟨_,rfl⟩
 have pwf:p.wf:=by rw[hp];exact⟨by show(0:Int)≤(s.seq:Int);omega,by show(s.seq:Int)<_;omega,by show(0:Int)≤(t:Int);omega,by show(t:Int)<_;omega⟩
 intro r10 hr10
 try rw[cZ]
 have n110:r1≠r10:=X1.apart hr10
 rw[←hp]
 refine aR.fill (vs:=p.cells) hr10 rfl (Pk.isC _) λh2 X2 u2=>?_
 have e2:=u1.trans u2
 have P2:=mT.good.ext P e2
 have Y2:=X1.ext u2
 have W2:=gW.ext H e2
 have nr1:r1∉F:=λhm=>gW.known H _ hm hr1
 have lp:∀{h':PH},dC h2 h'->cG PG h' (loadAt aR (pT r10 0))=some p.v:=λu=>(X2.ext u).pk rfl
 obtain⟨Fs2,⟨G2,S2,-⟩,-,-⟩:=P2.fSt
 -- what is refused
 have no:∀{h3:PH} (e:Int),dC h2 h3->rB s d t=e->e≠0->dZ (cV PG (build aR #[])) λv40=>cW PG (dJ aR (pT r1 0) v40) h3 λv41 h42=>dZ (cG PG h42 (loadAt aR (pT r1 0))) λv43=>k (Value.tuple #[v43,(Value.int IntKind.i64 e)]) h42:=fun {h3} e u3 he hne=>by
  simp only[Pk.zb,cE,reduceIte,cT,Nat.reduceAdd]
  refine aR.put (Y2.ext u3) (o:=0) (vs:=Pk.cells default) rfl (by show 0+4≤4;decide) (Pk.isC _) λh4 Y4 u4=>?_
  have Y4:Bx h4 r1 (Pk.cells default):=Y4
  have l4:cG PG h4 (loadAt aR (pT r1 0))=some (Pk.v default):=Y4.pk rfl
  simp only[l4,cE,reduceIte,cT,Nat.reduceAdd]
  have:=hbad (by rw[he];exact hne) h4 (gW.upd (gW.ext W2 u3) u4 (λx hx=>by simp only[fW];rintro rfl;exact nr1 hx)) ⟨((e2.trans u3).upd (F:=F)).then u4 (λx hx=>by simp only[fW] at hx;subst hx;exact .inr hr1),λx hx=>.inl hx⟩
  rw[he] at this
  exact this
 have hse:=aTq s d t
 simp only[cQ.f2,fL,dl2 P2.cell,cE,reduceIte,cT,Nat.reduceAdd]
 refine aCl S2 ?_
 by_cases c0:s.st.height=18446744073709551615
 ·have q:((s.st.height:Int)==18446744073709551615)=true:=by rw[c0];rfl
  rw[if_pos c0] at hse
  simp only[hE,q,cE,reduceIte,cT,Nat.reduceAdd]
  have:=no 12 cU.refl hse (by decide)
  try simp only[cE,reduceIte,cT,Nat.reduceAdd] at this
  exact this
 have q:((s.st.height:Int)==18446744073709551615)=false:=by rw[beq_eq_false_iff_ne];omega
 rw[if_neg c0] at hse
 by_cases c1:s.seq<18446744073709551615
 case neg=>
  have q1:((s.seq:Int)==18446744073709551615)=true:=by rw[beq_iff_eq];omega
  rw[if_pos c1] at hse
  simp only[hE,q,q1,cQ.f4,fL,dl4 P2.cell,cE,reduceIte,cT,Nat.reduceAdd]
  have:=no 12 cU.refl hse (by decide)
  try simp only[cE,reduceIte,cT,Nat.reduceAdd] at this
  exact this
 have q1:((s.seq:Int)==18446744073709551615)=false:=by rw[beq_eq_false_iff_ne];omega
 rw[if_neg (by simpa using c1)] at hse
 simp only[hE,q,q1,cQ.f4,fL,dl4 P2.cell,lp cU.refl,cE,reduceIte,cT,Nat.reduceAdd]
 refine aHP p pwf.1 pwf.2.2.1 λh3 u3=>?_
 have P3:=mT.good.ext P2 u3
 rw[←hp] at hse
 cases hr:p.right with
 | false=>
  rw[if_pos hr] at hse
  simp only[cE,reduceIte,cT,Nat.reduceAdd]
  have:=no 1 u3 hse (by decide)
  try simp only[cE,reduceIte,cT,Nat.reduceAdd] at this
  exact this
 | true=>
  rw[if_neg (by rw[hr];decide)] at hse
  obtain⟨Fc,KR,-,-⟩:=P3.fCl
  simp only[cQ.f3,fL,dl3 P3.cell,cE,reduceIte,cT,Nat.reduceAdd]
  refine aR6 KR (by have:=w.few;omega) R (λy hy=>(w.pos y hy).1) ?_
  by_cases c2:aJI s.cl<(t:Int)
  case neg=>
   have q2:((t:Int)≤aJq hs)=True:=eq_true (by rw[←hlat];omega)
   rw[if_pos c2] at hse
   simp only[q2,cE,reduceIte,cT,Nat.reduceAdd]
   have:=no 10 u3 hse (by decide)
   try simp only[cE,reduceIte,cT,Nat.reduceAdd] at this
   exact this
  have q2:((t:Int)≤aJq hs)=False:=eq_false (by rw[←hlat];omega)
  rw[if_neg (by simpa using c2)] at hse
  simp only[q2,cE,reduceIte,cT,Nat.reduceAdd]
  refine aPe (s:=s) (n:=n) (b:=b) ⟨sp,cp,bv,nv,P3⟩ 1 (by decide) ?_
  by_cases c3:s.st.now.length+1≤4096
  case neg=>
   have q3:=decide_eq_false c3
   rw[if_pos c3] at hse
   simp only[q3,cE,reduceIte,cT,Nat.reduceAdd]
   have:=no 2 u3 hse (by decide)
   try simp only[cE,reduceIte,cT,Nat.reduceAdd] at this
   exact this
  have q3:=decide_eq_true c3
  rw[if_neg (by simpa using c3)] at hse
  have hok:=hok hse
  rw[←hp] at hok
  have ls:∀{h':PH},dC h2 h'->cG PG h' (loadAt cA (pT r10 1))=some (.int .u64 (s.seq:Int)):=λu=>by rw[cA.load,(X2.ext u).cell,hp];rfl
  have q99:({data:=#[99]}:ByteArray)=tx [99]:=rfl
  simp only[q3,cQ.f0,cQ.f2,aR.f1,fL,dl0 P3.cell,dl2 P3.cell,ls u3,lp u3,q99,cE,reduceIte,cT,Nat.reduceAdd]
  refine aAB (c:=99) (n:=s.seq) (by omega) λh4 u4=>?_
  have u34:=u3.trans u4
  have P4:=mT.good.ext P3 u4
  refine⟨lp u34,dl0 P4.cell,dl2 P4.cell,?_⟩
  refine aJ3 (HB.ext (e2.trans u34)) pwf λh5 B5 u5=>?_
  obtain⟨W5,s5⟩:=aGp (DC.good _ _ _ _) (gW.ext W2 u34) B5 u5
  have offd:∀x∈Fd,x∉[b,m]:=λx hx hm=>by
   subst efb
   simp only[gZ,kW,or_false] at hm
   rcases hm with rfl|rfl
   ·exact hdis _ (by simp) hx
   ·exact hdis _ (by simp) hx
  have P5:=mT.good.upd P4 u5 offd
  have n10:r10∉F:=λhm=>gW.known (gW.ext H u1) _ hm hr10
  have n10b:r10∉[b,m]:=λhm=>by
   simp only[gZ,kW,or_false] at hm
   rcases hm with rfl|rfl
   ·exact HB.known _ (by simp) (u1.none hr10)
   ·exact HB.known _ (by simp) (u1.none hr10)
  have n1b:r1∉[b,m]:=λhm=>by
   simp only[gZ,kW,or_false] at hm
   rcases hm with rfl|rfl
   ·exact HB.known _ (by simp) hr1
   ·exact HB.known _ (by simp) hr1
  have X5:=(X2.ext u34).upd u5 n10b
  have Y5:=(Y2.ext u34).upd u5 n1b
  refine⟨dl2 P5.cell,?_⟩
  -- the chain alone
  obtain⟨Fb5,Fd5,eF5,⟨efb5,B5'⟩,Hd5,hdis5⟩:=id W5
  have hFd5:Fd5=Fd:=by
   rw[eF,efb,efb5] at eF5
   exact(List.append_cancel_left eF5).symm
  subst hFd5
  have nX:r10∉Fd5:=λhm=>n10 (by rw[eF];simp[hm])
  have nY:r1∉Fd5:=λhm=>nr1 (by rw[eF];simp[hm])
  refine aNt P5 (by rw[wB];decide) (by rw[wB];decide) (aKy _) (λhh=>by omega) λh6 F6 P6 s6=>?_
  obtain⟨X6,nX6⟩:=xE X5 nX s6
  obtain⟨Y6,nY6⟩:=xE Y5 nY s6
  have w1:IntKind.u64.wrap ((s.seq:Int)+1)=((s.seq+1:Nat):Int):=by rw[gG (by omega) (by omega)];omega
  have l4:cG PG h6 (loadAt cA (pT c 4))=some (.int .u64 (s.seq:Int)):=dl4 P6.cell
  simp only[cQ.f4,fL,l4,w1,cE,reduceIte,cT,Nat.reduceAdd]
  obtain⟨Fx,⟨rfl,X⟩,hFx,back⟩:=P6.fBox
  refine cA.put X (o:=4) (by show 4<7;decide) rfl λh7 X7 u7=>?_
  have X7:Bx h7 c (((s.put (gH 99 s.seq) (nR p)).next).dcells b sp cp bv nv):=X7
  obtain⟨F7,P7,s7⟩:=back (pM c (((s.put (gH 99 s.seq) (nR p)).next).dcells b sp cp bv nv)) h7 [c] ⟨rfl,X7⟩ ⟨u7,λx hx=>.inl hx⟩
  obtain⟨Z7,nZ7⟩:=xE X6 nX6 s7
  obtain⟨Y7,nY7⟩:=xE Y6 nY6 s7
  have l7:cG PG h7 (loadAt aR (pT r10 0))=some p.v:=Z7.pk rfl
  simp only[l7,cE,reduceIte,cT,Nat.reduceAdd]
  refine aJr (s:=(s.put (gH 99 s.seq) (nR p)).next) (n:=n) (b:=b) ⟨sp,cp,bv,nv,P7⟩ hn 1 p λh8 F8 P8 s8=>?_
  obtain⟨Z8,nZ8⟩:=xE Z7 nZ7 s8
  obtain⟨Y8,nY8⟩:=xE Y7 nY7 s8
  have l8:cG PG h8 (loadAt aR (pT r10 0))=some p.v:=Z8.pk rfl
  simp only[l8,cE,reduceIte,cT,Nat.reduceAdd]
  have sD:iR h5 Fd5 h8 F8:=(s6.trans s7).trans s8
  have B8:Bk b m (oX p++A) K h8:=B5'.upd sD.upd (λx hx hm=>hdis5 x (by rw[efb5];exact hx) hm)
  have W8:dT (qY b m (oX p++A) K) (DC c b (s.sent p) (n+1)) h8 ((b::m::K)++F8):=dT.mk ⟨rfl,B8⟩ P8 (λx hx hx8=>by
   rcases sD.grow x hx8 with hh|hh
   ·exact hdis5 x (by rw[efb5];exact hx) hh
   ·exact B5'.known x hx hh)
  have sW:iR h F h8 ((b::m::K)++F8):=((iR.ext (F:=F) (e2.trans u34)).trans s5).trans ⟨sD.upd.mono λx hx=>.inl (by rw[eF];simp[hx]),λx hx=>by
   rcases jJ.1 hx with hx|hx
   ·exact .inl (by rw[eF,efb];simp only[jJ];exact .inl hx)
   ·rcases sD.grow x hx with hh|hh
    ·exact .inl (by rw[eF];simp[hh])
    ·exact .inr hh⟩
  have n8:r1∉(b::m::K)++F8:=λhm=>by
   rcases jJ.1 hm with hm|hm
   ·exact HB.known _ hm hr1
   ·exact nY8 hm
  refine aR.put Y8 (o:=0) (vs:=p.cells) rfl (by show 0+4≤4;decide) (Pk.isC _) λh9 Y9 u9=>?_
  have Y9:Bx h9 r1 p.cells:=Y9
  have l9:cG PG h9 (loadAt aR (pT r1 0))=some p.v:=Y9.pk rfl
  simp only[l9,cE,reduceIte,cT,Nat.reduceAdd]
  refine hok h9 _ (((qY.good _ _ _ _).star (DC.good _ _ _ _)).upd W8 u9 (λx hx=>by simp only[fW];rintro rfl;exact n8 hx)) ⟨sW.upd.then u9 (λx hx=>by simp only[fW] at hx;subst hx;exact .inr hr1),λx hx=>sW.grow x hx⟩
end Go.Proofs.YtcoajnpchhmgjaaGreatDoor
namespace Go.Proofs.YtcoajnpchhmgjaaGreatDoor
open Go Bld
structure aHJ(h:PH)(a b:Nat)(s:St)(K:List Nat):Prop where
 here:∃F G,tR h a s F∧vF h b s G∧(∀x∈F,x∉b::G)∧K=F++b::G
theorem aHJ.upd{h h':PH}{a b:Nat}{s:St}{K J:List Nat}(H:aHJ h a b s K)(u:cU J h h')(hd:∀x∈K,x∉J):aHJ h' a b s K:=by
 obtain⟨F,G,h1,h2,h3,rfl⟩:=H.here
 exact⟨F,G,h1.upd u (λx hx=>hd x (by simp[hx])),h2.upd u (hd b (by simp)) (λg hg=>hd g (by simp[hg])),h3,rfl⟩
theorem aHJ.ext{h h':PH}{a b:Nat}{s:St}{K:List Nat}(H:aHJ h a b s K)(u:dC h h'):aHJ h' a b s K:=H.upd u (by simp)
theorem aHJ.known{h:PH}{a b:Nat}{s:St}{K:List Nat}(H:aHJ h a b s K):∀x∈K,h x≠none:=by
 obtain⟨F,G,h1,h2,h3,rfl⟩:=H.here
 intro x hx
 rcases jJ.1 hx with hx|hx
 ·exact h1.known x hx
 ·exact h2.known x hx
theorem aHJ.st{h:PH}{a b:Nat}{s:St}{K:List Nat}(H:aHJ h a b s K):∃F,tR h a s F∧∀x∈F,x∈K:=by
 obtain⟨F,G,h1,h2,h3,rfl⟩:=H.here
 exact⟨F,h1,λx hx=>by simp[hx]⟩
theorem aQN{h:PH}{b:Nat}{s:St}{G:List Nat}(H:vF h b s G)(key:Tx){k:cD}(hk:k (.tuple #[.string (tx (((gQ s.now key).map Pr.v).getD [])),.bool (gQ s.now key).isSome]) h):
  aT PG tQ #[pT b 0,.string (tx key)] h k:=by
 apply wR.call
 unfold wR
 obtain⟨A,M,B,c⟩:=H.ok.up.cut key
 have hg:=c.get H.ok.up
 refine aNm H c ?_
 have hok:=H.ok
 obtain⟨nv,bv,bl,h1,h2,h3,h4,h5,h6,h7,h8,h9⟩:=H.here
 rcases c.mid with e|⟨q,e,e2⟩
 ·subst e
  have:gQ s.now key=none:=by
   cases hx:gQ s.now key with
   | none=>rfl
   | some y=>rw[hx] at hg;simp at hg
  rw[this] at hk
  simp only[ne_eq,not_true_eq_false,cE,reduceIte]
  exact hk
 ·subst e
  have hgs:gQ s.now key=some q:=(uM hok.up).2 ⟨by rw[c.eq];simp,e2⟩
  rw[hgs] at hk
  have c0:dD h ⟨b,0,none⟩=some nv:=by simp[dD,h1]
  have hq:s.now[A.length]? =some q:=by rw[c.eq];simp
  obtain⟨bb,o,p1,-,p3,-⟩:=h2.pair hq
  simp only[ne_eq,List.cons_ne_nil,not_false_eq_true,dK.f0,cJ.load,c0,p1,cM.f1,bR.load,p3,cE,reduceIte]
  exact hk
theorem aSt{h:PH}{b:Nat}{s:St}{G:List Nat}(H:vF h b s G)(x:Nat)(hx:x<18446744073709551616){k:cD}(hn:qD s x=none->k (.tuple #[.slice none 0 0,.int .i64 3]) h)
  (hk:∀l v,qD s x=some l->fY h 2 v (l.map Pr.cells)->aCx v G->k (.tuple #[v,.int .i64 0]) h):aT PG uN #[pT b 0,.int .u64 (x:Int)] h k:=by
 apply pO.call
 unfold pO
 have hok:=H.ok
 have hok1:=hok.h1
 have hok2:=hok.h2
 have hok3:=hok.h3
 have hok4:=hok.h4
 have hnone:=aMW hok1 (x:=x)
 have H0:=H
 obtain⟨nv,bv,bl,h1,h2,h3,h4,h5,h6,h7,h8,h9⟩:=H.here
 have c1:dD h ⟨b,0+1,none⟩=some (.int .u64 ((s.height-(s.blocks.length-1):Nat):Int)):=by simp[dD,h1]
 have c2:dD h ⟨b,0+2,none⟩=some bv:=by simp[dD,h1]
 by_cases d1:x<s.height-(s.blocks.length-1)
 ·have g1:((x:Int)<((s.height-(s.blocks.length-1):Nat):Int))=True:=eq_true (by omega)
  simp only[dK.f1,cA.load,c1,g1,aMR,aKr,cE,reduceIte]
  exact hn (hnone.2 (by omega))
 have g1:((x:Int)<((s.height-(s.blocks.length-1):Nat):Int))=False:=eq_false (by omega)
 simp only[dK.f1,cA.load,c1,g1,cE,reduceIte]
 refine aCl H0 ?_
 by_cases d2:s.height<x
 ·have g2:((s.height:Int)<(x:Int))=True:=eq_true (by omega)
  simp only[g2,cE,reduceIte]
  exact hn (hnone.2 (by omega))
 have g2:((s.height:Int)<(x:Int))=False:=eq_false (by omega)
 have hs:∃l,qD s x=some l:=by
  cases e:qD s x with
  | none=>have:=hnone.1 e;omega
  | some l=>exact⟨l,rfl⟩
 obtain⟨l,hl⟩:=hs
 obtain⟨-,hidx⟩:=aJo hl
 have hi:s.blocks.length-1-(s.height-x)=x-(s.height-(s.blocks.length-1)):=by omega
 have w1:IntKind.u64.wrap ((x:Int)-((s.height-(s.blocks.length-1):Nat):Int))=((x-(s.height-(s.blocks.length-1)):Nat):Int):=by rw[gG (by omega) (by omega)];omega
 rw[hi] at hidx
 generalize x-(s.height-(s.blocks.length-1))=j at *
 rw[←h5,sC] at hidx
 obtain⟨⟨v,l'⟩,hy,e⟩:=Option.map_eq_some_iff.1 hidx
 simp only at e
 subst e
 have hmem:=sH hy
 obtain⟨pa,p1,p2⟩:=h3.loadCell (t:=fI) (k:=.u64) (j:=(j:Int)) (x:=v) fI.und cJ.info cJ.size cJ.und rfl (by omega) (by rw[qQ,sC,hy];rfl)
 simp only[g2,dK.f1,dK.f2,cA.load,fI.load,c1,c2,w1,p1,p2,cE,reduceIte]
 exact hk _ v hl (h4 _ hmem).1 (h4 _ hmem).2
theorem aSi{h:PH}{b:Nat}{s:St}{G:List Nat}(H:vF h b s G){bk m:Nat}{A:List Tx}{c:Bool}{K:List Nat}(B:vG h bk m A c K)(hd:∀x∈G,x≠bk∧x≠m)(x:Nat)(hx:x<18446744073709551616){k:cD}(hn:qD s x=none->k (.tuple #[.string (tx []),.int .i64 3]) h)
  (hk:∀l h' c',qD s x=some l->vG h' bk m (rQ l++A) c' K->(c=true->c'=true)->cU [bk,m] h h'->k (.tuple #[.string (tx (jX l)),.int .i64 0]) h'):aT PG yO #[pT b 0,pT bk 0,.int .u64 (x:Int)] h k:=by
 apply vP.call
 unfold vP
 refine aSt H x hx (λhs=>?_) (λl v hs S hv=>?_)
 ·simp only[show((3:Int) !=0)=true from rfl,cE,reduceIte]
  exact hn hs
 ·simp only[show((0:Int) !=0)=false from rfl,bne_self_eq_false,cE,reduceIte]
  have hb:=H.ok.blk l (by
   obtain⟨-,h2⟩:=aJo hs
   exact sH h2)
  refine aQI B (by omega) S (λa n c e=>by
   have:=hd _ (hv a n c e)
   simp[this]) (λp hp=>by have:=hb.2.1 p hp;unfold aNc at this;omega) λh' c' B' hc u=>?_
  exact hk l h' c' hs B' hc u
end Go.Proofs.YtcoajnpchhmgjaaGreatDoor
namespace Go.Proofs.YtcoajnpchhmgjaaGreatDoor
open Go
theorem aEc{b m:Nat}{A:List Tx}{K:List Nat}{X:kG}{h:PH}{F:List Nat}(H:dT (qY b m A K) X h F):∃Fd,X h Fd∧Bk b m A K h∧F=(b::m::K)++Fd∧∀x∈b::m::K,x∉Fd:=by
 obtain⟨Fa,Fb,rfl,⟨rfl,B⟩,HX,hd⟩:=H
 exact⟨Fb,HX,B,rfl,hd⟩
theorem aGo{b m:Nat}{A:List Tx}{K:List Nat}{X':kG}{h h':PH}{Fd Fd':List Nat}(B:Bk b m A K h)(hd:∀x∈b::m::K,x∉Fd)(HX:X' h' Fd')(s:iR h Fd h' Fd'):dT (qY b m A K) X' h' ((b::m::K)++Fd')∧iR h ((b::m::K)++Fd) h' ((b::m::K)++Fd'):=by
 refine⟨dT.mk ⟨rfl,B.upd s.upd (λx hx hm=>hd x hx hm)⟩ HX (λx hx hx8=>?_),⟨s.upd.mono λx hx=>.inl (by simp[hx]),λx hx=>?_⟩⟩
 ·rcases s.grow x hx8 with hh|hh
  ·exact hd x hx hh
  ·exact B.known x hx hh
 ·rcases jJ.1 hx with hx|hx
  ·exact .inl (zLj _ hx)
  ·rcases s.grow x hx with hh|hh
   ·exact .inl (zLk _ hh)
   ·exact .inr hh
theorem qY.mono{b m:Nat}{A B:List Tx}{K:List Nat}{X:kG}{h:PH}{F:List Nat}(H:dT (qY b m A K) X h F)(hs:∀a∈B,a∈A):dT (qY b m B K) X h F:=by
 obtain⟨Fa,Fb,rfl,⟨rfl,B'⟩,HX,hd⟩:=H
 exact⟨_,Fb,rfl,⟨rfl,B'.mono hs⟩,HX,hd⟩
theorem aLV{b m:Nat}{K Fd:List Nat}(hd:∀x∈b::m::K,x∉Fd):∀x∈Fd,x∉[b,m]:=λx hx hm=>by
 simp only[gZ,kW,or_false] at hm
 rcases hm with rfl|rfl
 ·exact hd _ (by simp) hx
 ·exact hd _ (by simp) hx
theorem aYh{s:Ch}(w:s.DOk){p:Pk}(hr:p.right=true):(p.f==1-s.id)=!(p.f==s.id):=by
 obtain⟨h1,h2,-⟩:=Pk.right_iff.1 hr
 have:=w.id
 rw[zLl]
 simp only[beq_iff_eq,Bool.not_eq_true',beq_eq_false_iff_ne,ne_eq]
 omega
noncomputable def aIy(s:Ch)(p:Pk)(pf:Tx)(x:Int):Int:=pD s (pW s p pf x)
theorem aVC(s:Ch)(p:Pk)(pf:Tx)(x:Int):aIy s p pf x=if s.st.height=18446744073709551615 then 12 else if (p.right&&(p.f==1-s.id))=false then 1 else if ¬IntKind.u64.wrap ((s.st.height:Int)+1)<p.t then 10 else if (gQ s.st.now (gH 114 p.s.toNat)).isSome=true then 4 else if (kJ s.cl x).isSome=false then 11 else if aAU (oL s.cl x) pf (gH 99 p.s.toNat) (nR p)=false then 9 else if ¬s.st.now.length+2≤4096 then 2 else 0:=by
 unfold aIy pD pW
 by_cases c0:s.st.height=18446744073709551615
 ·rw[if_pos c0,if_pos c0]
 ·rw[if_neg c0,if_neg c0]
  generalize (p.right&&(p.f==1-s.id))=b1
  generalize aAU (oL s.cl x) pf (gH 99 p.s.toNat) (nR p)=b2
  generalize (kJ s.cl x).isSome=b3
  generalize (gQ s.st.now (gH 114 p.s.toNat)).isSome=b4
  by_cases c2:IntKind.u64.wrap ((s.st.height:Int)+1)<p.t<;>by_cases c3:s.st.now.length+2≤4096<;>cases b1<;>cases b2<;>cases b3<;>cases b4<;>simp[yW,c2,c3]
theorem aMT(l:List hZ)(x:Int):(kJ l x).getD ⟨#[]⟩=tx (oL l x):=by
 unfold oL
 exact(aID _).symm
theorem aUH{h:PH}{c b m:Nat}{s:Ch}{n:Nat}{A:List Tx}{K F:List Nat}(H:dT (qY b m A K) (DC c b s n) h F)(w:s.DOk)(hn:n≤10000){p:Pk}(pw:p.wf){pf:Tx}(hpf:pf.length≤1000000){x:Nat}(hx:x<18446744073709551616){k:cD}
  (hbad:aIy s p pf (x:Int)≠0->∀h',dT (qY b m A K) (DC c b s n) h' F->iR h F h' F->k (.int .i64 (aIy s p pf (x:Int))) h')
  (hok:aIy s p pf (x:Int)=0->∀h' F',dT (qY b m ((aFa p++(aF8 pf++oX p))++A) K) (DC c b (s.received p) (n+1)) h' F'->iR h F h' F'->k (.int .i64 0) h'):
  aT PG yR #[pT c 0,p.v,.string (tx pf),.int .u64 (x:Int)] h k:=by
 apply oH.call
 unfold oH
 have gX:∀s n,kN (DC c b s n):=λ_ _=>DC.good _ _ _ _
 have gW:kN (dT (qY b m A K) (DC c b s n)):=(qY.good _ _ _ _).star (gX _ _)
 obtain⟨Fd,Hd,HB,eF,hdis⟩:=aEc H
 subst eF
 obtain⟨sp,cp,bv,nv,P⟩:=id Hd
 have offd:=aLV hdis
 obtain⟨q,hq⟩:=zLm pw.1
 have hq2:q<18446744073709551616:=by have:=pw.2.1;omega
 have hqn:p.s.toNat=q:=by omega
 intro r1 hr1
 try rw[cZ]
 have u1:dC h (h.set r1 (.cells (Value.cells p.v) aR)):=cU.new hr1
 have X1:Bx (h.set r1 (.cells (Value.cells p.v) aR)) r1 p.cells:=Bx.new
 generalize h.set r1 (.cells (Value.cells p.v) aR)=h1 at *
 have P1:=mT.good.ext P u1
 have lp:∀{h':PH},dC h1 h'->cG PG h' (loadAt aR (pT r1 0))=some p.v:=λu=>(X1.ext u).pk rfl
 have lf:∀{h':PH},dC h1 h'->cG PG h' (loadAt bT (pT r1 0))=some (.int .i64 p.f):=λu=>by rw[bT.load,(X1.ext u).cell];rfl
 have ls:∀{h':PH},Bx h' r1 p.cells->cG PG h' (loadAt cA (pT r1 1))=some (.int .u64 (q:Int)):=λX=>by rw[cA.load,X.cell,←hq];rfl
 have lt:∀{h':PH},dC h1 h'->cG PG h' (loadAt cA (pT r1 2))=some (.int .u64 p.t):=λu=>by rw[cA.load,(X1.ext u).cell];rfl
 have no:∀{h3:PH} (e:Int),dC h1 h3->aIy s p pf (x:Int)=e->e≠0->k (.int .i64 e) h3:=fun {h3} e u3 he hne=>by
  have:=hbad (by rw[he];exact hne) h3 (gW.ext H (u1.trans u3)) (iR.ext (u1.trans u3))
  rw[he] at this
  exact this
 have hse:=aVC s p pf (x:Int)
 obtain⟨Fs1,⟨G1,S1,-⟩,-,-⟩:=P1.fSt
 simp only[cQ.f2,fL,dl2 P1.cell,cE,reduceIte,cT,Nat.reduceAdd]
 refine aCl S1 ?_
 by_cases c0:s.st.height=18446744073709551615
 ·have q0:((s.st.height:Int)==18446744073709551615)=true:=by rw[c0];rfl
  rw[if_pos c0] at hse
  simp only[hE,q0,cE,reduceIte,cT,Nat.reduceAdd]
  exact no 12 cU.refl hse (by decide)
 have q0:((s.st.height:Int)==18446744073709551615)=false:=by rw[beq_eq_false_iff_ne];omega
 rw[if_neg c0] at hse
 simp only[hE,q0,lp cU.refl,cE,reduceIte,cT,Nat.reduceAdd]
 refine aHP p pw.1 pw.2.2.1 λh2 u2=>?_
 have P2:=mT.good.ext P1 u2
 cases hr:p.right with
 | false=>
  rw[hr,wO,if_pos rfl] at hse
  simp only[cE,reduceIte,cT,Nat.reduceAdd]
  exact no 1 u2 hse (by decide)
 | true=>
  rw[hr,zLo,aYh w hr] at hse
  cases hf:p.f==s.id with
  | true=>
   rw[hf,Bool.not_true,if_pos rfl] at hse
   simp only[aR.f0,cQ.f1,fL,lf u2,dl1 P2.cell,hE,hf,cE,reduceIte,cT,Nat.reduceAdd]
   exact no 1 u2 hse (by decide)
  | false=>
   rw[hf,Bool.not_false,if_neg (by decide)] at hse
   obtain⟨Fs2,⟨G2,S2,-⟩,-,-⟩:=P2.fSt
   simp only[aR.f0,aR.f2,cQ.f1,cQ.f2,fL,lf u2,lt u2,dl1 P2.cell,dl2 P2.cell,hE,hf,cE,reduceIte,cT,Nat.reduceAdd]
   refine aCl S2 ?_
   refine⟨lt u2,?_⟩
   by_cases c2:IntKind.u64.wrap ((s.st.height:Int)+1)<p.t
   case neg=>
    have g:(p.t≤IntKind.u64.wrap ((s.st.height:Int)+1))=True:=eq_true (by omega)
    rw[if_pos c2] at hse
    simp only[g,cE,reduceIte,cT,Nat.reduceAdd]
    exact no 10 u2 hse (by decide)
   have g:(p.t≤IntKind.u64.wrap ((s.st.height:Int)+1))=False:=eq_false (by omega)
   rw[if_neg (by simpa using c2)] at hse
   have q114:({data:=#[114]}:ByteArray)=tx [114]:=rfl
   have q99:({data:=#[99]}:ByteArray)=tx [99]:=rfl
   have q97:({data:=#[97]}:ByteArray)=tx [97]:=rfl
   simp only[g,cQ.f2,aR.f1,fL,dl2 P2.cell,ls (X1.ext u2),q114,cE,reduceIte,cT,Nat.reduceAdd]
   refine aAB (c:=114) (n:=q) hq2 λh3 u3=>?_
   have u13:=u2.trans u3
   have P3:=mT.good.ext P2 u3
   obtain⟨Fs3,⟨G3,S3,-⟩,-,-⟩:=P3.fSt
   refine⟨dl2 P3.cell,?_⟩
   refine aQN S3 _ ?_
   rw[hqn] at hse
   cases hg:(gQ s.st.now (gH 114 q)).isSome with
   | true=>
    rw[hg,if_pos rfl] at hse
    simp only[cE,reduceIte,cT,Nat.reduceAdd]
    exact no 4 u13 hse (by decide)
   | false=>
    rw[hg,if_neg (by decide)] at hse
    obtain⟨Fc,KR,-,-⟩:=P3.fCl
    simp only[cQ.f3,fL,dl3 P3.cell,cE,reduceIte,cT,Nat.reduceAdd]
    refine aKN KR (by have:=w.few;omega) (x:Int) ?_
    rw[aMT]
    cases hro:(kJ s.cl (x:Int)).isSome with
    | false=>
     rw[hro,if_pos rfl] at hse
     simp only[cE,reduceIte,cT,Nat.reduceAdd]
     exact no 11 u13 hse (by decide)
    | true=>
     rw[hro,if_neg (by decide)] at hse
     simp only[cQ.f0,aR.f1,fL,dl0 P3.cell,ls (X1.ext u13),lp u13,q99,cE,reduceIte,cT,Nat.reduceAdd]
     refine aAB (c:=99) (n:=q) hq2 λh4 u4=>?_
     have u14:=u13.trans u4
     have P4:=mT.good.ext P3 u4
     refine⟨lp u14,dl0 P4.cell,dl0 P4.cell,?_⟩
     refine aJ3 (HB.ext (u1.trans u14)) pw λh5 B5 u5=>?_
     have P5:=mT.good.upd P4 u5 offd
     refine⟨dl0 P5.cell,?_⟩
     refine aQ4 B5 (by omega) λh6 B6 u6=>?_
     have P6:=mT.good.upd P5 u6 offd
     have u46:cU [b,m] h4 h6:=u5.trans u6
     have B6':Bk b m ((aF8 pf++oX p)++A) K h6:=B6.mono λa ha=>by
      simp only[jJ] at ha ⊢
      rcases ha with(ha|ha)|ha
      ·exact .inl ha
      ·exact .inr (.inl ha)
      ·exact .inr (.inr ha)
     obtain⟨W6,s6⟩:=aGp (gX s n) (gW.ext H (u1.trans u14)) B6' u46
     have sh6:=(iR.ext (F:=(b::m::K)++Fd) (u1.trans u14)).trans s6
     have n1b:r1∉[b,m]:=(eP.one hr1).off (HB.known b (by simp)) (HB.known m (by simp)) r1 (by simp)
     have X6:=(X1.ext u14).upd u46 n1b
     have nX:r1∉Fd:=λhm=>(gX s n).known Hd _ hm hr1
     have no2:∀(e:Int),aIy s p pf (x:Int)=e->e≠0->k (.int .i64 e) h6:=λe he hne=>by
      have:=hbad (by rw[he];exact hne) h6 (qY.mono W6 λa ha=>by simp[ha]) sh6
      rw[he] at this
      exact this
     cases hh:aAU (oL s.cl (x:Int)) pf (gH 99 q) (nR p) with
     | false=>
      rw[hh,if_pos rfl] at hse
      simp only[cE,reduceIte,cT,Nat.reduceAdd]
      exact no2 9 hse (by decide)
     | true=>
      rw[hh,if_neg (by decide)] at hse
      simp only[cE,reduceIte,cT,Nat.reduceAdd]
      refine aPe (s:=s) (n:=n) (b:=b) ⟨sp,cp,bv,nv,P6⟩ 2 (by decide) ?_
      by_cases c3:s.st.now.length+2≤4096
      case neg=>
       have q3:=decide_eq_false c3
       rw[if_pos c3] at hse
       simp only[q3,cE,reduceIte,cT,Nat.reduceAdd]
       exact no2 2 hse (by decide)
      have q3:=decide_eq_true c3
      rw[if_neg (by simpa using c3)] at hse
      have hok:=hok hse
      simp only[q3,cQ.f2,aR.f1,fL,dl2 P6.cell,ls X6,q114,cE,reduceIte,cT,Nat.reduceAdd]
      refine aAB (c:=114) (n:=q) hq2 λh7 u7=>?_
      have P7:=mT.good.ext P6 u7
      refine⟨dl2 P7.cell,?_⟩
      have t1:({data:=#[1]}:ByteArray)=tx [1]:=rfl
      rw[t1]
      refine aNt P7 (by rw[wB];decide) (by rw[wB];decide) (by decide) (λhh=>by omega) λh8 F8 P8 s8=>?_
      obtain⟨X8,nX8⟩:=xE (X6.ext u7) nX s8
      have l8:cG PG h8 (loadAt aR (pT r1 0))=some p.v:=X8.pk rfl
      -- the book's turn
      obtain⟨W8,sW8⟩:=aGo (X':=DC c b (s.put (gH 114 q) [1]) n) (B6'.ext u7) hdis ⟨sp,cp,bv,nv,P8⟩ s8
      obtain⟨F8',Hd8,B8,eF8,hdis8⟩:=aEc W8
      have eF8':F8'=F8:=(List.append_cancel_left eF8).symm
      subst eF8'
      have hfit:(mZ s.st.now ⟨gH 114 q,[1]⟩).length≤s.st.now.length+1:=by
       unfold mZ
       rw[jE,tT]
       have hpar:∀L:List Pr,(L.filter λq'=>decide (q'.k<gH 114 q)).length+(L.filter λq'=>decide (gH 114 q<q'.k)).length≤L.length:=λL=>by
        induction L with
        | nil=>simp
        | cons y L ih=>
         simp only[List.filter_cons]
         by_cases c1:y.k<gH 114 q
         ·have c2:¬gH 114 q<y.k:=List.lt_asymm c1
          simp only[c1,c2,decide_true,decide_false,if_true,zLr,if_false,tT];omega
         ·by_cases c2:gH 114 q<y.k
          ·simp only[c1,c2,decide_true,decide_false,if_true,zLr,if_false,tT];omega
          ·simp only[c1,c2,decide_false,zLr,if_false,tT];omega
       have:=hpar s.st.now
       show(s.st.now.filter λq'=>decide (q'.k<gH 114 q)).length+((s.st.now.filter λq'=>decide (gH 114 q<q'.k)).length+1)≤_
       omega
      simp only[cQ.f0,cQ.f2,aR.f1,fL,dl2 P8.cell,dl0 P8.cell,ls X8,l8,q97,cE,reduceIte,cT,Nat.reduceAdd]
      refine aAB (c:=97) (n:=q) hq2 λh9 u9=>?_
      have P9:=mT.good.ext P8 u9
      have X9:=X8.ext u9
      have l9:cG PG h9 (loadAt aR (pT r1 0))=some p.v:=X9.pk rfl
      refine⟨l9,dl0 P9.cell,dl2 P9.cell,?_⟩
      refine aNZ (B8.ext u9) pw λh10 B10 u10=>?_
      have P10:=mT.good.upd P9 u10 (aLV hdis8)
      obtain⟨W10,s10⟩:=aGp (gX _ n) (((qY.good _ _ _ _).star (gX _ n)).ext W8 u9) B10 u10
      have X10:=X9.upd u10 n1b
      refine⟨dl2 P10.cell,?_⟩
      refine aNt (s:=s.put (gH 114 q) [1]) P10 (by rw[wB];decide) (by rw[wB];decide) (aPU _) (λhh=>?_) λh11 F11 P11 s11=>?_
      ·have h2:4096≤(mZ s.st.now ⟨gH 114 q,[1]⟩).length:=hh.2
       omega
      obtain⟨X11,nX11⟩:=xE X10 nX8 s11
      have l11:cG PG h11 (loadAt aR (pT r1 0))=some p.v:=X11.pk rfl
      simp only[l11,cE,reduceIte,cT,Nat.reduceAdd]
      refine aJr (s:=(s.put (gH 114 q) [1]).put (gH 97 q) (aAq p)) (n:=n) (b:=b) ⟨sp,cp,bv,nv,P11⟩ hn 2 p λh12 F12 P12 s12=>?_
      have hdis10:=hdis8
      obtain⟨W12,sW12⟩:=aGo (X':=DC c b (s.received p) (n+1)) B10 hdis10 (by
       unfold Ch.received
       rw[hqn]
       exact P12) (s11.trans s12)
      refine hok h12 _ (qY.mono W12 λa ha=>?_) ?_
      ·simp only[jJ] at ha ⊢
       rcases ha with(ha|ha|ha)|ha
       ·exact .inl ha
       ·exact .inr (.inl (.inl ha))
       ·exact .inr (.inl (.inr ha))
       ·exact .inr (.inr ha)
      ·exact(((sh6.trans (iR.ext u7)).trans sW8).trans (iR.ext u9)).trans (s10.trans sW12)
noncomputable def aDC(s:Ch)(p:Pk):Int:=pD s [(1,p.right&&(p.f==s.id)),(3,uK s p)]
theorem aQH(s:Ch)(p:Pk):aDC s p=if s.st.height=18446744073709551615 then 12 else if (p.right&&(p.f==s.id))=false then 1 else if uK s p=false then 3 else 0:=by
 unfold aDC pD
 by_cases c0:s.st.height=18446744073709551615
 ·rw[if_pos c0,if_pos c0]
 ·rw[if_neg c0,if_neg c0]
  generalize (p.right&&(p.f==s.id))=b1
  generalize uK s p=b2
  cases b1<;>cases b2<;>simp[yW]
theorem aNR(s:Ch)(p:Pk)(l:List (Int×Bool)):jF s p l=if aDC s p=0 then yW l else aDC s p:=by
 unfold jF aDC pD
 by_cases c0:s.st.height=18446744073709551615
 ·rw[if_pos c0,if_pos c0];rfl
 ·rw[if_neg c0,if_neg c0]
  generalize (p.right&&(p.f==s.id))=b1
  generalize uK s p=b2
  cases b1<;>cases b2<;>simp[yW]
theorem aPg{h:PH}{c b m:Nat}{s:Ch}{n:Nat}{A:List Tx}{K F:List Nat}{sp cp:Nat}{bv nv:Value}(HB:Bk b m A K h)(P:mT c (s.dcells b sp cp bv nv) sp s.st cp s.cl bv nv n h F){p:Pk}(pw:p.wf){k:cD}
  (hk:∀h',Bk b m ((if aDC s p=0 then oX p else [])++A) K h'->cU [b,m] h h'->k (.int .i64 (aDC s p)) h'):
  aT PG rR #[pT c 0,p.v] h k:=by
 apply oD.call
 unfold oD
 obtain⟨q,hq⟩:=zLm pw.1
 have hq2:q<18446744073709551616:=by have:=pw.2.1;omega
 have hqn:p.s.toNat=q:=by omega
 intro r1 hr1
 try rw[cZ]
 have u1:dC h (h.set r1 (.cells (Value.cells p.v) aR)):=cU.new hr1
 have X1:Bx (h.set r1 (.cells (Value.cells p.v) aR)) r1 p.cells:=Bx.new
 generalize h.set r1 (.cells (Value.cells p.v) aR)=h1 at *
 have P1:=mT.good.ext P u1
 have lp:∀{h':PH},dC h1 h'->cG PG h' (loadAt aR (pT r1 0))=some p.v:=λu=>(X1.ext u).pk rfl
 have lf:∀{h':PH},dC h1 h'->cG PG h' (loadAt bT (pT r1 0))=some (.int .i64 p.f):=λu=>by rw[bT.load,(X1.ext u).cell];rfl
 have ls:∀{h':PH},dC h1 h'->cG PG h' (loadAt cA (pT r1 1))=some (.int .u64 (q:Int)):=λu=>by rw[cA.load,(X1.ext u).cell,←hq];rfl
 have hse:=aQH s p
 have no:∀{h3:PH} (e:Int),dC h1 h3->aDC s p=e->e≠0->k (.int .i64 e) h3:=fun {h3} e u3 he hne=>by
  have:=hk h3 (by rw[if_neg (by rw[he];exact hne)];exact HB.ext (u1.trans u3)) (u1.trans u3).upd
  rw[he] at this
  exact this
 obtain⟨Fs1,⟨G1,S1,-⟩,-,-⟩:=P1.fSt
 simp only[cQ.f2,fL,dl2 P1.cell,cE,reduceIte,cT,Nat.reduceAdd]
 refine aCl S1 ?_
 by_cases c0:s.st.height=18446744073709551615
 ·have q0:((s.st.height:Int)==18446744073709551615)=true:=by rw[c0];rfl
  rw[if_pos c0] at hse
  simp only[hE,q0,cE,reduceIte,cT,Nat.reduceAdd]
  exact no 12 cU.refl hse (by decide)
 have q0:((s.st.height:Int)==18446744073709551615)=false:=by rw[beq_eq_false_iff_ne];omega
 rw[if_neg c0] at hse
 simp only[hE,q0,lp cU.refl,cE,reduceIte,cT,Nat.reduceAdd]
 refine aHP p pw.1 pw.2.2.1 λh2 u2=>?_
 have P2:=mT.good.ext P1 u2
 cases hr:p.right with
 | false=>
  rw[hr,wO,if_pos rfl] at hse
  simp only[cE,reduceIte,cT,Nat.reduceAdd]
  exact no 1 u2 hse (by decide)
 | true=>
  rw[hr,zLo] at hse
  cases hf:p.f==s.id with
  | false=>
   rw[hf,if_pos rfl] at hse
   have hf':(p.f !=s.id)=true:=by rw[bne,hf];rfl
   simp only[aR.f0,cQ.f1,fL,lf u2,dl1 P2.cell,kU,hf',cE,reduceIte,cT,Nat.reduceAdd]
   exact no 1 u2 hse (by decide)
  | true=>
   rw[hf,if_neg (by decide)] at hse
   have hf':(p.f !=s.id)=false:=by rw[bne,hf];rfl
   have q99:({data:=#[99]}:ByteArray)=tx [99]:=rfl
   simp only[aR.f0,aR.f1,cQ.f1,cQ.f2,fL,lf u2,ls u2,dl1 P2.cell,dl2 P2.cell,kU,hf',q99,cE,reduceIte,cT,Nat.reduceAdd]
   refine aAB (c:=99) (n:=q) hq2 λh3 u3=>?_
   have u13:=u2.trans u3
   have P3:=mT.good.ext P2 u3
   obtain⟨Fs3,⟨G3,S3,-⟩,-,-⟩:=P3.fSt
   refine⟨dl2 P3.cell,?_⟩
   refine aQN S3 _ ?_
   have hsp:uK s p=match gQ s.st.now (gH 99 q) with|some y=>decide (y.v=nR p)|none=>false:=by unfold uK;rw[hqn];rfl
   cases hg:gQ s.st.now (gH 99 q) with
   | none=>
    rw[hg] at hsp
    rw[hsp,if_pos rfl] at hse
    simp only[zLs,cE,reduceIte,cT,Nat.reduceAdd]
    exact no 3 u13 hse (by decide)
   | some y=>
    rw[hg] at hsp
    simp only[Option.isSome_some,aGS,aGn,cQ.f0,fL,dl0 P3.cell,lp u13,cE,reduceIte,cT,Nat.reduceAdd]
    refine aJ3 (HB.ext (u1.trans u13)) pw λh4 B4 u4=>?_
    have hu:cU [b,m] h h4:=(u1.trans u13).upd.trans u4
    by_cases he:y.v=nR p
    ·have hsp':uK s p=true:=by rw[hsp];exact decide_eq_true he
     rw[hsp',if_neg (by decide)] at hse
     have d1:(!decide (y.v=nR p))=false:=by rw[decide_eq_true he];rfl
     simp only[aEu,d1,cE,reduceIte,cT,Nat.reduceAdd]
     have:=hk h4 (by rw[if_pos hse];exact B4) hu
     rw[hse] at this
     exact this
    ·have hsp':uK s p=false:=by rw[hsp];exact decide_eq_false he
     rw[hsp',if_pos rfl] at hse
     have d1:(!decide (y.v=nR p))=true:=by rw[decide_eq_false he];rfl
     simp only[aEu,d1,cE,reduceIte,cT,Nat.reduceAdd]
     have:=hk h4 (by rw[if_neg (by rw[hse];decide)];exact B4.mono λa ha=>zLk _ ha) hu
     rw[hse] at this
     exact this
theorem aY6(s:Ch)(p:Pk)(pf:Tx)(x:Int):yW (xH s p pf x)=if (kJ s.cl x).isSome=false then 11 else if aAU (oL s.cl x) pf (gH 97 p.s.toNat) (aAq p)=false then 9 else 0:=by
 unfold xH
 generalize (kJ s.cl x).isSome=b1
 generalize aAU (oL s.cl x) pf (gH 97 p.s.toNat) (aAq p)=b2
 cases b1<;>cases b2<;>simp[yW]
theorem aYS(s:Ch)(p:Pk)(pf:Tx)(x:Int):yW (qL s p pf x)=if (kJ s.cl x).isSome=false then 11 else if ¬IntKind.u64.wrap (p.t-1)≤x then 11 else if aAO (oL s.cl x) pf (gH 114 p.s.toNat)=false then 9 else 0:=by
 unfold qL
 generalize (kJ s.cl x).isSome=b1
 generalize aAO (oL s.cl x) pf (gH 114 p.s.toNat)=b2
 by_cases c:IntKind.u64.wrap (p.t-1)≤x<;>cases b1<;>cases b2<;>simp[yW,c]
theorem aOQ{s:Ch}{p:Pk}(h:uK s p=true):(gQ s.st.now (gH 99 p.s.toNat)).isSome=true:=by
 unfold uK at h
 cases hg:gQ s.st.now (gH 99 p.s.toNat) with
 | none=>rw[hg] at h;cases h
 | some y=>rfl
theorem aOR{s:Ch}{p:Pk}(h:aDC s p=0):uK s p=true∧p.right=true∧p.f=s.id:=by
 rw[aQH] at h
 split at h
 ·simp at h
 ·split at h
  ·simp at h
  ·rename_i h1
   split at h
   ·simp at h
   ·rename_i h2
    simp only[Bool.not_eq_false,wP,beq_iff_eq] at h1 h2
    exact⟨h2,h1⟩
theorem aWh{h:PH}{c b m:Nat}{s:Ch}{n:Nat}{A:List Tx}{K F:List Nat}(H:dT (qY b m A K) (DC c b s n) h F)(w:s.DOk)(hn:n≤10000){p:Pk}(pw:p.wf){pf:Tx}(hpf:pf.length≤1000000){x:Nat}(hx:x<18446744073709551616){k:cD}
  (hbad:jF s p (xH s p pf (x:Int))≠0->∀h',dT (qY b m A K) (DC c b s n) h' F->iR h F h' F->k (.int .i64 (jF s p (xH s p pf (x:Int)))) h')
  (hok:jF s p (xH s p pf (x:Int))=0->∀h' F',dT (qY b m ((aF8 pf++(aFa p++oX p))++A) K) (DC c b (s.settled 3 p) (n+1)) h' F'->iR h F h' F'->k (.int .i64 0) h'):
  aT PG zN #[pT c 0,p.v,.string (tx pf),.int .u64 (x:Int)] h k:=by
 apply pA.call
 unfold pA
 have gX:∀s n,kN (DC c b s n):=λ_ _=>DC.good _ _ _ _
 have gW:kN (dT (qY b m A K) (DC c b s n)):=(qY.good _ _ _ _).star (gX _ _)
 obtain⟨Fd,Hd,HB,eF,hdis⟩:=aEc H
 subst eF
 obtain⟨sp,cp,bv,nv,P⟩:=id Hd
 have offd:=aLV hdis
 obtain⟨q,hq⟩:=zLm pw.1
 have hq2:q<18446744073709551616:=by have:=pw.2.1;omega
 have hqn:p.s.toNat=q:=by omega
 intro r1 hr1
 try rw[cZ]
 have u1:dC h (h.set r1 (.cells (Value.cells p.v) aR)):=cU.new hr1
 have X1:Bx (h.set r1 (.cells (Value.cells p.v) aR)) r1 p.cells:=Bx.new
 generalize h.set r1 (.cells (Value.cells p.v) aR)=h1 at *
 have P1:=mT.good.ext P u1
 have n1b:r1∉[b,m]:=(eP.one hr1).off (HB.known b (by simp)) (HB.known m (by simp)) r1 (by simp)
 have nX:r1∉Fd:=λhm=>(gX s n).known Hd _ hm hr1
 have lp:∀{h':PH},Bx h' r1 p.cells->cG PG h' (loadAt aR (pT r1 0))=some p.v:=λX=>X.pk rfl
 have ls:∀{h':PH},Bx h' r1 p.cells->cG PG h' (loadAt cA (pT r1 1))=some (.int .u64 (q:Int)):=λX=>by rw[cA.load,X.cell,←hq];rfl
 have hse:=aNR s p (xH s p pf (x:Int))
 have stepOf:∀{h3:PH} {A':List Tx},Bk b m A' K h3->cU [b,m] h1 h3->(∀a∈A,a∈A')->dT (qY b m A K) (DC c b s n) h3 ((b::m::K)++Fd)∧iR h ((b::m::K)++Fd) h3 ((b::m::K)++Fd):=fun {h3 A'} B3 u3 hs=>by
  obtain⟨W3,s3⟩:=aGp (gX s n) (gW.ext H u1) B3 u3
  exact⟨qY.mono W3 hs,(iR.ext u1).trans s3⟩
 have no:∀{h3:PH} {A':List Tx} (e:Int),Bk b m A' K h3->cU [b,m] h1 h3->(∀a∈A,a∈A')->jF s p (xH s p pf (x:Int))=e->e≠0->k (.int .i64 e) h3:=fun {h3 A'} e B3 u3 hs he hne=>by
  obtain⟨W3,s3⟩:=stepOf B3 u3 hs
  have:=hbad (by rw[he];exact hne) h3 W3 s3
  rw[he] at this
  exact this
 simp only[lp X1,cE,reduceIte,cT,Nat.reduceAdd]
 refine aPg (s:=s) (n:=n) (HB.ext u1) P1 pw λh2 B2 u2=>?_
 have P2:=mT.good.upd P1 u2 offd
 have X2:=X1.upd u2 n1b
 by_cases hm:aDC s p=0
 case neg=>
  have q0:(aDC s p !=0)=true:=by rw[bne_iff_ne];exact hm
  rw[if_neg hm] at hse
  simp only[kU,q0,cE,reduceIte,cT,Nat.reduceAdd]
  exact no _ B2 u2 (λa ha=>zLk _ ha) hse hm
 have q0:(aDC s p !=0)=false:=by rw[hm];rfl
 rw[if_pos hm] at B2 hse
 rw[aY6,hqn] at hse
 obtain⟨Fc,KR,-,-⟩:=P2.fCl
 simp only[kU,q0,cQ.f3,fL,dl3 P2.cell,cE,reduceIte,cT,Nat.reduceAdd]
 refine aKN KR (by have:=w.few;omega) (x:Int) ?_
 rw[aMT]
 cases hro:(kJ s.cl (x:Int)).isSome with
 | false=>
  rw[hro,if_pos rfl] at hse
  simp only[cE,reduceIte,cT,Nat.reduceAdd]
  exact no 11 B2 u2 (λa ha=>zLk _ ha) hse (by decide)
 | true=>
  rw[hro,if_neg (by decide)] at hse
  have q97:({data:=#[97]}:ByteArray)=tx [97]:=rfl
  have q99:({data:=#[99]}:ByteArray)=tx [99]:=rfl
  simp only[cQ.f0,aR.f1,fL,dl0 P2.cell,ls X2,lp X2,q97,cE,reduceIte,cT,Nat.reduceAdd]
  refine aAB (c:=97) (n:=q) hq2 λh4 u4=>?_
  have P4:=mT.good.ext P2 u4
  have X4:=X2.ext u4
  refine⟨lp X4,dl0 P4.cell,dl0 P4.cell,?_⟩
  refine aNZ (B2.ext u4) pw λh5 B5 u5=>?_
  have P5:=mT.good.upd P4 u5 offd
  refine⟨dl0 P5.cell,?_⟩
  refine aQ4 B5 (by omega) λh6 B6 u6=>?_
  have P6:=mT.good.upd P5 u6 offd
  have u16:cU [b,m] h1 h6:=((u2.trans u4.upd).trans u5).trans u6
  have X6:Bx h6 r1 p.cells:=X1.upd u16 n1b
  have hsub:∀a∈A,a∈aF8 pf++(aFa p++(oX p++A)):=λa ha=>by simp[ha]
  cases hh:aAU (oL s.cl (x:Int)) pf (gH 97 q) (aAq p) with
  | false=>
   rw[hh,if_pos rfl] at hse
   simp only[cE,reduceIte,cT,Nat.reduceAdd]
   exact no 9 B6 u16 hsub hse (by decide)
  | true=>
   rw[hh,if_neg (by decide)] at hse
   have hok:=hok hse
   obtain⟨-,sh6⟩:=stepOf B6 u16 hsub
   simp only[cQ.f2,aR.f1,fL,dl2 P6.cell,ls X6,q99,cE,reduceIte,cT,Nat.reduceAdd]
   refine aAB (c:=99) (n:=q) hq2 λh7 u7=>?_
   have P7:=mT.good.ext P6 u7
   refine⟨dl2 P7.cell,?_⟩
   refine aQl P7 (by have:=aOQ (aOR hm).1;rw[hqn] at this;exact this) λh8 F8 P8 s8=>?_
   obtain⟨X8,nX8⟩:=xE (X6.ext u7) nX s8
   simp only[lp X8,cE,reduceIte,cT,Nat.reduceAdd]
   refine aJr (s:=s.del (gH 99 q)) (n:=n) (b:=b) ⟨sp,cp,bv,nv,P8⟩ hn 3 p λh9 F9 P9 s9=>?_
   obtain⟨W9,sW9⟩:=aGo (X':=DC c b (s.settled 3 p) (n+1)) (B6.ext u7) hdis (by
    unfold Ch.settled
    rw[hqn]
    exact P9) (s8.trans s9)
   refine hok h9 _ (qY.mono W9 λa ha=>?_) ((sh6.trans (iR.ext u7)).trans sW9)
   simp only[jJ] at ha ⊢
   rcases ha with(ha|ha|ha)|ha
   ·exact .inl ha
   ·exact .inr (.inl ha)
   ·exact .inr (.inr (.inl ha))
   ·exact .inr (.inr (.inr ha))
theorem aQa{h:PH}{c b m:Nat}{s:Ch}{n:Nat}{A:List Tx}{K F:List Nat}(H:dT (qY b m A K) (DC c b s n) h F)(w:s.DOk)(hn:n≤10000){p:Pk}(pw:p.wf){pf:Tx}(hpf:pf.length≤1000000){x:Nat}(hx:x<18446744073709551616){k:cD}
  (hbad:jF s p (qL s p pf (x:Int))≠0->∀h',dT (qY b m A K) (DC c b s n) h' F->iR h F h' F->k (.int .i64 (jF s p (qL s p pf (x:Int)))) h')
  (hok:jF s p (qL s p pf (x:Int))=0->∀h' F',dT (qY b m ((aH1 pf (gH 114 p.s.toNat)++oX p)++A) K) (DC c b (s.settled 4 p) (n+1)) h' F'->iR h F h' F'->k (.int .i64 0) h'):
  aT PG vB #[pT c 0,p.v,.string (tx pf),.int .u64 (x:Int)] h k:=by
 apply mR.call
 unfold mR
 have gX:∀s n,kN (DC c b s n):=λ_ _=>DC.good _ _ _ _
 have gW:kN (dT (qY b m A K) (DC c b s n)):=(qY.good _ _ _ _).star (gX _ _)
 obtain⟨Fd,Hd,HB,eF,hdis⟩:=aEc H
 subst eF
 obtain⟨sp,cp,bv,nv,P⟩:=id Hd
 have offd:=aLV hdis
 obtain⟨q,hq⟩:=zLm pw.1
 have hq2:q<18446744073709551616:=by have:=pw.2.1;omega
 have hqn:p.s.toNat=q:=by omega
 intro r1 hr1
 try rw[cZ]
 have u1:dC h (h.set r1 (.cells (Value.cells p.v) aR)):=cU.new hr1
 have X1:Bx (h.set r1 (.cells (Value.cells p.v) aR)) r1 p.cells:=Bx.new
 generalize h.set r1 (.cells (Value.cells p.v) aR)=h1 at *
 have P1:=mT.good.ext P u1
 have n1b:r1∉[b,m]:=(eP.one hr1).off (HB.known b (by simp)) (HB.known m (by simp)) r1 (by simp)
 have nX:r1∉Fd:=λhm=>(gX s n).known Hd _ hm hr1
 have lp:∀{h':PH},Bx h' r1 p.cells->cG PG h' (loadAt aR (pT r1 0))=some p.v:=λX=>X.pk rfl
 have ls:∀{h':PH},Bx h' r1 p.cells->cG PG h' (loadAt cA (pT r1 1))=some (.int .u64 (q:Int)):=λX=>by rw[cA.load,X.cell,←hq];rfl
 have lt:∀{h':PH},Bx h' r1 p.cells->cG PG h' (loadAt cA (pT r1 2))=some (.int .u64 p.t):=λX=>by rw[cA.load,X.cell];rfl
 have hse:=aNR s p (qL s p pf (x:Int))
 have stepOf:∀{h3:PH} {A':List Tx},Bk b m A' K h3->cU [b,m] h1 h3->(∀a∈A,a∈A')->dT (qY b m A K) (DC c b s n) h3 ((b::m::K)++Fd)∧iR h ((b::m::K)++Fd) h3 ((b::m::K)++Fd):=fun {h3 A'} B3 u3 hs=>by
  obtain⟨W3,s3⟩:=aGp (gX s n) (gW.ext H u1) B3 u3
  exact⟨qY.mono W3 hs,(iR.ext u1).trans s3⟩
 have no:∀{h3:PH} {A':List Tx} (e:Int),Bk b m A' K h3->cU [b,m] h1 h3->(∀a∈A,a∈A')->jF s p (qL s p pf (x:Int))=e->e≠0->k (.int .i64 e) h3:=fun {h3 A'} e B3 u3 hs he hne=>by
  obtain⟨W3,s3⟩:=stepOf B3 u3 hs
  have:=hbad (by rw[he];exact hne) h3 W3 s3
  rw[he] at this
  exact this
 simp only[lp X1,cE,reduceIte,cT,Nat.reduceAdd]
 refine aPg (s:=s) (n:=n) (HB.ext u1) P1 pw λh2 B2 u2=>?_
 have P2:=mT.good.upd P1 u2 offd
 have X2:=X1.upd u2 n1b
 by_cases hm:aDC s p=0
 case neg=>
  have q0:(aDC s p !=0)=true:=by rw[bne_iff_ne];exact hm
  rw[if_neg hm] at hse
  simp only[kU,q0,cE,reduceIte,cT,Nat.reduceAdd]
  exact no _ B2 u2 (λa ha=>zLk _ ha) hse hm
 have q0:(aDC s p !=0)=false:=by rw[hm];rfl
 rw[if_pos hm] at B2 hse
 rw[aYS,hqn] at hse
 rw[hqn] at hok
 obtain⟨Fc,KR,-,-⟩:=P2.fCl
 simp only[kU,q0,cQ.f3,fL,dl3 P2.cell,cE,reduceIte,cT,Nat.reduceAdd]
 refine aKN KR (by have:=w.few;omega) (x:Int) ?_
 rw[aMT]
 cases hro:(kJ s.cl (x:Int)).isSome with
 | false=>
  rw[hro,if_pos rfl] at hse
  simp only[cE,reduceIte,cT,Nat.reduceAdd]
  exact no 11 B2 u2 (λa ha=>zLk _ ha) hse (by decide)
 | true=>
  rw[hro,if_neg (by decide)] at hse
  by_cases c2:IntKind.u64.wrap (p.t-1)≤(x:Int)
  case neg=>
   have g:((x:Int)<IntKind.u64.wrap (p.t-1))=True:=eq_true (by omega)
   rw[if_pos c2] at hse
   simp only[aR.f2,fL,lt X2,g,cE,reduceIte,cT,Nat.reduceAdd]
   exact no 11 B2 u2 (λa ha=>zLk _ ha) hse (by decide)
  have g:((x:Int)<IntKind.u64.wrap (p.t-1))=False:=eq_false (by omega)
  rw[if_neg (by simpa using c2)] at hse
  have q114:({data:=#[114]}:ByteArray)=tx [114]:=rfl
  have q99:({data:=#[99]}:ByteArray)=tx [99]:=rfl
  simp only[aR.f1,aR.f2,cQ.f0,fL,lt X2,g,dl0 P2.cell,ls X2,q114,cE,reduceIte,cT,Nat.reduceAdd]
  refine aAB (c:=114) (n:=q) hq2 λh4 u4=>?_
  have P4:=mT.good.ext P2 u4
  refine⟨dl0 P4.cell,?_⟩
  refine aTZ (B2.ext u4) (by omega) λh6 B6 u6=>?_
  have P6:=mT.good.upd P4 u6 offd
  have u16:cU [b,m] h1 h6:=(u2.trans u4.upd).trans u6
  have X6:Bx h6 r1 p.cells:=X1.upd u16 n1b
  have hsub:∀a∈A,a∈aH1 pf (gH 114 q)++(oX p++A):=λa ha=>by simp[ha]
  cases hh:aAO (oL s.cl (x:Int)) pf (gH 114 q) with
  | false=>
   rw[hh,if_pos rfl] at hse
   simp only[cE,reduceIte,cT,Nat.reduceAdd]
   exact no 9 B6 u16 hsub hse (by decide)
  | true=>
   rw[hh,if_neg (by decide)] at hse
   have hok:=hok hse
   obtain⟨-,sh6⟩:=stepOf B6 u16 hsub
   simp only[cQ.f2,aR.f1,fL,dl2 P6.cell,ls X6,q99,cE,reduceIte,cT,Nat.reduceAdd]
   refine aAB (c:=99) (n:=q) hq2 λh7 u7=>?_
   have P7:=mT.good.ext P6 u7
   refine⟨dl2 P7.cell,?_⟩
   refine aQl P7 (by have:=aOQ (aOR hm).1;rw[hqn] at this;exact this) λh8 F8 P8 s8=>?_
   obtain⟨X8,nX8⟩:=xE (X6.ext u7) nX s8
   simp only[lp X8,cE,reduceIte,cT,Nat.reduceAdd]
   refine aJr (s:=s.del (gH 99 q)) (n:=n) (b:=b) ⟨sp,cp,bv,nv,P8⟩ hn 4 p λh9 F9 P9 s9=>?_
   obtain⟨W9,sW9⟩:=aGo (X':=DC c b (s.settled 4 p) (n+1)) (B6.ext u7) hdis (by
    unfold Ch.settled
    rw[hqn]
    exact P9) (s8.trans s9)
   refine hok h9 _ (qY.mono W9 λa ha=>?_) ((sh6.trans (iR.ext u7)).trans sW9)
   simp only[jJ] at ha ⊢
   rcases ha with(ha|ha)|ha
   ·exact .inl ha
   ·exact .inr (.inl ha)
   ·exact .inr (.inr ha)
theorem aXB:jS PG (buildSlice eH 0 #[])=some (.cells #[] dB,λr=>pure (.slice (some ⟨r,0,none⟩) 0 0)):=by kernel_rfl
theorem aUG:Rows 1 ([]:List (List Value)):=λr hr=>by cases hr
theorem aP2(v:Value):Rows 1 [[v]]:=λr hr=>by simp only[fW] at hr;subst hr;rfl
theorem aUb{h:PH}{c b:Nat}{s:Ch}{n:Nat}{F:List Nat}(H:DC c b s n h F)(hn:n≤10000){kk:cD}
  (hk:∀h' F',DC c b s.committed (n+1) h' F'->iR h F h' F'->kk (.tuple #[.int .u64 ((jO s.st).2.1:Int),.int .i64 (jO s.st).2.2]) h'):aT PG wM #[pT c 0] h kk:=by
 apply mX.call
 unfold mX vE
 obtain⟨sp,cp,bv,nv,P⟩:=H
 simp only[cQ.f2,fL,dl2 P.cell,cE,reduceIte,cT,Nat.reduceAdd]
 obtain⟨Fs,⟨G,S,rfl⟩,hFs,back⟩:=P.fSt
 refine aWS S λh1 G1 S1 u1 g1=>?_
 obtain⟨F2,P2,s2⟩:=back (rsA sp (jO s.st).1) h1 (sp::G1) ⟨G1,S1,rfl⟩ ⟨u1.mono λx hx=>.inl (by simp only[fW] at hx;simp[hx]),λx hx=>by
  rcases gZ.1 hx with rfl|hx
  ·exact .inl (by simp)
  ·rcases g1 x hx with hx|hx
   ·exact .inl (by simp[hx])
   ·exact .inr hx⟩
 unfold Ch.committed at hk
 by_cases he:(jO s.st).2.2=0
 case neg=>
  have q:((jO s.st).2.2==0)=false:=by simpa using he
  rw[if_neg he] at hk
  simp only[hE,q,cE,reduceIte,cT,Nat.reduceAdd]
  refine hk h1 F2 (DC.mono (n:=n) ⟨sp,cp,bv,nv,?_⟩ (yN n)) s2
  rw[aBc he] at P2
  exact P2
 have q:((jO s.st).2.2==0)=true:=by simpa using he
 rw[if_pos he] at hk
 have P2:mT c (s.dcells b sp cp bv nv) sp (jO s.st).1 cp s.cl bv nv n h1 F2:=P2
 obtain⟨Ft,⟨Fb,Fn,rfl,⟨rows,Ob,lb,cb⟩,⟨ns,On,ln⟩,hd⟩,hFt,back2⟩:=P2.fTwo
 obtain⟨na,nc,env,-⟩:=On.slR.here
 rw[jC] at env
 simp only[hE,q,cQ.f5,cQ.f6,fL,dl5 P2.cell,dl6 P2.cell,aXB,cE,reduceIte,cT,Nat.reduceAdd]
 intro r15 hr15
 refine fT ?_
 try rw[cZ]
 have u3:dC h1 (h1.set r15 (.cells #[] dB)):=cU.new hr15
 have O3:eS (h1.set r15 (.cells #[] dB)) dB 1 (.slice (some ⟨r15,0,none⟩) 0 0) ([]:List (List Value)) [r15]:=eS.lit (n:=0) aUG dL (by simp) (by decide) rfl
 have P3:=mT.good.ext P2 u3
 generalize h1.set r15 (.cells #[] dB)=h3 at *
 refine jL eH.und eH.und dB.info dB.size dB.bytes dB.zero rfl (by decide) O3 (Ob.ext u3).slR cb (by simp only[zLK];omega) ?_
 intro v4 h4 F4 O4 u4 k4 _
 rw[wN] at O4
 have e14:dC h1 h4:=u3.fresh u4 (eP.one hr15)
 have f4:eP h1 F4:=λx hx=>by
  rcases k4 x hx with hx|hx
  ·simp only[fW] at hx;subst hx;exact hr15
  ·exact u3.none hx
 have P4:=mT.good.ext P2 e14
 refine⟨dl6 P4.cell,?_⟩
 rw[env]
 simp only[aRF,cE,reduceIte,cT,Nat.reduceAdd]
 rw[←env]
 intro r21 hr21
 refine fT ?_
 try rw[cZ]
 have u5:dC h4 (h4.set r21 (.cells #[nv] dB)):=cU.new hr21
 have s5:fY (h4.set r21 (.cells #[nv] dB)) 1 (.slice (some ⟨r21,0,none⟩) 1 1) [[nv]]:=(eS.lit (n:=1) (aP2 nv) dL (by simp) (by decide) (by simp)).slR
 generalize h4.set r21 (.cells #[nv] dB)=h5 at *
 refine jL eH.und eH.und dB.info dB.size dB.bytes dB.zero rfl (by decide) (O4.ext u5) s5 (λr hr u hu=>by
  simp only[fW] at hr
  subst hr
  simp only[fW] at hu
  subst hu
  exact On.slR.isc) (by simp only[zLQ];omega) ?_
 intro v6 h6 F6 O6 u6 k6 _
 have e16:dC h1 h6:=(e14.trans u5).fresh u6 f4
 have f6:eP h1 F6:=f4.grow (e14.trans u5) k6
 have B6:boA v6 (n+1) h6 F6:=⟨rows++[[nv]],O6,by simp;omega,λr hr u hu=>by
  rcases jJ.1 hr with hr|hr
  ·exact cb r hr u hu
  ·simp only[fW] at hr
   subst hr
   simp only[fW] at hu
   subst hu
   exact On.slR.isc⟩
 have W6:dT (boA v6 (n+1)) (noA nv (n+1)) h6 (F6++Fn):=dT.mk B6 ⟨ns,On.ext e16,by omega⟩ (λx hx hx5=>On.known x hx5 (f6 x hx))
 obtain⟨F7,P7,s7⟩:=back2 _ h6 _ W6 ⟨e16.upd,λx hx=>by
  rcases jJ.1 hx with hx|hx
  ·exact .inr (f6 x hx)
  ·exact .inl (by simp[hx])⟩
 have P7:mT c (s.dcells b sp cp bv nv) sp (jO s.st).1 cp s.cl v6 nv (n+1) h6 F7:=P7
 obtain⟨Fx,⟨rfl,X7⟩,hFx,back3⟩:=P7.fBox
 refine eH.put X7 (o:=5) (by show 5<7;decide) O6.slR.isc λh8 X8 u8=>?_
 have X8:Bx h8 c (s.dcells b sp cp v6 nv):=X8
 refine dB.put X8 (o:=6) (by show 6<7;decide) rfl λh9 X9 u9=>?_
 have X9:Bx h9 c (s.dcells b sp cp v6 (.slice none 0 0)):=X9
 obtain⟨F10,P10,s10⟩:=back3 (pM c (s.dcells b sp cp v6 (.slice none 0 0))) h9 [c] ⟨rfl,X9⟩ ⟨u8.trans u9,λx hx=>.inl hx⟩
 obtain⟨F11,Fr,eF,hx,⟨G1',G2',eG,y1,⟨G3,G4,eG2,y2,⟨G5,G6,eG3,y3,⟨ns',On',ln'⟩,d5⟩,d3⟩,d1⟩,dx⟩:=P10
 refine hk h9 (F11++(G1'++(G3++(G5++[])))) ⟨sp,cp,v6,.slice none 0 0,F11,_,rfl,hx,⟨G1',_,rfl,y1,⟨G3,_,rfl,y2,⟨G5,[],rfl,y3,⟨[],eS.nil,by simp⟩,by simp⟩,?_⟩,?_⟩,?_⟩ ?_
 ·subst eG3
  intro x hx1 hx2
  exact d3 x hx1 (by simp at hx2;simp[hx2])
 ·subst eG2;subst eG3
  intro x hx1 hx2
  exact d1 x hx1 (by simp at hx2;rcases hx2 with hx2|hx2<;>simp[hx2])
 ·subst eG;subst eG2;subst eG3
  intro x hx1 hx2
  exact dx x hx1 (by simp at hx2;rcases hx2 with hx2|hx2|hx2<;>simp[hx2])
 ·have st:=(s2.trans s7).trans s10
  refine⟨st.upd,λx hx=>st.grow x ?_⟩
  rw[eF,eG,eG2,eG3]
  simp at hx ⊢
  rcases hx with hx|hx|hx|hx<;>simp[hx]
theorem aTT{h:PH}{c b m:Nat}{s:Ch}{n:Nat}{A:List Tx}{K F:List Nat}{sp cp:Nat}{bv nv:Value}(HB:Bk b m A K h)(P:mT c (s.dcells b sp cp bv nv) sp s.st cp s.cl bv nv n h F)(offd:∀x∈F,x∉[b,m])(key:Tx){x:Nat}(hx:x<18446744073709551616){kk:cD}
  (hk:∀h',Bk b m A K h'->cU [b,m] h h'->kk (.tuple #[.string (tx (aE6 s.st key x).1),.int .i64 (aE6 s.st key x).2]) h'):aT PG xR #[pT c 0,.string (tx key),.int .u64 (x:Int)] h kk:=by
 apply tY.call
 unfold tY
 have hst:=P.okst
 simp only[cQ.f2,fL,dl2 P.cell,cE,reduceIte,cT,Nat.reduceAdd]
 obtain⟨Fs,⟨G,S,eFs⟩,hFs,-⟩:=P.fSt
 have q0:({data:=#[]}:ByteArray)=tx []:=rfl
 unfold aE6 at hk
 have kb:=HB.known b (by simp)
 have km:=HB.known m (by simp)
 refine aSt S x hx (λe=>?_) (λl v e B1 hv=>?_)
 ·rw[e] at hk
  have q:((3:Int) !=0)=true:=by decide
  simp only[kU,q,q0,cE,reduceIte,cT,Nat.reduceAdd]
  exact hk h HB cU.refl
 ·rw[e] at hk
  simp only at hk
  have M:=hst.mok e
  have ov:Off b m v:=λa n c ev=>offd _ (hFs _ (by rw[eFs];simp[hv a n c ev]))
  simp only[kU,cQ.f0,fL,dl0 P.cell,cE,reduceIte,cT,Nat.reduceAdd]
  -- the end
  have fin:∀{h4:PH} {ab:Bool} {v4:Value} {r:Nat},cU [b,m] h h4->Bk b m A K h4->Bx h4 r [.bool ab,v4]->nJ h h4 v4 (jG l key).lv->ab=(jG l key).ab->(∀h',Bk b m A K h'->cU [b,m] h h'->kk (.tuple #[.string (tx (lB (jG l key)).1),.int .i64 (lB (jG l key)).2]) h')->lZ kk (.int .i64 0) (pT r 0) h4:=by
   intro h4 ab v4 r u4 HB4 B4 L4 eab hk
   unfold lZ
   have l4:cG PG h4 (loadAt cC (pT r 0))=some (Pf.val ab v4):=cC.agg B4 (by show 0+2≤2;decide)
   simp only[kU,l4,cE,reduceIte,cT,Nat.reduceAdd]
   obtain⟨l5,F',el,O,-,L⟩:=L4.here
   have epf:(⟨ab,l5.map (·.1)⟩:Pf)=jG l key:=by rw[el,eab]
   have hpf:=aIv M key
   refine aOf O.slR L.lfs (by
    have:l5.length=(jG l key).lv.length:=by rw[←el];simp
    have:=hpf.1;omega) λh5 u5=>?_
   rw[epf]
   simp only[cE,reduceIte,cT,Nat.reduceAdd]
   exact hk h5 (HB4.ext u5) (u4.trans u5.upd)
  refine aQV HB M B1 ov (λhno h2 HB2 u2=>?_) (λhyes h2 v2 HB2 L2 u2=>?_)
  ·have hns:(gQ l key).isSome=false:=by rw[hno];rfl
   rw[hns] at hk
   simp only[zLr,if_false] at hk
   simp only[cE,reduceIte,cT,Nat.reduceAdd]
   intro r14 hr14
   try rw[cZ]
   have n14:h r14=none:=u2.grow2 (HB2.known b (by simp)) (HB2.known m (by simp)) hr14
   have n14b:r14∉[b,m]:=λhm=>by
    simp only[gZ,kW,or_false] at hm
    rcases hm with rfl|rfl
    ·exact kb n14
    ·exact km n14
   refine cC.fill (vs:=[.bool false,.slice none 0 0]) hr14 rfl (by simp[fK]) λh3 B3 u3=>?_
   have q:((3:Int) !=0)=true:=by decide
   have e3:=u2.trans u3.upd
   have P3:=mT.good.upd P e3 offd
   simp only[kU,q,cQ.f0,fL,dl0 P3.cell,cE,reduceIte,cT,Nat.reduceAdd]
   have B13:=B1.upd e3 (λa n c ev=>ov a n c ev)
   have bad:∀{h4:PH} {e:Int},cU [b,m] h3 h4->Bk b m A K h4->e≠0->(∀h',Bk b m A K h'->cU [b,m] h h'->kk (.tuple #[.string (tx []),.int .i64 e]) h')->cW PG (dJ cC (pT r14 0) (Pf.val false (.slice none 0 0))) h4 λv23 h24=>lZ kk (.int .i64 e) (pT r14 0) h24:=by
    intro h4 e u4 HB4 hne hk
    refine cC.put (vs:=[.bool false,.slice none 0 0]) (B3.upd u4 n14b) (o:=0) rfl (by show 0+2≤2;decide) (by simp[fK]) λh5 B5 u5=>?_
    unfold lZ
    have q:(e !=0)=true:=by simpa using hne
    simp only[kU,q,q0,cE,reduceIte,cT,Nat.reduceAdd]
    refine hk h5 (HB4.upd u5 λy hy hm=>?_) (cU.then (e3.trans u4) u5 (λy hy=>by simp only[fW] at hy;subst hy;exact .inr n14))
    simp only[fW] at hm
    subst hm
    exact HB.known _ hy n14
   refine aR3 (HB2.ext u3) M B13 ov (λhb h4 HB4 u4=>?_) (λ_ hs h4 HB4 u4=>?_) (λhb _ h4 v4 HB4 L4 u4=>?_)
   ·rw[if_neg hb] at hk
    simp only[cE,reduceIte,cT,Nat.reduceAdd]
    exact bad u4 HB4 (by decide) hk
   ·rw[hns] at hs;cases hs
   ·rw[if_pos hb] at hk
    simp only[cE,reduceIte,cT,Nat.reduceAdd]
    refine cC.put (vs:=[.bool true,v4]) (B3.upd u4 n14b) (o:=0) rfl (by show 0+2≤2;decide) (by
     have:=L4.isc
     simp[fK];exact this) λh5 B5 u5=>?_
    have hab:(jG l key).ab=true:=by
     unfold jG
     rw[if_neg (by rw[hns];decide)]
     split
     ·rfl
     ·split
      ·rfl
      ·split<;>rfl
    have L5:nJ h3 h5 v4 (jG l key).lv:=L4.upd u5 (λb hb=>by simp only[fW] at hb;rw[hb];exact B3.known)
    have L5':nJ h h5 v4 (jG l key).lv:=by
     obtain⟨l',F',el,O,f,L⟩:=L5.here
     have HB3:=HB2.ext u3
     refine⟨l',F',el,O,λy hy=>e3.grow2 (HB3.known b (by simp)) (HB3.known m (by simp)) (f y hy),λy hy=>?_⟩
     obtain⟨G',y1,y2,y3⟩:=L y hy
     exact⟨G',y1,λz hz=>e3.grow2 (HB3.known b (by simp)) (HB3.known m (by simp)) (y2 z hz),y3⟩
    refine fin (cU.then (e3.trans u4) u5 (λy hy=>by simp only[fW] at hy;subst hy;exact .inr n14)) (HB4.upd u5 λy hy hm=>?_) B5 L5' hab.symm hk
    simp only[fW] at hm
    subst hm
    exact HB.known _ hy n14
  ·rw[hyes] at hk
   simp only[if_true] at hk
   simp only[cE,reduceIte,cT,Nat.reduceAdd]
   intro r14 hr14
   try rw[cZ]
   refine cC.fill (vs:=[.bool false,v2]) hr14 rfl (by
    have:=L2.isc
    simp[fK];exact this) λh3 B3 u3=>?_
   have epf:jG l key=⟨false,[jW l (gY l key)]⟩:=by unfold jG;rw[if_pos hyes]
   exact fin (u2.trans u3.upd) (HB2.ext u3) B3 (by rw[epf];exact L2.upd u3 (λb hb=>by cases hb)) (by rw[epf]) hk
theorem aL9(p:Pf):(lB p).1.length≤3000:=by
 unfold lB
 split
 ·rename_i h
  obtain⟨h1,h2⟩:=h
  rw[aCD] at h2
  show(aAs p).length≤3000
  have hl:∀l:List Lf,(∀f∈l,f.okb=true)->(lG l).length≤1000*l.length:=λl=>by
   induction l with
   | nil=>intro _;simp[lG]
   | cons f l ih=>
    intro hh
    have a:=aP4 (Lf.ok_iff.1 (hh f (by simp)))
    have b:=ih λy hy=>hh y (by simp[hy])
    simp only[lG,jE,tT]
    omega
  have:=hl p.lv h2
  unfold aAs
  simp only[jE,iF]
  omega
 ·simp
theorem aRZ(s:St)(key:Tx)(x:Nat):(aE6 s key x).1.length≤3000:=by
 unfold aE6
 split
 ·simp
 ·split
  ·exact aL9 _
  ·split
   ·exact aL9 _
   ·simp
theorem aTr(o:Ch){a:kM}(h:a.d.length≤1000000):(kX o a).length≤1000000:=by
 unfold kX
 split
 ·have:=aRZ o.st (aIV a) a.h
  omega
 ·exact h
noncomputable def doA(c o:Ch)(a:kM):List Tx:=
 if a.kind=0 then(if rB c a.d a.h=0 then oX (kB c a.d a.h) else [])
 else if a.kind=1 then(match qD o.st a.h with
  | none=>[]
  | some b=>rQ b)
 else if a.kind=2 then(if pD c (pW c a.p (kX o a) (a.h:Int))=0 then aFa a.p++(aF8 (kX o a)++oX a.p) else [])
 else if a.kind=3 then(if jF c a.p (xH c a.p (kX o a) (a.h:Int))=0 then aF8 (kX o a)++(aFa a.p++oX a.p) else [])
 else if a.kind=4 then(if jF c a.p (qL c a.p (kX o a) (a.h:Int))=0 then aH1 (kX o a) (gH 114 a.p.s.toNat)++oX a.p else [])
 else []
theorem aUL{h:PH}{c b:Nat}{s:Ch}{n:Nat}{F:List Nat}{sp cp:Nat}{bv nv:Value}(P:mT c (s.dcells b sp cp bv nv) sp s.st cp s.cl bv nv n h F)(w:s.cl.length≤4096)(x:Int)(root:Tx){kk:cD}
  (hk:∀h' F',mT c ((s.told x root).dcells b sp cp bv nv) sp (s.told x root).st cp (s.told x root).cl bv nv n h' F'->iR h F h' F'->kk (.int .i64 (yS s.cl ⟨x,tx root⟩).1) h'):aT PG rT #[pT cp 0,.int .u64 x,.string (tx root)] h kk:=by
 obtain⟨Fc,C,hFc,back⟩:=P.fCl
 have ea:cp∈Fc:=by
  obtain⟨v,G,-,-,eF,-⟩:=(C:xL h cp s.cl Fc)
  rw[eF];simp
 refine aVs C w ⟨x,tx root⟩ λh1 F1 C1 u1 g1=>?_
 obtain⟨F2,P2,s2⟩:=back (krA cp (yS s.cl ⟨x,tx root⟩).2) h1 F1 C1 ⟨u1.mono λy hy=>.inl (by
  simp only[fW] at hy
  subst hy
  exact ea),g1⟩
 exact hk h1 F2 P2 s2
theorem aYB{a b:ByteArray}(h:a.data.toList=b.data.toList):a=b:=by
 rw[←aID a,←aID b,h]
theorem Pk.bs_inj{p q:Pk}(hp:p.right=true)(hq:q.right=true)(wp:p.wf)(wq:q.wf)(h:p.bs=q.bs):p=q:=by
 obtain⟨a1,a2,-,-,a5⟩:=Pk.right_iff.1 hp
 obtain⟨b1,b2,-,-,b5⟩:=Pk.right_iff.1 hq
 unfold Pk.bs at h
 obtain⟨h1,h⟩:=List.append_inj h (by rw[iF,iF])
 obtain⟨h2,h⟩:=List.append_inj h (by rw[iF,iF])
 obtain⟨h3,h⟩:=List.append_inj h (by rw[iF,iF])
 obtain⟨h4,h5⟩:=List.append_inj h (by rw[iF,iF])
 have e1:=congrArg val h1
 rw[aLR,aLR,aCK (show p.f.toNat<256^1 by omega),aCK (show q.f.toNat<256^1 by omega)] at e1
 have w1:=wp.1;have w2:=wp.2.1;have w3:=wp.2.2.1;have w4:=wp.2.2.2
 have v1:=wq.1;have v2:=wq.2.1;have v3:=wq.2.2.1;have v4:=wq.2.2.2
 have e2:=aLs (by omega) (by omega) h2
 have e3:=aLs (by omega) (by omega) h3
 obtain⟨pf,ps,pt,pd⟩:=p
 obtain⟨qf,qs,qt,qd⟩:=q
 have e5:pd=qd:=aYB h5
 simp only at e1 e2 e3 w1 w3 v1 v3 a1 b1
 rw[e5,show pf=qf by omega,show ps=qs by omega,show pt=qt by omega]
theorem aMV{c d:UInt8}{n m:Nat}(hn:n<18446744073709551616)(hm:m<18446744073709551616)(h:gH c n=gH d m):c=d∧n=m:=by
 unfold gH at h
 simp only[lF] at h
 exact⟨h.1,aLs hn hm h.2⟩
theorem aIE{c d:UInt8}{n m:Nat}(h:c≠d):gH c n≠gH d m:=λe=>by
 unfold gH at e
 simp only[lF] at e
 exact h e.1
def aFg(st:St)(P:Pr->Prop):Prop:=(∀q∈st.now,P q)∧∀b∈st.blocks,∀q∈b,P q
def aJy(st:St)(k v:Tx):St:={st with now:=mZ st.now ⟨k,v⟩}
def aO8(st:St)(k:Tx):St:={st with now:=zM st.now k}
theorem aFg.mono{st:St}{P Q:Pr->Prop}(H:aFg st P)(h:∀q,P q->Q q):aFg st Q:=⟨λq hq=>h q (H.1 q hq),λb hb q hq=>h q (H.2 b hb q hq)⟩
theorem aFg.put{st:St}{P:Pr->Prop}(H:aFg st P){k v:Tx}(h:P ⟨k,v⟩):aFg (aJy st k v) P:=⟨λq hq=>by
 rcases qC.1 hq with rfl|⟨hq,-⟩
 ·exact h
 ·exact H.1 q hq,H.2⟩
theorem aFg.del{st:St}{P:Pr->Prop}(H:aFg st P)(k:Tx):aFg (aO8 st k) P:=⟨λq hq=>H.1 q (zLZ.1 hq).1,H.2⟩
theorem aFg.com{st:St}{P:Pr->Prop}(H:aFg st P):aFg (jO st).1 P:=by
 by_cases he:(jO st).2.2=0
 ·rw[(aCY he).1]
  refine⟨H.1,λb hb=>?_⟩
  rcases jJ.1 hb with hb|hb
  ·exact H.2 b hb
  ·simp only[fW] at hb
   subst hb
   exact H.1
 ·rw[aBc he];exact H
theorem aRR{st:St}{x:Nat}{b:List Pr}(h:qD st x=some b):b∈st.blocks:=sH (aJo h).2
theorem aQJ{st:St}{x:Nat}{b:List Pr}(h:qD st x=some b):x≤st.height:=by
 have:=(aJo h).1
 omega
theorem aRM{st:St}(ok:st.Ok)(he:(jO st).2.2=0)(x:Nat):qD (jO st).1 x=if x=st.height+1 then some st.now else qD st x:=by
 rw[(aCY he).1]
 have h1:=ok.h1
 have h3:=ok.h3
 unfold qD
 simp only[jE,zLQ]
 by_cases c:x=st.height+1
 ·rw[if_pos c,if_neg (by omega),show st.blocks.length+1-1-(st.height+1-x)=st.blocks.length by omega]
  simp
 ·rw[if_neg c]
  by_cases d:st.height<x∨st.blocks.length≤st.height-x
  ·rw[if_pos d,if_pos (by omega)]
  ·rw[if_neg d,if_neg (by omega),show st.blocks.length+1-1-(st.height+1-x)=st.blocks.length-1-(st.height-x) by omega,List.getElem?_append_left (by omega)]
theorem aMf{st:St}(ok:st.Ok){x:Nat}{b:List Pr}(h:qD st x=some b):qD (jO st).1 x=some b:=by
 by_cases he:(jO st).2.2=0
 ·have:=aQJ h
  rw[aRM ok he,if_neg (by omega)];exact h
 ·rw[aBc he];exact h
theorem aRl(st:St):st.height≤(jO st).1.height:=by
 by_cases he:(jO st).2.2=0
 ·rw[(aCY he).1];exact yN _
 ·rw[aBc he];exact qZ _
def aIL(st:St)(k:Tx)(t:Int):Prop:=(∃q∈st.now,q.k=k)∧∀x b,qD st x=some b->t≤(x:Int)+1->∃q∈b,q.k=k
theorem aIL.put{st:St}{k:Tx}{t:Int}(H:aIL st k t)(k' v:Tx):aIL (aJy st k' v) k t:=by
 obtain⟨q,hq,e⟩:=H.1
 refine⟨?_,H.2⟩
 by_cases c:q.k=k'
 ·exact⟨⟨k',v⟩,qC.2 (.inl rfl),by rw[←c];exact e⟩
 ·exact⟨q,qC.2 (.inr ⟨hq,c⟩),e⟩
theorem aIL.del{st:St}{k:Tx}{t:Int}(H:aIL st k t){k':Tx}(hk:k'≠k):aIL (aO8 st k') k t:=by
 obtain⟨q,hq,e⟩:=H.1
 exact⟨⟨q,zLZ.2 ⟨hq,by simp only[ne_eq,decide_eq_true_eq];rw[e];exact hk.symm⟩,e⟩,H.2⟩
theorem aIL.com{st:St}(ok:st.Ok){k:Tx}{t:Int}(H:aIL st k t):aIL (jO st).1 k t:=by
 by_cases he:(jO st).2.2=0
 ·refine⟨by rw[(aCY he).1];exact H.1,λx b hx ht=>?_⟩
  rw[aRM ok he] at hx
  split at hx
  ·cases hx;exact H.1
  ·exact H.2 x b hx ht
 ·rw[aBc he];exact H
theorem aRT(c:Ch)(p:Pk):(c.sent p).st=aJy c.st (gH 99 c.seq) (nR p)∧(c.sent p).cl=c.cl∧(c.sent p).id=c.id:=⟨rfl,rfl,rfl⟩
theorem aL2(c:Ch)(p:Pk):(c.received p).st=aJy (aJy c.st (gH 114 p.s.toNat) [1]) (gH 97 p.s.toNat) (aAq p)∧(c.received p).cl=c.cl∧(c.received p).id=c.id:=⟨rfl,rfl,rfl⟩
theorem aJ5(c:Ch)(k:Int)(p:Pk):(c.settled k p).st=aO8 c.st (gH 99 p.s.toNat)∧(c.settled k p).cl=c.cl∧(c.settled k p).id=c.id:=⟨rfl,rfl,rfl⟩
theorem tU(c:Ch):c.committed.st=(jO c.st).1∧c.committed.cl=c.cl∧c.committed.id=c.id:=by
 unfold Ch.committed
 by_cases he:(jO c.st).2.2=0
 ·rw[if_pos he];exact⟨rfl,rfl,rfl⟩
 ·rw[if_neg he];exact⟨(aBc he).symm,rfl,rfl⟩
theorem aHZ(c o:Ch)(a:kM):
  (a.kind=0∧rB c a.d a.h=0∧(jU c o a).1=c.sent (kB c a.d a.h)∧(jU c o a).2=(kB c a.d a.h,0,0)∧doA c o a=oX (kB c a.d a.h))∨
  (a.kind=1∧∃b,qD o.st a.h=some b∧(jU c o a).1=c.told (a.h:Int) (jX b)∧doA c o a=rQ b)∨
  (a.kind=2∧pD c (pW c a.p (kX o a) (a.h:Int))=0∧(jU c o a).1=c.received a.p∧(jU c o a).2.2.2=0∧doA c o a=aFa a.p++(aF8 (kX o a)++oX a.p))∨
  (a.kind=3∧jF c a.p (xH c a.p (kX o a) (a.h:Int))=0∧(jU c o a).1=c.settled 3 a.p∧(jU c o a).2.2.2=0∧doA c o a=aF8 (kX o a)++(aFa a.p++oX a.p))∨
  (a.kind=4∧jF c a.p (qL c a.p (kX o a) (a.h:Int))=0∧(jU c o a).1=c.settled 4 a.p∧(jU c o a).2.2.2=0∧doA c o a=aH1 (kX o a) (gH 114 a.p.s.toNat)++oX a.p)∨
  (a.kind=5∧(jU c o a).1=c.committed)∨
  ((jU c o a).1=c∧((jU c o a).2.2.2=0->a.kind<0∨5<a.kind)):=by
 unfold jU doA
 by_cases k0:a.kind=0
 ·rw[if_pos k0,if_pos k0]
  by_cases e:rB c a.d a.h=0
  ·rw[if_pos e,if_pos e];exact .inl ⟨k0,e,rfl,rfl,rfl⟩
  ·rw[if_neg e];exact .inr (.inr (.inr (.inr (.inr (.inr ⟨rfl,λh=>absurd h e⟩)))))
 rw[if_neg k0,if_neg k0]
 by_cases k1:a.kind=1
 ·rw[if_pos k1,if_pos k1]
  cases hs:qD o.st a.h with
  | none=>exact .inr (.inr (.inr (.inr (.inr (.inr ⟨rfl,λh=>by simp at h⟩)))))
  | some b=>exact .inr (.inl ⟨k1,b,rfl,rfl,rfl⟩)
 rw[if_neg k1,if_neg k1]
 by_cases k2:a.kind=2
 ·rw[if_pos k2,if_pos k2]
  by_cases e:pD c (pW c a.p (kX o a) (a.h:Int))=0
  ·rw[if_pos e,if_pos e];exact .inr (.inr (.inl ⟨k2,e,rfl,rfl,rfl⟩))
  ·rw[if_neg e];exact .inr (.inr (.inr (.inr (.inr (.inr ⟨rfl,λh=>absurd h e⟩)))))
 rw[if_neg k2,if_neg k2]
 by_cases k3:a.kind=3
 ·rw[if_pos k3,if_pos k3]
  by_cases e:jF c a.p (xH c a.p (kX o a) (a.h:Int))=0
  ·rw[if_pos e,if_pos e];exact .inr (.inr (.inr (.inl ⟨k3,e,rfl,rfl,rfl⟩)))
  ·rw[if_neg e];exact .inr (.inr (.inr (.inr (.inr (.inr ⟨rfl,λh=>absurd h e⟩)))))
 rw[if_neg k3,if_neg k3]
 by_cases k4:a.kind=4
 ·rw[if_pos k4,if_pos k4]
  by_cases e:jF c a.p (qL c a.p (kX o a) (a.h:Int))=0
  ·rw[if_pos e,if_pos e];exact .inr (.inr (.inr (.inr (.inl ⟨k4,e,rfl,rfl,rfl⟩))))
  ·rw[if_neg e];exact .inr (.inr (.inr (.inr (.inr (.inr ⟨rfl,λh=>absurd h e⟩)))))
 rw[if_neg k4,if_neg k4]
 by_cases k5:a.kind=5
 ·rw[if_pos k5];exact .inr (.inr (.inr (.inr (.inr (.inl ⟨k5,rfl⟩)))))
 ·rw[if_neg k5];exact .inr (.inr (.inr (.inr (.inr (.inr ⟨rfl,λ_=>by omega⟩)))))
def KOk(s:Ch):Prop:=s.cl.length≤4096∧∀y∈yX s.cl,0≤y∧y<18446744073709551616
theorem aMX{l:List hZ}{x y:hZ}(h:y∈(yS l x).2):y∈l∨y=x:=by
 unfold yS at h
 split at h
 ·exact .inl h
 ·split at h
  ·exact .inl h
  ·split at h
   ·exact .inl h
   ·simpa using h
theorem aUu{l:List hZ}{x:hZ}(h:l.length≤4096):(yS l x).2.length≤4096:=by
 unfold yS
 split
 ·exact h
 ·split
  ·exact h
  ·split
   ·exact h
   ·simp only[jE,zLQ];omega
theorem KOk.doP{c:Ch}(H:KOk c)(o:Ch){a:kM}(w:a.wf):KOk (jU c o a).1:=by
 have same:∀{c':Ch},c'.cl=c.cl->KOk c':=λe=>by unfold KOk;rw[e];exact H
 rcases aHZ c o a with⟨-,-,e,-⟩|⟨-,b,-,e,-⟩|⟨-,-,e,-⟩|⟨-,-,e,-⟩|⟨-,-,e,-⟩|⟨-,e⟩|⟨e,-⟩<;>rw[e]
 ·exact same rfl
 ·refine⟨aUu H.1,λy hy=>?_⟩
  obtain⟨z,hz,rfl⟩:=lI.1 hy
  rcases aMX hz with hz|rfl
  ·exact H.2 _ (lI.2 ⟨z,hz,rfl⟩)
  ·have:=w.h
   exact⟨by show(0:Int)≤(a.h:Int);omega,by show(a.h:Int)<_;omega⟩
 ·exact same rfl
 ·exact same rfl
 ·exact same rfl
 ·exact same (tU c).2.1
 ·exact H
def aPC(id:Int)(A:List Tx)(G:Pk->Prop)(q:Pr):Prop:=∀n,n<18446744073709551616->q.k=gH 97 n->∃p,G p∧p.f=id∧p.s.toNat=n∧q.v=aAq p∧p.right=true∧p.wf∧∀t∈aFa p,t∈A
structure vH(c o:Ch)(A:List Tx)(G T:Pk->Prop):Prop where
 cl:∀y∈c.cl,∃(x:Nat) (b:List Pr),y.height=(x:Int)∧qD o.st x=some b∧y.root=tx (jX b)∧∀t∈rQ b,t∈A
 rk:∀p,G p->p.f=c.id->aIL o.st (gH 114 p.s.toNat) p.t
 ak:aFg o.st (aPC c.id A G)
 tm:∀p,T p->p.f=c.id->p.t≤(o.st.height:Int)+1
section
variable{c o:Ch}{A:List Tx}{G T:Pk->Prop}(H:vH c o A G T)
include H
theorem vH.asked{A':List Tx}(hs:∀t∈A,t∈A'):vH c o A' G T:=
 ⟨λy hy=>by obtain⟨x,b,h1,h2,h3,h4⟩:=H.cl y hy;exact⟨x,b,h1,h2,h3,λt ht=>hs t (h4 t ht)⟩,H.rk,H.ak.mono λq hq n hn hk=>by obtain⟨p,h1,h2,h3,h4,h5,h6,h7⟩:=hq n hn hk;exact⟨p,h1,h2,h3,h4,h5,h6,λt ht=>hs t (h7 t ht)⟩,H.tm⟩
theorem vH.left{c':Ch}(hid:c'.id=c.id)(hcl:c'.cl=c.cl):vH c' o A G T:=
 ⟨λy hy=>H.cl y (hcl▸hy),λp hp hf=>H.rk p hp (hid▸hf),by rw[hid];exact H.ak,λp hp hf=>H.tm p hp (hid▸hf)⟩
theorem vH.right{o':Ch}(hst:o'.st=o.st):vH c o' A G T:=
 ⟨λy hy=>by rw[hst];exact H.cl y hy,λp hp hf=>by rw[hst];exact H.rk p hp hf,by rw[hst];exact H.ak,λp hp hf=>by rw[hst];exact H.tm p hp hf⟩
theorem vH.gt{G' T':Pk->Prop}(hG:∀p,p.f=c.id->(G' p↔G p))(hT:∀p,p.f=c.id->(T' p↔T p)):vH c o A G' T':=
 ⟨H.cl,λp hp hf=>H.rk p ((hG p hf).1 hp) hf,H.ak.mono λq hq n hn hk=>by obtain⟨p,h1,h2,h3⟩:=hq n hn hk;exact⟨p,(hG p h2).2 h1,h2,h3⟩,λp hp hf=>H.tm p ((hT p hf).1 hp) hf⟩
theorem vH.told(x:Nat){b:List Pr}(hx:qD o.st x=some b)(hA:∀t∈rQ b,t∈A):vH (c.told (x:Int) (jX b)) o A G T:=
 ⟨λy hy=>by
  rcases aMX hy with hy|rfl
  ·exact H.cl y hy
  ·exact⟨x,b,rfl,hx,rfl,hA⟩,H.rk,H.ak,H.tm⟩
theorem vH.put{o':Ch}{k v:Tx}(hst:o'.st=aJy o.st k v)(hp:aPC c.id A G ⟨k,v⟩):vH c o' A G T:=
 ⟨λy hy=>by rw[hst];exact H.cl y hy,λp hp hf=>by rw[hst];exact(H.rk p hp hf).put _ _,by rw[hst];exact H.ak.put hp,λp hp hf=>by rw[hst];exact H.tm p hp hf⟩
theorem vH.del{o':Ch}{n:Nat}(hst:o'.st=aO8 o.st (gH 99 n)):vH c o' A G T:=
 ⟨λy hy=>by rw[hst];exact H.cl y hy,λp hp hf=>by rw[hst];exact(H.rk p hp hf).del (aIE (by decide)),by rw[hst];exact H.ak.del _,λp hp hf=>by rw[hst];exact H.tm p hp hf⟩
theorem vH.com(ok:o.st.Ok):vH c o.committed A G T:=by
 obtain⟨e1,-,-⟩:=tU o
 refine⟨λy hy=>?_,λp hp hf=>by rw[e1];exact(H.rk p hp hf).com ok,by rw[e1];exact H.ak.com,λp hp hf=>by
  have:=H.tm p hp hf
  have:=aRl o.st
  rw[e1];omega⟩
 obtain⟨x,b,h1,h2,h3,h4⟩:=H.cl y hy
 exact⟨x,b,h1,by rw[e1];exact aMf ok h2,h3,h4⟩
theorem vH.root{x:Nat}(hr:(kJ c.cl (x:Int)).isSome=true):∃b,qD o.st x=some b∧oL c.cl (x:Int)=jX b∧∀t∈rQ b,t∈A:=by
 obtain⟨r,er⟩:=Option.isSome_iff_exists.1 hr
 unfold oL
 rw[er]
 unfold kJ at er
 cases hf:c.cl.find? λp=>decide ((x:Int)=p.height) with
 | none=>rw[hf] at er;cases er
 | some y=>
  rw[hf] at er
  simp only[aGS,zL5] at er
  have hm:=List.mem_of_find?_eq_some hf
  have hk:=List.find?_some hf
  simp only[decide_eq_true_eq] at hk
  obtain⟨x',b,h1,h2,h3,h4⟩:=H.cl y hm
  have ex:x'=x:=by omega
  subst ex
  refine⟨b,h2,?_,h4⟩
  show(Option.getD (some r) _).data.toList=_
  rw[aGn,←er,h3]
  rfl
end
theorem aOl{id:Int}{A:List Tx}{G:Pk->Prop}{ch:UInt8}{n:Nat}{v:Tx}(h:ch≠97):aPC id A G ⟨gH ch n,v⟩:=λm _ e=>absurd e (aIE h)
theorem aV4{t:Int}(h0:0<t)(h1:t<18446744073709551616):IntKind.u64.wrap (t-1)=t-1:=by rw[gG (by omega) (by omega)]
def yK(a:kM)(e:Int)(G:Pk->Prop):Pk->Prop:=λp=>G p∨(e=0∧a.kind=2∧p=a.p)
def aAY(a:kM)(e:Int)(T:Pk->Prop):Pk->Prop:=λp=>T p∨(e=0∧a.kind=4∧p=a.p)
structure aQB(c o:Ch)(a:kM)(A:List Tx)(G T:Pk->Prop):Prop where
 one:vH (jU c o a).1 o A (yK a (jU c o a).2.2.2 G) (aAY a (jU c o a).2.2.2 T)
 two:vH o (jU c o a).1 A (yK a (jU c o a).2.2.2 G) (aAY a (jU c o a).2.2.2 T)
 recv:(jU c o a).2.2.2=0->a.kind=2->a.p.f=o.id∧IntKind.u64.wrap (((jU c o a).1.st.height:Int)+1)<a.p.t∧¬T a.p
 ack:(jU c o a).2.2.2=0->a.kind=3->a.p.f=c.id∧G a.p
 tim:(jU c o a).2.2.2=0->a.kind=4->a.p.f=c.id∧¬G a.p
theorem aOu{c o:Ch}{a:kM}{A:List Tx}{G T:Pk->Prop}(D1:vH c o A G T)(D2:vH o c A G T)(U:wK (doA c o a++A))(hid:c.id≠o.id)(hco:1-c.id=o.id)(wa:a.wf)(okc:c.st.Ok)(oko:o.st.Ok)(hs1:c.seq<18446744073709551616):aQB c o a (doA c o a++A) G T:=by
 have sub:∀t∈A,t∈doA c o a++A:=λt ht=>zLk _ ht
 have D1:=D1.asked sub
 have D2:=D2.asked sub
 have subA:∀t∈doA c o a,t∈doA c o a++A:=λt ht=>zLj _ ht
 generalize doA c o a++A=A' at *
 obtain⟨w1,w2,w3,w4⟩:=wa.p
 rcases aHZ c o a with⟨k0,e,e1,e2,eA⟩|⟨k1,b,e,e1,eA⟩|⟨k2,e,e1,e2,eA⟩|⟨k3,e,e1,e2,eA⟩|⟨k4,e,e1,e2,eA⟩|⟨k5,e1⟩|⟨e1,e2⟩
 ·have gg:∀p,yK a (jU c o a).2.2.2 G p↔G p:=λp=>by unfold yK;rw[k0];simp
  have tt:∀p,aAY a (jU c o a).2.2.2 T p↔T p:=λp=>by unfold aAY;rw[k0];simp
  refine⟨?_,?_,λ_ h=>by omega,λ_ h=>by omega,λ_ h=>by omega⟩
  ·rw[e1];exact(D1.left (c':=c.sent (kB c a.d a.h)) rfl rfl).gt (λp _=>gg p) (λp _=>tt p)
  ·rw[e1];exact(D2.put (o':=c.sent (kB c a.d a.h)) (aRT c _).1 (aOl (by decide))).gt (λp _=>gg p) (λp _=>tt p)
 ·have gg:∀p,yK a (jU c o a).2.2.2 G p↔G p:=λp=>by unfold yK;rw[k1];simp
  have tt:∀p,aAY a (jU c o a).2.2.2 T p↔T p:=λp=>by unfold aAY;rw[k1];simp
  refine⟨?_,?_,λ_ h=>by omega,λ_ h=>by omega,λ_ h=>by omega⟩
  ·rw[e1];exact(D1.told a.h e (λt ht=>subA t (by rw[eA];exact ht))).gt (λp _=>gg p) (λp _=>tt p)
  ·rw[e1];exact(D2.right (o':=c.told (a.h:Int) (jX b)) rfl).gt (λp _=>gg p) (λp _=>tt p)
 ·obtain⟨r1,r2,r3,r4,r5,r6,r7⟩:=aLe e
  have hf:a.p.f=o.id:=by rw[r2,hco]
  have hth:=okc.h4
  have hw:IntKind.u64.wrap ((c.st.height:Int)+1)=(c.st.height:Int)+1:=by rw[gG (by omega) (by omega)]
  have ht:(c.st.height:Int)+1<a.p.t:=by rw[←hw];exact r3
  have gg:∀p,yK a (jU c o a).2.2.2 G p↔(G p∨p=a.p):=λp=>by unfold yK;rw[k2,e2];simp
  have tt:∀p,aAY a (jU c o a).2.2.2 T p↔T p:=λp=>by unfold aAY;rw[k2];simp
  have nT:¬T a.p:=λh=>by
   have:=D2.tm a.p h hf
   omega
  refine⟨?_,?_,λ_ _=>⟨hf,by rw[e1];exact r3,nT⟩,λ_ h=>by omega,λ_ h=>by omega⟩
  ·rw[e1]
   refine(D1.left (c':=c.received a.p) rfl rfl).gt (λp hp=>?_) (λp _=>tt p)
   rw[gg p]
   constructor
   ·rintro(h|rfl)
    ·exact h
    ·exact absurd (show c.id=o.id by rw[←hf];exact hp.symm) hid
   ·exact .inl
  ·rw[e1]
   obtain⟨s1,s2,s3⟩:=aL2 c a.p
   have hn:a.p.s.toNat<18446744073709551616:=by omega
   refine⟨λy hy=>D2.cl y hy |> λ⟨x,b,h1,h2,h3,h4⟩=>⟨x,b,h1,by rw[s1];exact h2,h3,h4⟩,λp hp hpf=>?_,?_,λp hp hpf=>by rw[s1];exact D2.tm p ((tt p).1 hp) hpf⟩
   ·rw[s1]
    rcases (gg p).1 hp with hp|rfl
    ·exact((D2.rk p hp hpf).put _ _).put _ _
    ·have h1:aIL (aJy c.st (gH 114 a.p.s.toNat) [1]) (gH 114 a.p.s.toNat) a.p.t:=⟨⟨⟨gH 114 a.p.s.toNat,[1]⟩,qC.2 (.inl rfl),rfl⟩,λx b hx htx=>by
      have h2:=aQJ hx
      have h3:x≤c.st.height:=h2
      omega⟩
     exact h1.put _ _
   ·rw[s1]
    have base:aFg c.st (aPC o.id A' (yK a (jU c o a).2.2.2 G)):=D2.ak.mono λq hq n hn hk=>by
     obtain⟨p,h1,h2,h3⟩:=hq n hn hk
     exact⟨p,(gg p).2 (.inl h1),h2,h3⟩
    refine(base.put (aOl (by decide))).put λn hn' hk=>?_
    obtain⟨-,en⟩:=aMV hn hn' hk
    exact⟨a.p,(gg _).2 (.inr rfl),hf,en,rfl,r1,wa.p,λt ht=>subA t (by rw[eA];simp[ht])⟩
 ·obtain⟨r1,r2,r3,r4,r5⟩:=aDO (by unfold xH;simp) e
  have q1:=r4 (11,(kJ c.cl (a.h:Int)).isSome) (by unfold xH;simp)
  have q2:=r4 (9,aAU (oL c.cl (a.h:Int)) (kX o a) (gH 97 a.p.s.toNat) (aAq a.p)) (by unfold xH;simp)
  simp only at q1 q2
  obtain⟨b,hb,eb,hbA⟩:=D1.root q1
  rw[eb] at q2
  have hm:=aON (oko.mok hb) U (λt ht=>subA t (by rw[eA];simp[ht])) hbA q2
  have hn:a.p.s.toNat<18446744073709551616:=by omega
  obtain⟨p,g1,g2,g3,g4,g5,g6,g7⟩:=D1.ak.2 b (aRR hb) _ hm _ hn rfl
  have ebs:=aUh r1 g5 U (λt ht=>subA t (by rw[eA];simp[ht])) g7 g4
  have ep:a.p=p:=Pk.bs_inj r1 g5 wa.p g6 ebs
  have gg:∀p,yK a (jU c o a).2.2.2 G p↔G p:=λp=>by unfold yK;rw[k3];simp
  have tt:∀p,aAY a (jU c o a).2.2.2 T p↔T p:=λp=>by unfold aAY;rw[k3];simp
  refine⟨?_,?_,λ_ h=>by omega,λ_ _=>⟨r2,by rw[ep];exact g1⟩,λ_ h=>by omega⟩
  ·rw[e1];exact(D1.left (c':=c.settled 3 a.p) rfl rfl).gt (λp _=>gg p) (λp _=>tt p)
  ·rw[e1];exact(D2.del (o':=c.settled 3 a.p) (aJ5 c 3 a.p).1).gt (λp _=>gg p) (λp _=>tt p)
 ·obtain⟨r1,r2,r3,r4,r5⟩:=aDO (by unfold qL;simp) e
  have q0:=r4 (11,decide (IntKind.u64.wrap (a.p.t-1)≤(a.h:Int))) (by unfold qL;simp)
  have q1:=r4 (11,(kJ c.cl (a.h:Int)).isSome) (by unfold qL;simp)
  have q2:=r4 (9,aAO (oL c.cl (a.h:Int)) (kX o a) (gH 114 a.p.s.toNat)) (by unfold qL;simp)
  simp only[decide_eq_true_eq] at q0 q1 q2
  have ht0:0<a.p.t:=by
   have:=(Pk.right_iff.1 r1).2.2.2.1
   omega
  rw[aV4 ht0 w4] at q0
  obtain⟨b,hb,eb,hbA⟩:=D1.root q1
  rw[eb] at q2
  have hl:=aQf (oko.mok hb) U (λt ht=>subA t (by rw[eA];simp[ht])) hbA q2
  have nG:¬G a.p:=λh=>by
   obtain⟨q,hq,ek⟩:=(D1.rk a.p h r2).2 a.h b hb (by omega)
   exact hl q hq ek
  have hle:=aQJ hb
  have gg:∀p,yK a (jU c o a).2.2.2 G p↔G p:=λp=>by unfold yK;rw[k4];simp
  have tt:∀p,aAY a (jU c o a).2.2.2 T p↔(T p∨p=a.p):=λp=>by unfold aAY;rw[k4,e2];simp
  refine⟨?_,?_,λ_ h=>by omega,λ_ h=>by omega,λ_ _=>⟨r2,nG⟩⟩
  ·rw[e1]
   have D:=D1.left (c':=c.settled 4 a.p) rfl rfl
   refine⟨D.cl,λp hp hf=>D.rk p ((gg p).1 hp) hf,D.ak.mono λq hq n hn hk=>?_,λp hp hf=>?_⟩
   ·obtain⟨p,h1,h2⟩:=hq n hn hk
    exact⟨p,(gg p).2 h1,h2⟩
   ·rcases (tt p).1 hp with hp|rfl
    ·exact D.tm p hp hf
    ·omega
  ·rw[e1]
   refine(D2.del (o':=c.settled 4 a.p) (aJ5 c 4 a.p).1).gt (λp _=>gg p) (λp hp=>?_)
   rw[tt p]
   constructor
   ·rintro(h|rfl)
    ·exact h
    ·exact absurd (show c.id=o.id by rw[←hp];exact r2.symm) hid
   ·exact .inl
 ·have gg:∀p,yK a (jU c o a).2.2.2 G p↔G p:=λp=>by unfold yK;rw[k5];simp
  have tt:∀p,aAY a (jU c o a).2.2.2 T p↔T p:=λp=>by unfold aAY;rw[k5];simp
  obtain⟨s1,s2,s3⟩:=tU c
  refine⟨?_,?_,λ_ h=>by omega,λ_ h=>by omega,λ_ h=>by omega⟩
  ·rw[e1];exact(D1.left s3 s2).gt (λp _=>gg p) (λp _=>tt p)
  ·rw[e1];exact(D2.com okc).gt (λp _=>gg p) (λp _=>tt p)
 ·have gg:∀p,yK a (jU c o a).2.2.2 G p↔G p:=λp=>by
   unfold yK
   constructor
   ·rintro(h|⟨h1,h2,-⟩)
    ·exact h
    ·have:=e2 h1;omega
   ·exact .inl
  have tt:∀p,aAY a (jU c o a).2.2.2 T p↔T p:=λp=>by
   unfold aAY
   constructor
   ·rintro(h|⟨h1,h2,-⟩)
    ·exact h
    ·have:=e2 h1;omega
   ·exact .inl
  refine⟨?_,?_,λh1 h=>by have:=e2 h1;omega,λh1 h=>by have:=e2 h1;omega,λh1 h=>by have:=e2 h1;omega⟩
  ·rw[e1];exact D1.gt (λp _=>gg p) (λp _=>tt p)
  ·rw[e1];exact D2.gt (λp _=>gg p) (λp _=>tt p)
def aEb(d0 d1:Nat):List Value:=[pT d0 0,pT d1 0]
def dCh(b m:Nat)(A:List Tx)(K:List Nat)(c:Nat)(s:Ch)(n:Nat):kG:=dT (qY b m A K) (DC c b s n)
def dRe(t:Nat)(cs:List Value)(o b:Nat)(so:Ch)(n:Nat):kG:=dT (pM t cs) (DC o b so n)
theorem dCh.good(b m:Nat)(A:List Tx)(K:List Nat)(c:Nat)(s:Ch)(n:Nat):kN (dCh b m A K c s n):=(qY.good _ _ _ _).star (DC.good _ _ _ _)
theorem dRe.good(t:Nat)(cs:List Value)(o b:Nat)(so:Ch)(n:Nat):kN (dRe t cs o b so n):=(pM.good _ _).star (DC.good _ _ _ _)
theorem dRe.mono{t:Nat}{cs:List Value}{o b:Nat}{so:Ch}{n n':Nat}(hn:n≤n'){h:PH}{F:List Nat}(H:dRe t cs o b so n h F):dRe t cs o b so n' h F:=by
 obtain⟨Fa,Fb,rfl,hx,hy,hd⟩:=H
 exact⟨Fa,Fb,rfl,hx,hy.mono hn,hd⟩
theorem dCh.mono{b m:Nat}{A:List Tx}{K:List Nat}{c:Nat}{s:Ch}{n n':Nat}(hn:n≤n'){h:PH}{F:List Nat}(H:dCh b m A K c s n h F):dCh b m A K c s n' h F:=by
 obtain⟨Fa,Fb,rfl,hx,hy,hd⟩:=H
 exact⟨Fa,Fb,rfl,hx,hy.mono hn,hd⟩
theorem dT.imp{A B A' B':kG}{h:PH}{F:List Nat}(H:dT A B h F)(ha:∀G,A h G->A' h G)(hb:∀G,B h G->B' h G):dT A' B' h F:=by
 obtain⟨Fa,Fb,rfl,hx,hy,hd⟩:=H
 exact⟨Fa,Fb,rfl,ha _ hx,hb _ hy,hd⟩
theorem aUZ{h:PH}{F:List Nat}{b m:Nat}{A:List Tx}{K:List Nat}{c o t:Nat}{cs2:List Value}{s so:Ch}{n:Nat}(H:dT (dCh b m A K c s n) (dRe t cs2 o b so n) h F)(w:s.DOk)(hn:n≤10000){a:kM}(wa:a.wf)(hd64:a.d.length≤1000000){r1 r3:Nat}(B1:Bx h r1 a.cells)(n1:r1∉F){cs:List Value}(hcs:cs.length=4)(B3:Bx h r3 cs)(n3:r3∉F){R:cD}
  (hR:∀h' F',dT (dCh b m (doA s so a++A) K c (jU s so a).1 (n+1)) (dRe t cs2 o b so (n+1)) h' F'->cU (r3::F) h h'->(∀b∈F',b∈F∨h b=none)->R (.tuple #[(jU s so a).2.1.v,.int .u64 ((jU s so a).2.2.1:Int),.int .i64 (jU s so a).2.2.2]) h'):
  oJ R (pT r1 0) (pT r3 0) (pT c 0) (pT o 0) (.string (tx (kX so a))) h:=by
 unfold oJ
 have gC:=λA s n=>dCh.good b m A K c s n
 have gR:=λn=>dRe.good t cs2 o b so n
 have fin:∀{h1:PH} {F1:List Nat} {A':List Tx} {s':Ch} {n':Nat} {pk:Pk} {hh:Nat} {e:Int},dT (dCh b m A' K c s' n') (dRe t cs2 o b so n) h1 F1->n'≤n+1->(∀a'∈doA s so a++A,a'∈A')->iR h F h1 F1->jU s so a=(s',(pk,hh,e))->cW PG (dJ aR (pT r3 0) pk.v) h1 λ_ h80=>dZ (cG PG h80 (loadAt aR (pT r3 0))) λv81=>R (.tuple #[v81,.int .u64 (hh:Int),.int .i64 e]) h80:=by
  intro h1 F1 A' s' n' pk hh e H1 hn' hA s1 ed
  have B31:=B3.upd s1.upd n3
  refine aR.put (vs:=pk.cells) B31 (o:=0) rfl (by omega) (Pk.isC _) λh2 B2 u2=>?_
  have l2:cG PG h2 (loadAt aR (pT r3 0))=some pk.v:=B2.pk (by simp[Pk.cells])
  simp only[l2,cE,reduceIte,cT,Nat.reduceAdd]
  have m3:r3∉F1:=λhm=>by
   rcases s1.grow _ hm with hx|hx
   ·exact n3 hx
   ·exact B3.known hx
  rw[ed] at hR
  have H2:=((gC A' s' n').star (gR n)).upd H1 u2 (λb hb hb'=>by simp only[fW] at hb';exact m3 (hb'▸hb))
  exact hR h2 F1 (dT.imp H2 (λG hG=>dCh.mono hn' (qY.mono hG hA)) (λG hG=>dRe.mono (yN n) hG)) (λb ob hb hn=>by
   simp only[gZ,not_or] at hn
   exact u2 b ob (s1.upd b ob hb hn.2) (by simpa using hn.1)) s1.grow
 have lk:cG PG h (loadAt bT (pT r1 0))=some (.int .i64 a.kind):=by rw[bT.load,B1.cell];rfl
 have lh:∀{h':PH},Bx h' r1 a.cells->cG PG h' (loadAt cA (pT r1 2))=some (.int .u64 (a.h:Int)):=λB=>by rw[cA.load,B.cell];rfl
 have ld:cG PG h (loadAt bR (pT r1 3))=some (.string (tx a.d)):=by rw[bR.load,B1.cell];rfl
 have lp:cG PG h (loadAt aR (pT r1 4))=some a.p.v:=B1.pk rfl
 have hpf:=aTr so hd64
 obtain⟨Fa,HA,hFa,back⟩:=dT.left (gR n) H
 have back:∀{A':List Tx} {s':Ch} {n':Nat} {h':PH} {Fa':List Nat},dT (qY b m A' K) (DC c b s' n') h' Fa'->iR h Fa h' Fa'->∃F',dT (dCh b m A' K c s' n') (dRe t cs2 o b so n) h' F'∧iR h F h' F':=fun {A' s' n' h' Fa'} HX st=>back (dCh b m A' K c s' n') h' Fa' HX st
 have hdd:jU s so a=if a.kind=0 then(if rB s a.d a.h=0 then(s.sent (kB s a.d a.h),(kB s a.d a.h,0,0)) else(s,(default,0,rB s a.d a.h)))
   else if a.kind=1 then(match qD so.st a.h with
    | none=>(s,(default,0,3))
    | some b=>(s.told (a.h:Int) (jX b),(default,0,(yS s.cl ⟨(a.h:Int),tx (jX b)⟩).1)))
   else if a.kind=2 then(if pD s (pW s a.p (kX so a) (a.h:Int))=0 then(s.received a.p,(default,0,0)) else(s,(default,0,pD s (pW s a.p (kX so a) (a.h:Int)))))
   else if a.kind=3 then(if jF s a.p (xH s a.p (kX so a) (a.h:Int))=0 then(s.settled 3 a.p,(default,0,0)) else(s,(default,0,jF s a.p (xH s a.p (kX so a) (a.h:Int)))))
   else if a.kind=4 then(if jF s a.p (qL s a.p (kX so a) (a.h:Int))=0 then(s.settled 4 a.p,(default,0,0)) else(s,(default,0,jF s a.p (qL s a.p (kX so a) (a.h:Int)))))
   else if a.kind=5 then(s.committed,(default,(jO s.st).2.1,(jO s.st).2.2))
   else(s,(default,0,0)):=rfl
 have hda:doA s so a=if a.kind=0 then(if rB s a.d a.h=0 then oX (kB s a.d a.h) else [])
  else if a.kind=1 then(match qD so.st a.h with
   | none=>[]
   | some b=>rQ b)
  else if a.kind=2 then(if pD s (pW s a.p (kX so a) (a.h:Int))=0 then aFa a.p++(aF8 (kX so a)++oX a.p) else [])
  else if a.kind=3 then(if jF s a.p (xH s a.p (kX so a) (a.h:Int))=0 then aF8 (kX so a)++(aFa a.p++oX a.p) else [])
  else if a.kind=4 then(if jF s a.p (qL s a.p (kX so a) (a.h:Int))=0 then aH1 (kX so a) (gH 114 a.p.s.toNat)++oX a.p else [])
  else []:=rfl
 by_cases k0:a.kind=0
 ·have q:(a.kind==0)=true:=by simp[k0]
  rw[if_pos k0] at hdd hda
  simp only[cH.f0,cH.f2,cH.f3,fL,lk,ld,lh B1,hE,q,cE,reduceIte,cT,Nat.reduceAdd]
  have last:∀{h1:PH} {F1:List Nat} {A':List Tx} {s':Ch} {n':Nat} {pk:Pk} {e:Int},dT (dCh b m A' K c s' n') (dRe t cs2 o b so n) h1 F1->n'≤n+1->(∀a'∈doA s so a++A,a'∈A')->iR h F h1 F1->jU s so a=(s',(pk,0,e))->∀r74,h1 r74=none->eV (PH.set h1 r74 (.cells (dP PG aR) aR)) λh75=>
    cW PG (dJ aR (pT r74 0) pk.v) h75 λv76 h77=>
    dZ (cG PG h77 (loadAt aR (pT r74 0))) λv78=>
    cW PG (dJ aR (pT r3 0) v78) h77 λv79 h80=>
    dZ (cG PG h80 (loadAt aR (pT r3 0))) λv81=>
    R (.tuple #[v81,(Value.int IntKind.u64 0),.int .i64 e]) h80:=by
   intro h1 F1 A' s' n' pk e H1 hn' hA s1 ed r74 hr74
   try rw[cZ]
   refine aR.fill (vs:=pk.cells) hr74 rfl (Pk.isC _) λh2 B2 u2=>?_
   have l2:cG PG h2 (loadAt aR (pT r74 0))=some pk.v:=B2.pk rfl
   simp only[l2,cE,reduceIte,cT,Nat.reduceAdd]
   exact fin (hh:=0) (((gC A' s' n').star (gR n)).ext H1 u2) hn' hA (s1.trans (iR.ext u2)) ed
  refine aTs HA w hn a.d hd64 wa.h (λhe h1 H1 s1=>?_) (λhe h1 F1 H1 s1=>?_)
  ·rw[if_neg he] at hdd hda
   obtain⟨F2,W2,s2⟩:=back H1 s1
   have:=last W2 (yN n) (by rw[hda];exact λ_ h=>h) s2 hdd
   simp only[cE,reduceIte,cT,Nat.reduceAdd] at this ⊢
   exact this
  ·rw[if_pos he] at hdd hda
   obtain⟨F2,W2,s2⟩:=back H1 s1
   have:=last W2 (qZ _) (by rw[hda];exact λ_ h=>h) s2 hdd
   simp only[cE,reduceIte,cT,Nat.reduceAdd] at this ⊢
   exact this
 have q0:(a.kind==0)=false:=by simp[k0]
 rw[if_neg k0] at hdd hda
 by_cases k1:a.kind=1
 ·have q:(a.kind==1)=true:=by simp[k1]
  rw[if_pos k1] at hdd hda
  obtain⟨Fcd,HCd,HB,eFa,hdis⟩:=aEc HA
  obtain⟨sp,cp,bv,nv,PC⟩:=id HCd
  obtain⟨Fo,HO,hFo⟩:∃Fo,DC o b so n h Fo∧∀x∈Fo,x≠b∧x≠m:=by
   obtain⟨Fc,Fr,eF,HC,⟨Ft,Fo,eFr,-,HO,dto⟩,dcr⟩:=id H
   obtain⟨Fcd,-,-,eFc,-⟩:=aEc HC
   refine⟨Fo,HO,λx hx=>?_⟩
   have h1:x∈Fr:=by rw[eFr];exact zLk _ hx
   refine⟨λe=>?_,λe=>?_⟩
   ·exact dcr b (by rw[eFc];simp) (e▸h1)
   ·exact dcr m (by rw[eFc];simp) (e▸h1)
  obtain⟨osp,ocp,obv,onv,PO⟩:=id HO
  obtain⟨Fs,⟨G,St,eFs⟩,hFs,-⟩:=PO.fSt
  obtain⟨cc,A0,HBk,hAA⟩:=id HB
  have hGb:∀x∈G,x≠b∧x≠m:=λx hx=>hFo x (hFs x (by rw[eFs];simp[hx]))
  have n1b:r1∉[b,m]:=λhm=>by
   simp only[gZ,kW,or_false] at hm
   rcases hm with rfl|rfl
   ·exact n1 (hFa _ (by rw[eFa];simp))
   ·exact n1 (hFa _ (by rw[eFa];simp))
  simp only[cH.f0,cH.f2,cQ.f0,cQ.f2,fL,lk,lh B1,dl0 PC.cell,dl2 PO.cell,hE,q0,q,cE,reduceIte,cT,Nat.reduceAdd]
  refine aSi St HBk hGb a.h wa.h (λe=>?_) (λl h1 c' e HB1 _ u1=>?_)
  ·rw[e] at hdd hda
   obtain⟨F2,W2,s2⟩:=back HA iR.refl
   have qe:((3:Int) !=0)=true:=by decide
   simp only[kU,qe,Pk.zb,cE,reduceIte,cT,Nat.reduceAdd]
   exact fin (hh:=0) W2 (yN n) (by rw[hda];exact λ_ h=>h) s2 hdd
  ·rw[e] at hdd hda
   have HB2:Bk b m (rQ l++A) K h1:=⟨c',_,HB1,λx hx=>by
    rcases jJ.1 hx with hx|hx
    ·simp[hx]
    ·simp[hAA x hx]⟩
   obtain⟨-,s1⟩:=aGp (DC.good c b s n) HA HB2 u1
   have P1:=mT.good.upd PC u1 (aLV hdis)
   have C1:=B1.upd u1 n1b
   simp only[kU,Pk.zb,cH.f2,cQ.f3,fL,lh C1,dl3 P1.cell,cE,reduceIte,cT,Nat.reduceAdd]
   refine aUL P1 w.few (a.h:Int) (jX l) λh2 F2 P2 s2=>?_
   obtain⟨W2,sW2⟩:=aGo (X':=DC c b (s.told (a.h:Int) (jX l)) n) HB2 hdis ⟨sp,cp,bv,nv,P2⟩ s2
   rw[←eFa] at sW2
   obtain⟨F3,W3,s3⟩:=back W2 (s1.trans sW2)
   have:=fin (hh:=0) W3 (yN n) (by rw[hda];exact λ_ h=>h) s3 hdd
   exact this
 have q1:(a.kind==1)=false:=by simp[k1]
 rw[if_neg k1] at hdd hda
 by_cases k2:a.kind=2
 ·have q:(a.kind==2)=true:=by simp[k2]
  rw[if_pos k2] at hdd hda
  simp only[cH.f0,cH.f2,cH.f4,fL,lk,lh B1,lp,hE,q0,q1,q,Pk.zb,cE,reduceIte,cT,Nat.reduceAdd]
  have erc:aIy s a.p (kX so a) (a.h:Int)=pD s (pW s a.p (kX so a) (a.h:Int)):=rfl
  refine aUH HA w hn wa.p hpf wa.h (λhe h1 H1 s1=>?_) (λhe h1 F1 H1 s1=>?_)
  ·rw[erc] at he ⊢
   rw[if_neg he] at hdd hda
   obtain⟨F2,W2,s2⟩:=back H1 s1
   exact fin (hh:=0) W2 (yN n) (by rw[hda];exact λ_ h=>h) s2 hdd
  ·rw[erc] at he
   rw[if_pos he] at hdd hda
   obtain⟨F2,W2,s2⟩:=back H1 s1
   exact fin (hh:=0) W2 (qZ _) (by rw[hda];exact λ_ h=>h) s2 hdd
 have q2:(a.kind==2)=false:=by simp[k2]
 rw[if_neg k2] at hdd hda
 by_cases k3:a.kind=3
 ·have q:(a.kind==3)=true:=by simp[k3]
  rw[if_pos k3] at hdd hda
  simp only[cH.f0,cH.f2,cH.f4,fL,lk,lh B1,lp,hE,q0,q1,q2,q,Pk.zb,cE,reduceIte,cT,Nat.reduceAdd]
  refine aWh HA w hn wa.p hpf wa.h (λhe h1 H1 s1=>?_) (λhe h1 F1 H1 s1=>?_)
  ·rw[if_neg he] at hdd hda
   obtain⟨F2,W2,s2⟩:=back H1 s1
   exact fin (hh:=0) W2 (yN n) (by rw[hda];exact λ_ h=>h) s2 hdd
  ·rw[if_pos he] at hdd hda
   obtain⟨F2,W2,s2⟩:=back H1 s1
   exact fin (hh:=0) W2 (qZ _) (by rw[hda];exact λ_ h=>h) s2 hdd
 have q3:(a.kind==3)=false:=by simp[k3]
 rw[if_neg k3] at hdd hda
 by_cases k4:a.kind=4
 ·have q:(a.kind==4)=true:=by simp[k4]
  rw[if_pos k4] at hdd hda
  simp only[cH.f0,cH.f2,cH.f4,fL,lk,lh B1,lp,hE,q0,q1,q2,q3,q,Pk.zb,cE,reduceIte,cT,Nat.reduceAdd]
  refine aQa HA w hn wa.p hpf wa.h (λhe h1 H1 s1=>?_) (λhe h1 F1 H1 s1=>?_)
  ·rw[if_neg he] at hdd hda
   obtain⟨F2,W2,s2⟩:=back H1 s1
   exact fin (hh:=0) W2 (yN n) (by rw[hda];exact λ_ h=>h) s2 hdd
  ·rw[if_pos he] at hdd hda
   obtain⟨F2,W2,s2⟩:=back H1 s1
   exact fin (hh:=0) W2 (qZ _) (by rw[hda];exact λ_ h=>h) s2 hdd
 have q4:(a.kind==4)=false:=by simp[k4]
 rw[if_neg k4] at hdd hda
 by_cases k5:a.kind=5
 ·have q:(a.kind==5)=true:=by simp[k5]
  rw[if_pos k5] at hdd
  simp only[cH.f0,fL,lk,hE,q0,q1,q2,q3,q4,q,cE,reduceIte,cT,Nat.reduceAdd]
  obtain⟨Fcd,HCd,HB,eFa,hdis⟩:=aEc HA
  refine aUb HCd hn λh1 F1 H1 s1=>?_
  obtain⟨W1,sW1⟩:=aGo HB hdis H1 s1
  rw[←eFa] at sW1
  obtain⟨F2,W2,s2⟩:=back W1 sW1
  simp only[Pk.zb,cE,reduceIte,cT,Nat.reduceAdd]
  exact fin W2 (qZ _) (by rw[hda];exact λ_ h=>h) s2 hdd
 ·have q:(a.kind==5)=false:=by simp[k5]
  rw[if_neg k5] at hdd
  obtain⟨F2,W2,s2⟩:=back HA iR.refl
  simp only[cH.f0,fL,lk,hE,q0,q1,q2,q3,q4,q,Pk.zb,cE,reduceIte,cT,Nat.reduceAdd]
  exact fin (hh:=0) W2 (yN n) (by rw[hda];exact λ_ h=>h) s2 hdd
theorem dT.flip{A B C D:kG}{h:PH}{F:List Nat}(H:dT (dT A B) (dT C D) h F):∃F',dT (dT A D) (dT C B) h F'∧∀x,x∈F'↔x∈F:=by
 obtain⟨Fx,Fy,rfl,⟨Fa,Fb,rfl,ha,hb,d1⟩,⟨Fc,Fd,rfl,hc,hd,d2⟩,d3⟩:=H
 refine⟨(Fa++Fd)++(Fc++Fb),⟨Fa++Fd,Fc++Fb,rfl,⟨Fa,Fd,rfl,ha,hd,λx hx hx'=>d3 x (by simp[hx]) (by simp[hx'])⟩,⟨Fc,Fb,rfl,hc,hb,λx hx hx'=>d3 x (by simp[hx']) (by simp[hx])⟩,λx hx hx'=>?_⟩,λx=>?_⟩
 ·rcases jJ.1 hx with hx|hx
  ·rcases jJ.1 hx' with hx'|hx'
   ·exact d3 x (by simp[hx]) (by simp[hx'])
   ·exact d1 x hx hx'
  ·rcases jJ.1 hx' with hx'|hx'
   ·exact d2 x hx' hx
   ·exact d3 x (by simp[hx']) (by simp[hx])
 ·simp only[jJ]
  constructor
  ·rintro((h|h)|(h|h))<;>simp[h]
  ·rintro((h|h)|(h|h))<;>simp[h]
def DTw(t d0 d1 b m:Nat)(A:List Tx)(K:List Nat)(s0 s1:Ch)(n:Nat):kG:=dT (dCh b m A K d0 s0 n) (dRe t (aEb d0 d1) d1 b s1 n)
theorem DTw.good(t d0 d1 b m:Nat)(A:List Tx)(K:List Nat)(s0 s1:Ch)(n:Nat):kN (DTw t d0 d1 b m A K s0 s1 n):=(dCh.good _ _ _ _ _ _ _).star (dRe.good _ _ _ _ _ _)
theorem aVK{r o i:Nat}(hi:i<2):cV PG (indexAt kC (pT r o) (.int .i64 (i:Int)))=some (pT r (o+i)):=by
 have ix:=aAy (P:=PG) (t:=kC) (b:=r) (o:=o) (k:=.i64) (j:=(i:Int)) kC.und gV.info gV.size (by omega) (by omega)
 rw[ix,qQ,Nat.mul_one]
noncomputable def twA(a b:Ch)(x:kM):List Tx:=if x.id=1 then doA b a x else doA a b x
theorem aUq{t d0 d1 b m:Nat}{A:List Tx}{K:List Nat}{s0 s1:Ch}{n:Nat}{h:PH}{F:List Nat}(H:DTw t d0 d1 b m A K s0 s1 n h F)(x:kM):∃(c o:Nat) (s so:Ch) (F1:List Nat),dT (dCh b m A K c s n) (dRe t (aEb d0 d1) o b so n) h F1∧(∀y,y∈F1↔y∈F)∧(aEb d0 d1)[pV x.id]? =some (pT c 0)∧(aEb d0 d1)[1-pV x.id]? =some (pT o 0)∧(s=s0∨s=s1)∧(jU s so x).2=(gL s0 s1 x).2∧doA s so x=twA s0 s1 x∧
  ∀(A':List Tx) (n':Nat) (h':PH) (F':List Nat),dT (dCh b m A' K c (jU s so x).1 n') (dRe t (aEb d0 d1) o b so n') h' F'->∃F'',DTw t d0 d1 b m A' K (gL s0 s1 x).1.1 (gL s0 s1 x).1.2 n' h' F''∧∀y,y∈F''↔y∈F':=by
 by_cases e:x.id=1
 ·have e1:pV x.id=1:=by unfold pV;rw[if_pos e]
  obtain⟨F1,H1,hF⟩:=dT.flip H
  refine⟨d1,d0,s1,s0,F1,H1,hF,by rw[e1];rfl,by rw[e1];rfl,.inr rfl,?_,?_,λA' n' h' F' H'=>?_⟩
  ·unfold gL;rw[if_pos e]
  ·unfold twA;rw[if_pos e]
  ·obtain⟨F2,H2,hF2⟩:=dT.flip H'
   refine⟨F2,?_,hF2⟩
   unfold gL
   rw[if_pos e]
   exact H2
 ·have e1:pV x.id=0:=by unfold pV;rw[if_neg e]
  refine⟨d0,d1,s0,s1,F,H,λy=>Iff.rfl,by rw[e1];rfl,by rw[e1];rfl,.inl rfl,?_,?_,λA' n' h' F' H'=>⟨F',?_,λy=>Iff.rfl⟩⟩
  ·unfold gL;rw[if_neg e]
  ·unfold twA;rw[if_neg e]
  ·unfold gL
   rw[if_neg e]
   exact H'
theorem aXF{h:PH}{t d0 d1 b m:Nat}{A:List Tx}{K:List Nat}{s0 s1:Ch}{n:Nat}{F:List Nat}(H:DTw t d0 d1 b m A K s0 s1 n h F)(w0:s0.DOk)(w1:s1.DOk)(hn:n≤10000){x:kM}(wx:x.wf)(hd64:x.d.length≤1000000){kk:cD}
  (hk:∀h' F',DTw t d0 d1 b m (twA s0 s1 x++A) K (gL s0 s1 x).1.1 (gL s0 s1 x).1.2 (n+1) h' F'->iR h F h' F'->kk (.tuple #[(gL s0 s1 x).2.1.v,.int .u64 ((gL s0 s1 x).2.2.1:Int),.int .i64 (gL s0 s1 x).2.2.2]) h'):
  aT PG wW #[pT t 0,x.v] h kk:=by
 apply rI.call
 unfold rI
 obtain⟨c,o,s,so,F1,S,hF,hc,ho,hs,e2,eA,hW⟩:=aUq H x
 have w:s.DOk:=by rcases hs with rfl|rfl<;>assumption
 have gC:=λA s n=>dCh.good b m A K c s n
 have gR:=λn=>dRe.good t (aEb d0 d1) o b so n
 have gS:=λA s n n'=>(gC A s n).star (gR n')
 intro r1 hr1
 try rw[cZ]
 have u1:dC h (h.set r1 (.cells (Value.cells x.v) cH)):=cU.new hr1
 have B1:Bx (h.set r1 (.cells (Value.cells x.v) cH)) r1 x.cells:=Bx.new
 generalize h.set r1 (.cells (Value.cells x.v) cH)=h1 at *
 intro r3 hr3
 try rw[cZ]
 have u3:dC h1 (h1.set r3 (.cells (dP PG aR) aR)):=cU.new hr3
 have Z3:=aR.zbox (h:=h1) (r:=r3)
 have C1:=B1.ext u3
 generalize h1.set r3 (.cells (dP PG aR) aR)=h3 at *
 have e3:=u1.trans u3
 have k1:h r1=none:=hr1
 have k3:h r3=none:=u1.none hr3
 have kS:=(gS A s n n).known S
 have n1:r1∉F1:=λhm=>kS _ hm k1
 have n3:r3∉F1:=λhm=>kS _ hm k3
 have li:∀{h'':PH},dC h3 h''->cG PG h'' (loadAt bT (pT r1 1))=some (.int .i64 x.id):=λv=>by rw[bT.load,(C1.ext v).cell];rfl
 have hsd:=aQy x.id
 have w1:IntKind.i64.wrap (1-((pV x.id:Nat):Int))=((1-pV x.id:Nat):Int):=by rw[eZ (by omega) (by omega)];omega
 have S3:=(gS A s n n).ext S e3
 obtain⟨Fc,Fr,eF,HC,⟨Ft,Fo,eFr,⟨-,Bt⟩,HO,-⟩,dcr⟩:=id S3
 have lc:cG PG h3 (loadAt gV (pT t (pV x.id)))=some (pT c 0):=by rw[gV.load,Bt.cell];exact hc
 have lo:cG PG h3 (loadAt gV (pT t (1-pV x.id)))=some (pT o 0):=by rw[gV.load,Bt.cell];exact ho
 have ix1:=aVK (r:=t) (o:=0) (i:=pV x.id) hsd
 have ix2:=aVK (r:=t) (o:=0) (i:=1-pV x.id) (by omega)
 rw[fL] at ix1 ix2
 have lk:cG PG h3 (loadAt bT (pT r1 0))=some (.int .i64 x.kind):=by rw[bT.load,C1.cell];rfl
 have lh:∀{h'':PH},dC h3 h''->cG PG h'' (loadAt cA (pT r1 2))=some (.int .u64 (x.h:Int)):=λv=>by rw[cA.load,(C1.ext v).cell];rfl
 have ld:cG PG h3 (loadAt bR (pT r1 3))=some (.string (tx x.d)):=by rw[bR.load,C1.cell];rfl
 have lsp:cG PG h3 (loadAt gF (pT r1 8))=some (.bool x.sp):=by rw[gF.load,C1.cell];rfl
 have lx:cG PG h3 (loadAt cH (pT r1 0))=some x.v:=cH.agg C1 (by show 0+9≤9;decide)
 -- the second half
 have tail:∀{h5:PH},dT (dCh b m A K c s n) (dRe t (aEb d0 d1) o b so n) h5 F1->iR h3 F1 h5 F1->oJ kk (pT r1 0) (pT r3 0) (pT c 0) (pT o 0) (.string (tx (kX so x))) h5:=by
  intro h5 S5 s5
  refine aUZ S5 w hn wx hd64 (C1.upd s5.upd n1) n1 rfl (Z3.upd s5.upd n3) n3 λh6 F6 W6 u6 g6=>?_
  rw[e2]
  rw[eA] at W6
  obtain⟨F7,W7,hF7⟩:=hW _ _ _ _ W6
  refine hk h6 F7 W7 ⟨λbk ob hb hn=>u6 bk ob (s5.upd bk ob (e3.get hb) (λhm=>hn ((hF bk).1 hm))) (λhm=>?_),λbk hb=>?_⟩
  ·rcases gZ.1 hm with rfl|hm
   ·rw[k3] at hb;cases hb
   ·exact hn ((hF bk).1 hm)
  ·rcases g6 bk ((hF7 bk).1 hb) with hx|hx
   ·exact .inl ((hF bk).1 hx)
   ·refine .inr ?_
    by_cases hm:bk∈F1
    ·exact absurd hx ((gS A s n n).known S5 bk hm)
    ·cases hh:h bk with
     | none=>rfl
     | some ob=>
      have:=s5.upd bk ob (e3.get hh) hm
      rw[hx] at this;cases this
 simp only[cH.f1,kH.f0,fL,li cU.refl,cE,reduceIte,cT,Nat.reduceAdd]
 refine aLu x.id ?_
 refine⟨li cU.refl,?_⟩
 simp only[ix1,lc,cE,reduceIte,cT,Nat.reduceAdd]
 refine aLu x.id ?_
 refine⟨lc,?_⟩
 simp only[w1,ix2,lo,cH.f0,cH.f2,cH.f3,cH.f5,fL,ld,lsp,cE,reduceIte,cT,Nat.reduceAdd]
 have plain:¬(x.sp=false∧2≤x.kind∧x.kind≤4)->oJ kk (pT r1 0) (pT r3 0) (pT c 0) (pT o 0) (.string (tx x.d)) h3:=λhn=>by
  have:=tail (h5:=h3) S3 iR.refl
  unfold kX at this
  rw[if_neg hn] at this
  exact this
 cases hsp:x.sp with
 | true=>
  simp only[cE,reduceIte,cT,Nat.reduceAdd]
  exact plain (by rw[hsp];simp)
 | false=>
  by_cases k2:2≤x.kind
  ·have g1:=eq_true k2
   by_cases k4:x.kind≤4
   ·have g2:=eq_true k4
    simp only[cH.f0,cH.f2,fL,lk,g1,g2,lx,lh cU.refl,cE,reduceIte,cT,Nat.reduceAdd]
    refine aOY wx λh4 u4=>?_
    refine⟨lh u4,?_⟩
    obtain⟨Fcd,HCd,HB,eFc,hdis⟩:=aEc HC
    obtain⟨osp,ocp,obv,onv,PO⟩:=id HO
    have hob:∀y∈Fo,y∉[b,m]:=λy hy hm=>by
     have h1:y∈Fr:=by rw[eFr];exact zLk _ hy
     simp only[gZ,kW,or_false] at hm
     rcases hm with rfl|rfl
     ·exact dcr _ (by rw[eFc];simp) h1
     ·exact dcr _ (by rw[eFc];simp) h1
    refine aTT (s:=so) (n:=n) (HB.ext u4) (mT.good.ext PO u4) hob (aIV x) wx.h λh5 B5 u5=>?_
    simp only[cE,reduceIte,cT,Nat.reduceAdd]
    have hbm:∀y∈[b,m],y∈F1:=λy hy=>by
     rw[eF,eFc]
     simp only[gZ,kW,or_false] at hy
     rcases hy with rfl|rfl<;>simp
    have S5:dT (dCh b m A K c s n) (dRe t (aEb d0 d1) o b so n) h5 F1:=by
     have S4:=(gS A s n n).ext S3 u4
     obtain⟨Gc,Gr,eG,HC4,HR4,dcr4⟩:=S4
     obtain⟨HC5,-⟩:=aGp (DC.good c b s n) HC4 B5 u5
     refine⟨Gc,Gr,eG,HC5,(gR n).upd HR4 u5 (λy hy hm=>?_),dcr4⟩
     obtain⟨Fz,_,_,eGc,_⟩:=aEc HC4
     simp only[gZ,kW,or_false] at hm
     rcases hm with rfl|rfl
     ·exact dcr4 _ (by rw[eGc];simp) hy
     ·exact dcr4 _ (by rw[eGc];simp) hy
    have:=tail S5 ⟨u4.upd.trans (u5.mono λy hy=>.inl (hbm y hy)),λy hy=>.inl hy⟩
    unfold kX at this
    rw[if_pos ⟨hsp,k2,k4⟩] at this
    exact this
   ·have g2:=eq_false k4
    simp only[cH.f0,lk,g1,g2,cE,reduceIte,cT,Nat.reduceAdd]
    exact plain (by simp[k4])
  ·have g1:=eq_false k2
   simp only[cH.f0,lk,g1,cE,reduceIte,cT,Nat.reduceAdd]
   exact plain (by simp[k2])
theorem aYC(b s c r:Nat)(id n:Int):cV PG (build cQ #[(0,pT b 0),(1,.int .i64 id),(2,pT s 0),(3,pT c 0),(4,.int .u64 n),(5,.slice (some ⟨r,0,none⟩) 1 1)])=some (.agg #[pT b 0,.int .i64 id,pT s 0,pT c 0,.int .u64 n,.slice (some ⟨r,0,none⟩) 1 1,.slice none 0 0]):=by kernel_rfl
theorem aNH{h:PH}{b:Nat}(id:Int){n:Nat}(hn:n<18446744073709551616)(seq:Nat){k:cD}(hk:∀h' r F,DC r b (Ch.new id n seq) 1 h' F->eP h F->dC h h'->k (pT r 0) h'):aT PG aAg #[pT b 0,.int .i64 id,.int .u64 (n:Int),.int .u64 (seq:Int)] h k:=by
 apply aC5.call
 unfold aC5
 refine aWa n hn λs h1 G S1 f1 u1=>?_
 simp only[gA.build0,cE,reduceIte,cT,Nat.reduceAdd]
 intro r4 hr4
 try rw[cZ]
 have u2:dC h1 (h1.set r4 (.cells (Value.cells (.agg #[.slice none 0 0])) gA)):=cU.new hr4
 have C2:xL (h1.set r4 (.cells (Value.cells (.agg #[.slice none 0 0])) gA)) r4 [] [r4]:=⟨.slice none 0 0,[],dL,eS.nil,rfl,by simp⟩
 generalize h1.set r4 (.cells (Value.cells (.agg #[.slice none 0 0])) gA)=h2 at *
 simp only[aV6,cE,reduceIte,cT,Nat.reduceAdd]
 intro r6 hr6
 refine fT ?_
 try rw[cZ]
 have u3:dC h2 (h2.set r6 (.cells #[.slice none 0 0] dB)):=cU.new hr6
 have O3:eS (h2.set r6 (.cells #[.slice none 0 0] dB)) dB 1 (.slice (some ⟨r6,0,none⟩) 1 1) [[.slice none 0 0]] [r6]:=eS.lit (n:=1) (aP2 (.slice none 0 0)) dL (by simp) (by decide) (by simp)
 have C3:=C2.ext u3
 generalize h2.set r6 (.cells #[.slice none 0 0] dB)=h3 at *
 simp only[aYC,cE,reduceIte,cT,Nat.reduceAdd]
 intro r11 hr11
 try rw[cZ]
 have u4:dC h3 (h3.set r11 (.cells (Value.cells (.agg #[pT b 0,.int .i64 id,pT s 0,pT r4 0,.int .u64 (seq:Int),.slice (some ⟨r6,0,none⟩) 1 1,.slice none 0 0])) cQ)):=cU.new hr11
 have X4:Bx (h3.set r11 (.cells (Value.cells (.agg #[pT b 0,.int .i64 id,pT s 0,pT r4 0,.int .u64 (seq:Int),.slice (some ⟨r6,0,none⟩) 1 1,.slice none 0 0])) cQ)) r11 ((Ch.new id n seq).dcells b s r4 (.slice (some ⟨r6,0,none⟩) 1 1) (.slice none 0 0)):=Bx.new
 generalize h3.set r11 (.cells (Value.cells (.agg #[pT b 0,.int .i64 id,pT s 0,pT r4 0,.int .u64 (seq:Int),.slice (some ⟨r6,0,none⟩) 1 1,.slice none 0 0])) cQ)=h4 at *
 have e13:=u2.trans u3
 have e14:=e13.trans u4
 have kS:∀y∈s::G,h1 y≠none:=λy hy=>(rsA.good _ _).known (show rsA s ⟨[],[[]],n⟩ h1 (s::G) from⟨G,S1,rfl⟩) y hy
 have D:DC r11 b (Ch.new id n seq) 1 h4 ([r11]++((s::G)++([r4]++([r6]++[])))):=by
  refine⟨s,r4,.slice (some ⟨r6,0,none⟩) 1 1,.slice none 0 0,dT.mk ⟨rfl,X4⟩ (dT.mk ((rsA.good _ _).ext (show rsA s ⟨[],[[]],n⟩ h1 (s::G) from⟨G,S1,rfl⟩) e14) (dT.mk (C3.ext u4) (dT.mk ⟨_,O3.ext u4,by simp,λr hr u hu=>?_⟩ ⟨[],eS.nil,by simp⟩ ?_) ?_) ?_) ?_⟩
  ·simp only[fW] at hr
   subst hr
   simp only[fW] at hu
   subst hu
   rfl
  ·simp
  ·intro y hy hm
   simp only[fW,zLN] at hy hm
   subst hy;subst hm
   have:=C2.known y (by simp)
   exact this hr6
  ·intro y hy hm
   have hk1:=kS y hy
   simp only[zLN,zLT,wN,gZ,kW,or_false] at hm
   rcases hm with rfl|rfl
   ·exact hk1 hr4
   ·exact hk1 (u2.none hr6)
  ·intro y hy hm
   simp only[fW] at hy
   subst hy
   simp only[zLN,zLT,wN,gZ,jJ,kW,or_false] at hm
   rcases hm with rfl|hm|rfl|rfl
   ·exact kS _ (by simp) (e13.none hr11)
   ·exact kS _ (by simp[hm]) (e13.none hr11)
   ·exact C3.known _ (by simp) hr11
   ·exact O3.known _ (by simp) hr11
 refine hk _ r11 _ D (λy hy=>?_) (dC.trans u1 e14)
 simp only[zLN,zLT,wN,gZ,jJ,kW,or_false] at hy
 rcases hy with rfl|rfl|hy|rfl|rfl
 ·exact(dC.trans u1 e13).none hr11
 ·exact f1 _ (by simp)
 ·exact f1 _ (by simp[hy])
 ·exact u1.none hr4
 ·exact(dC.trans u1 u2).none hr6
theorem aYm(a b:Nat):cV PG (build kC #[(0,pT a 0),(1,pT b 0)])=some (.agg #[pT a 0,pT b 0]):=by kernel_rfl
theorem aYG(a b:Nat):cV PG (build kH #[(0,.agg #[pT a 0,pT b 0])])=some (.agg #[pT a 0,pT b 0]):=by kernel_rfl
theorem aUk{h:PH}{bk mk:Nat}{Kk:List Nat}(HBk:Bk bk mk [] Kk h){a b s0 s1:Nat}(ha:a<18446744073709551616)(hb:b<18446744073709551616){k:cD}(hk:∀h' r d0 d1 F,DTw r d0 d1 bk mk [] Kk (Ch.new 0 a s0) (Ch.new 1 b s1) 1 h' F->(∀y∈F,y∈bk::mk::Kk∨h y=none)->dC h h'->k (pT r 0) h'):aT PG aC3 #[pT bk 0,tS a b,tS s0 s1] h k:=by
 apply vA.call
 unfold vA
 intro r1 hr1
 try rw[cZ]
 have u1:dC h (h.set r1 (.cells (Value.cells (tS a b)) eJ)):=cU.new hr1
 have B1:Bx (h.set r1 (.cells (Value.cells (tS a b)) eJ)) r1 (u2c a b):=Bx.new
 generalize h.set r1 (.cells (Value.cells (tS a b)) eJ)=h1 at *
 intro r3 hr3
 try rw[cZ]
 have u3:dC h1 (h1.set r3 (.cells (Value.cells (tS s0 s1)) eJ)):=cU.new hr3
 have B3:Bx (h1.set r3 (.cells (Value.cells (tS s0 s1)) eJ)) r3 (u2c s0 s1):=Bx.new
 have C1:=B1.ext u3
 generalize h1.set r3 (.cells (Value.cells (tS s0 s1)) eJ)=h3 at *
 have i0:∀{r:Nat},cV PG (indexAt eJ (pT r 0) (.int .i64 0))=some (pT r 0):=aNa (i:=0) (by decide)
 have i1:∀{r:Nat},cV PG (indexAt eJ (pT r 0) (.int .i64 1))=some (pT r 1):=fun {r}=>by have:=aNa (r:=r) (o:=0) (i:=1) (by decide);rw[fL] at this;exact this
 have l10:∀{h'':PH},dC h3 h''->cG PG h'' (loadAt cA (pT r1 0))=some (.int .u64 (a:Int)):=λv=>by rw[cA.load,(C1.ext v).cell];rfl
 have l11:∀{h'':PH},dC h3 h''->cG PG h'' (loadAt cA (pT r1 1))=some (.int .u64 (b:Int)):=λv=>by rw[cA.load,(C1.ext v).cell];rfl
 have l30:∀{h'':PH},dC h3 h''->cG PG h'' (loadAt cA (pT r3 0))=some (.int .u64 (s0:Int)):=λv=>by rw[cA.load,(B3.ext v).cell];rfl
 have l31:∀{h'':PH},dC h3 h''->cG PG h'' (loadAt cA (pT r3 1))=some (.int .u64 (s1:Int)):=λv=>by rw[cA.load,(B3.ext v).cell];rfl
 simp only[i0,i1,l10 cU.refl,l11 cU.refl,l30 cU.refl,l31 cU.refl,cE,reduceIte,cT,Nat.reduceAdd]
 refine aNH 0 ha s0 λh4 p F4 D4 f4 u4=>?_
 refine⟨l31 u4,l11 u4,?_⟩
 refine aNH 1 hb s1 λh5 q F5 D5 f5 u5=>?_
 simp only[aYm,aYG,cE,reduceIte,cT,Nat.reduceAdd]
 intro r19 hr19
 try rw[cZ]
 have u6:dC h5 (h5.set r19 (.cells (Value.cells (.agg #[pT p 0,pT q 0])) kH)):=cU.new hr19
 have X6:Bx (h5.set r19 (.cells (Value.cells (.agg #[pT p 0,pT q 0])) kH)) r19 (aEb p q):=Bx.new
 generalize h5.set r19 (.cells (Value.cells (.agg #[pT p 0,pT q 0])) kH)=h6 at *
 have e3:dC h h3:=u1.trans u3
 have e6:=((e3.trans u4).trans u5).trans u6
 have D46:=(DC.good _ _ _ _).ext D4 (u5.trans u6)
 have D56:=(DC.good _ _ _ _).ext D5 u6
 refine hk h6 r19 p q _ (dT.mk (dT.mk ⟨rfl,HBk.ext e6⟩ D46 ?_) (dT.mk ⟨rfl,X6⟩ D56 ?_) ?_) (λy hy=>?_) e6
 ·intro y hy hm
  exact HBk.known y hy (e3.none (f4 y hm))
 ·intro y hy hm
  simp only[fW] at hy
  subst hy
  exact(DC.good _ _ _ _).known D5 _ hm hr19
 ·intro y hy hm
  rcases jJ.1 hm with hm|hm
  ·simp only[fW] at hm
   subst hm
   rcases jJ.1 hy with hy|hy
   ·exact(HBk.ext (((e3.trans u4).trans u5))).known _ hy hr19
   ·exact(DC.good _ _ _ _).known ((DC.good _ _ _ _).ext D4 u5) _ hy hr19
  ·rcases jJ.1 hy with hy|hy
   ·exact(HBk.ext (e3.trans u4)).known _ hy (f5 _ hm)
   ·exact(DC.good _ _ _ _).known D4 _ hy (f5 _ hm)
 ·simp only[jJ,fW] at hy
  rcases hy with(hy|hy)|(rfl|hy)
  ·exact .inl hy
  ·exact .inr (e3.none (f4 y hy))
  ·exact .inr (((e3.trans u4).trans u5).none hr19)
  ·exact .inr ((e3.trans u4).none (f5 y hy))
def aSE(t:Nat)(A:List Tx)(s0 s1:Ch)(n:Nat):kG:=λh F=>∃c0 c1 m d0 d1 b mm K,dT (pC t c0 c1 m s0 s1) (DTw m d0 d1 b mm A K s0 s1 n) h F
theorem aSE.good(t:Nat)(A:List Tx)(s0 s1:Ch)(n:Nat):kN (aSE t A s0 s1 n) where
 known:=λ⟨_,_,_,_,_,_,_,_,H⟩=>((pC.good _ _ _ _ _ _).star (DTw.good _ _ _ _ _ _ _ _ _ _)).known H
 upd:=λ⟨c0,c1,m,d0,d1,b,mm,K,H⟩ u hK=>⟨c0,c1,m,d0,d1,b,mm,K,((pC.good _ _ _ _ _ _).star (DTw.good _ _ _ _ _ _ _ _ _ _)).upd H u hK⟩
theorem aPa{h:PH}(hK:mK h){a b s0 s1:Nat}(ha:a<18446744073709551616)(hb:b<18446744073709551616)(hs0:s0<18446744073709551616)(hs1:s1<18446744073709551616)(z0:s0≠0)(z1:s1≠0){k:cD}
  (hk:∀h' t F,aSE t [] (Ch.new 0 a s0) (Ch.new 1 b s1) 1 h' F->eP h F->dC h h'->k (pT t 0) h'):aT PG uI #[tS a b,tS s0 s1] h k:=by
 apply uY.call
 unfold uY
 intro r1 hr1
 try rw[cZ]
 have u1:dC h (h.set r1 (.cells (Value.cells (tS a b)) eJ)):=cU.new hr1
 have B1:Bx (h.set r1 (.cells (Value.cells (tS a b)) eJ)) r1 (u2c a b):=Bx.new
 generalize h.set r1 (.cells (Value.cells (tS a b)) eJ)=h1 at *
 intro r3 hr3
 try rw[cZ]
 have u3:dC h1 (h1.set r3 (.cells (Value.cells (tS s0 s1)) eJ)):=cU.new hr3
 have B3:Bx (h1.set r3 (.cells (Value.cells (tS s0 s1)) eJ)) r3 (u2c s0 s1):=Bx.new
 have C1:=B1.ext u3
 generalize h1.set r3 (.cells (Value.cells (tS s0 s1)) eJ)=h3 at *
 have e3:=u1.trans u3
 have la:∀{h'':PH},dC h3 h''->cG PG h'' (loadAt eJ (pT r1 0))=some (tS a b):=λv=>eJ.agg (C1.ext v) (by show 0+2≤2;decide)
 have ls:∀{h'':PH},dC h3 h''->cG PG h'' (loadAt eJ (pT r3 0))=some (tS s0 s1):=λv=>eJ.agg (B3.ext v) (by show 0+2≤2;decide)
 simp only[la cU.refl,ls cU.refl,cE,reduceIte,cT,Nat.reduceAdd]
 refine aWL λh4 bk mk Kk HBk fBk u4=>?_
 refine⟨ls u4,la u4,?_⟩
 have HBk:Bk bk mk [] Kk h4:=⟨false,[],HBk,λx hx=>hx⟩
 refine aUk HBk ha hb λh5 m d0 d1 FD HD fD u5=>?_
 have e35:=u4.trans u5
 simp only[aX9,cE,reduceIte,cT,Nat.reduceAdd]
 intro r12 hr12
 try rw[cZ]
 have u6:dC h5 (h5.set r12 (.cells (Value.cells (.agg #[.pointer none,.pointer none,pT m 0])) fZ)):=cU.new hr12
 have B6:Bx (h5.set r12 (.cells (Value.cells (.agg #[.pointer none,.pointer none,pT m 0])) fZ)) r12 [.pointer none,.pointer none,pT m 0]:=Bx.new
 generalize h5.set r12 (.cells (Value.cells (.agg #[.pointer none,.pointer none,pT m 0])) fZ)=h6 at *
 have e36:=e35.trans u6
 have k12:h5 r12=none:=hr12
 have C1:=C1.ext e35
 have B3:=B3.ext e35
 have K5:=hK.ext (e3.trans e35)
 -- what stands behind i chains
 refine⟨λvs h'=>∃i:Nat,vs=[pT r1 0,pT r3 0,pT r12 0,.int .i64 (i:Int)]∧dC h5 h'∧((i=0∧Bx h' r12 [.pointer none,.pointer none,pT m 0])∨(i=1∧∃c0 F0,Bx h' r12 [pT c0 0,.pointer none,pT m 0]∧iO c0 (Ch.new 0 a s0) h' F0∧eP h5 F0∧r12∉F0)∨(i=2∧∃F,(∃c0 c1,pC r12 c0 c1 m (Ch.new 0 a s0) (Ch.new 1 b s1) h' F)∧eP h5 F)),iE 2 3,⟨0,rfl,u6,.inl ⟨rfl,B6⟩⟩,?_⟩
 rintro ρ h' ⟨i,hvs,w,hc⟩
 simp only[iH,iU,lF,and_true] at hvs
 obtain⟨v0,v1,v2,v3⟩:=hvs
 unfold aFv
 rw[v0,v1,v2,v3]
 have i0:∀{r:Nat},cV PG (indexAt eJ (pT r 0) (.int .i64 0))=some (pT r 0):=aNa (i:=0) (by decide)
 have i1:∀{r:Nat},cV PG (indexAt eJ (pT r 0) (.int .i64 1))=some (pT r 1):=fun {r}=>by have:=aNa (r:=r) (o:=0) (i:=1) (by decide);rw[fL] at this;exact this
 have j0:∀{r:Nat},cV PG (indexAt jP (pT r 0) (.int .i64 0))=some (pT r 0):=aN0 (i:=0) (by decide)
 have j1:∀{r:Nat},cV PG (indexAt jP (pT r 0) (.int .i64 1))=some (pT r 1):=fun {r}=>by have:=aN0 (r:=r) (o:=0) (i:=1) (by decide);rw[fL] at this;exact this
 have l10:cG PG h' (loadAt cA (pT r1 0))=some (.int .u64 (a:Int)):=by rw[cA.load,(C1.ext w).cell];rfl
 have l11:cG PG h' (loadAt cA (pT r1 1))=some (.int .u64 (b:Int)):=by rw[cA.load,(C1.ext w).cell];rfl
 have l30:cG PG h' (loadAt cA (pT r3 0))=some (.int .u64 (s0:Int)):=by rw[cA.load,(B3.ext w).cell];rfl
 have l31:cG PG h' (loadAt cA (pT r3 1))=some (.int .u64 (s1:Int)):=by rw[cA.load,(B3.ext w).cell];rfl
 have nilN:∀{h'':PH} {x y:Operand} {c:Nat},cG PG h'' (jQ .eql dG x y (pT c 0) (.pointer none))=some (.bool false):=aEH dG.und
 have K':mK h':=K5.ext w
 rcases hc with⟨rfl,B⟩|⟨rfl,c0,F0,B,A0,f0,n0⟩|⟨rfl,F,T,f⟩
 ·have g:(((0:Nat):Int)<2)=True:=eq_true (by decide)
  simp only[g,show((0:Nat):Int)=0 from rfl,i0,l10,l30,cE,reduceIte,cT,Nat.reduceAdd]
  refine aOH K' 0 ha hs0 (λhb=>absurd hb (by omega)) λ_ h7 c F A f u7=>?_
  simp only[kU,nilN,fZ.f0,j0,cE,reduceIte,cT,Nat.reduceAdd]
  have B7:=B.ext u7
  have nF:r12∉F:=λhm=>B.known (f _ hm)
  refine dG.put B7 (o:=0) (by show 0<3;decide) rfl λh8 B8 u8=>?_
  have ei:IntKind.i64.wrap ((0:Int)+1)=((1:Nat):Int):=rfl
  simp only[ei,cE,reduceIte,cT,Nat.reduceAdd]
  exact⟨⟨1,rfl,(w.trans u7).fresh u8 (eP.one k12),.inr (.inl ⟨rfl,c,F,B8,(iO.good _ _).upd A u8 (λb hb=>by simp only[fW];rintro rfl;exact nF hb),f.of w,nF⟩)⟩,by simp[iE,v3]⟩
 ·have g:(((1:Nat):Int)<2)=True:=eq_true (by decide)
  simp only[g,show((1:Nat):Int)=1 from rfl,i1,l11,l31,cE,reduceIte,cT,Nat.reduceAdd]
  refine aOH K' 1 hb hs1 (λhb=>absurd hb (by omega)) λ_ h7 c F A f u7=>?_
  simp only[kU,nilN,fZ.f0,j1,cE,reduceIte,cT,Nat.reduceAdd]
  have B7:=B.ext u7
  have nF:r12∉F:=λhm=>B.known (f _ hm)
  have A07:=(iO.good _ _).ext A0 u7
  have d0:∀b∈F0,b∉F:=λb hb hm=>(iO.good _ _).known A0 b hb (f b hm)
  refine dG.put B7 (o:=1) (by show 1<3;decide) rfl λh8 B8 u8=>?_
  have ei:IntKind.i64.wrap ((1:Int)+1)=((2:Nat):Int):=rfl
  simp only[ei,cE,reduceIte,cT,Nat.reduceAdd]
  have A08:=(iO.good _ _).upd A07 u8 (λb hb=>by simp only[fW];rintro rfl;exact n0 hb)
  have A8:=(iO.good _ _).upd A u8 (λb hb=>by simp only[fW];rintro rfl;exact nF hb)
  have T:∃c0 c1,pC r12 c0 c1 m (Ch.new 0 a s0) (Ch.new 1 b s1) h8 ([r12]++(F0++F)):=⟨c0,c,dT.mk ⟨rfl,B8⟩ (dT.mk A08 A8 d0) (λb hb=>by
   simp only[fW] at hb
   subst hb
   simp only[jJ,not_or]
   exact⟨n0,nF⟩)⟩
  exact⟨⟨2,rfl,(w.trans u7).fresh u8 (eP.one k12),.inr (.inr ⟨rfl,_,T,λb hb=>by
   simp only[jJ,fW] at hb
   rcases hb with rfl|hb|hb
   ·exact k12
   ·exact f0 b hb
   ·exact w.none (f b hb)⟩)⟩,by simp[iE,v3]⟩
 ·have g:(((2:Nat):Int)<2)=False:=eq_false (by decide)
  simp only[g,cE,reduceIte,cT,Nat.reduceAdd]
  obtain⟨c0,c1,T⟩:=T
  have hD:=(DTw.good _ _ _ _ _ _ _ _ _ _).ext HD w
  refine hk h' r12 (F++FD) ⟨c0,c1,m,d0,d1,bk,mk,Kk,dT.mk T hD (λy hy hm=>(DTw.good _ _ _ _ _ _ _ _ _ _).known HD y hm (f y hy))⟩ (λy hy=>?_) ((e3.trans e35).trans w)
  rcases jJ.1 hy with hy|hy
  ·exact(e3.trans e35).none (f y hy)
  ·rcases fD y hy with hy|hy
   ·exact e3.none (fBk y hy)
   ·exact(e3.trans u4).none hy
theorem aSa{h:PH}{s0 s1:Nat}{v:Value}{l:List kM}(S:fY h 9 v (l.map kM.cells)){k:cD}(hk:∀h' b,(b=true->s0≠0∧s1≠0∧l.length≤50∧∀x∈l,x.d.length≤2000∧x.p.d.size≤300)->dC h h'->k (.bool b) h'):aT PG aDZ #[tS s0 s1,v] h k:=by
 apply aC1.call
 unfold aC1
 intro r1 hr1
 try rw[cZ]
 have u1:dC h (h.set r1 (.cells (Value.cells (tS s0 s1)) eJ)):=cU.new hr1
 have B1:Bx (h.set r1 (.cells (Value.cells (tS s0 s1)) eJ)) r1 (u2c s0 s1):=Bx.new
 generalize h.set r1 (.cells (Value.cells (tS s0 s1)) eJ)=h1 at *
 have i0:cV PG (indexAt eJ (pT r1 0) (.int .i64 0))=some (pT r1 0):=aNa (i:=0) (by decide)
 have i1:cV PG (indexAt eJ (pT r1 0) (.int .i64 1))=some (pT r1 1):=by have:=aNa (r:=r1) (o:=0) (i:=1) (by decide);rw[fL] at this;exact this
 have l0:cG PG h1 (loadAt cA (pT r1 0))=some (.int .u64 (s0:Int)):=by rw[cA.load,B1.cell];rfl
 have l1:cG PG h1 (loadAt cA (pT r1 1))=some (.int .u64 (s1:Int)):=by rw[cA.load,B1.cell];rfl
 have ll:=aN8 S
 have no:k (.bool false) h1:=hk h1 false (λe=>by cases e) u1
 by_cases z0:s0=0
 ·have q:((s0:Int)==0)=true:=by rw[z0];rfl
  simp only[i0,l0,hE,q,cE,reduceIte,cT,Nat.reduceAdd]
  exact no
 have q0:((s0:Int)==0)=false:=by rw[beq_eq_false_iff_ne];omega
 by_cases z1:s1=0
 ·have q:((s1:Int)==0)=true:=by rw[z1];rfl
  simp only[i0,l0,i1,l1,hE,q0,q,cE,reduceIte,cT,Nat.reduceAdd]
  exact no
 have q1:((s1:Int)==0)=false:=by rw[beq_eq_false_iff_ne];omega
 by_cases z2:50<l.length
 ·have g:((50:Int)<(l.length:Int))=True:=eq_true (by omega)
  simp only[i0,l0,i1,l1,hE,q0,q1,ll,g,cE,reduceIte,cT,Nat.reduceAdd]
  exact no
 have g:((50:Int)<(l.length:Int))=False:=eq_false (by omega)
 simp only[i0,l0,i1,l1,hE,q0,q1,ll,g,cE,reduceIte,cT,Nat.reduceAdd]
 refine⟨λvs h'=>∃i:Nat,i≤l.length∧vs=[v,.int .i64 (i:Int)]∧h'=h1∧∀x∈l.take i,x.d.length≤2000∧x.p.d.size≤300,iE l.length 1,⟨0,by omega,rfl,rfl,by simp⟩,?_⟩
 rintro ρ h' ⟨i,hi,hvs,rfl,hall⟩
 simp only[iH,iU,lF,and_true] at hvs
 obtain⟨v0,v1⟩:=hvs
 unfold aGc
 rw[v0,v1]
 by_cases hlt:i<l.length
 ·have g1:((i:Int)<(l.length:Int))=True:=eq_true (by omega)
  have gi:=rA (i:=i) (by omega)
  obtain⟨x,hx⟩:∃x,l[i]? =some x:=⟨_,lS hlt⟩
  obtain⟨b,o,a1,a2,a3,-⟩:=(S.ext u1).tac hx
  have ld:cV PG (Builtin.len_ #[bR] bT #[.string (tx x.d)])=some (.int .i64 (x.d.length:Int)):=by rw[lV bR.und,iD]
  have lp:cV PG (Builtin.len_ #[bR] bT #[.string x.p.d])=some (.int .i64 (x.p.d.size:Int)):=lV bR.und
  by_cases y1:2000<x.d.length
  ·have g2:((2000:Int)<(x.d.length:Int))=True:=eq_true (by omega)
   simp only[ll,g1,a1,cH.f3,bR.load,a2,ld,g2,cE,reduceIte,cT,Nat.reduceAdd]
   exact no
  have g2:((2000:Int)<(x.d.length:Int))=False:=eq_false (by omega)
  by_cases y2:300<x.p.d.size
  ·have g3:((300:Int)<(x.p.d.size:Int))=True:=eq_true (by omega)
   simp only[ll,g1,a1,cH.f3,cH.f4,aR.f3,Nat.add_assoc,Nat.reduceAdd,bR.load,a2,a3,ld,lp,g2,g3,cE,reduceIte,cT,Nat.reduceAdd]
   exact no
  have g3:((300:Int)<(x.p.d.size:Int))=False:=eq_false (by omega)
  simp only[ll,g1,a1,cH.f3,cH.f4,aR.f3,Nat.add_assoc,Nat.reduceAdd,bR.load,a2,a3,ld,lp,g2,g3,gi,cE,reduceIte,cT,Nat.reduceAdd]
  refine⟨⟨i+1,by omega,rfl,by first|rfl|trivial,λy hy=>?_⟩,by simp[iE,v1];omega⟩
  rw[zLR,hx] at hy
  rcases jJ.1 hy with hy|hy
  ·exact hall y hy
  ·simp only[Option.toList_some,fW] at hy
   subst hy
   omega
 ·have g1:((i:Int)<(l.length:Int))=False:=eq_false (by omega)
  simp only[ll,g1,cE,reduceIte,cT,Nat.reduceAdd]
  rw[mV (by omega)] at hall
  exact hk _ true (λ_=>⟨z0,z1,by omega,hall⟩) u1
theorem Pk.eqX{h:PH}{d:Nat}(m m':Pk):cG PG h (Op.equalIn (d+1+1) aR (.agg m.cells.toArray) (.agg m'.cells.toArray))=some (decide (m=m')):=by
 have hp:cG PG h (Op.equalIn (d+1+1) aR (.agg m.cells.toArray) (.agg m'.cells.toArray))=
   some (m.f==m'.f&&(m.s==m'.s&&(m.t==m'.t&&(m.d==m'.d&&true)))):=by
  refine(aJO aR.und (by kernel_rfl) (λf=>match f.offset with|0=>m.f==m'.f|1=>m.s==m'.s|2=>m.t==m'.t|_=>m.d==m'.d) ?_)
  intro f hf
  simp only[gZ,kW,or_false] at hf
  rcases hf with rfl|rfl|rfl|rfl
  ·exact⟨by decide,_,_,mE bT.und rfl rfl,mE bT.und rfl rfl,aFf bT.und⟩
  ·exact⟨by decide,_,_,mE cA.und rfl rfl,mE cA.und rfl rfl,aFf cA.und⟩
  ·exact⟨by decide,_,_,mE cA.und rfl rfl,mE cA.und rfl rfl,aFf cA.und⟩
  ·exact⟨by decide,_,_,mE bR.und rfl rfl,mE bR.und rfl rfl,aEt bR.und⟩
 rw[hp]
 congr 1
 simp only[aCf]
 rw[zLl]
 cases m;cases m'
 simp[Pk.mk.injEq]
def pkE(m:Pk):Value:=.agg m.cells.toArray
theorem aKo:aHy PG aR pkE where
 chk:=λh b a=>by unfold pkE Pk.cells;cases b<;>kernel_rfl
 eq:=λh a b=>Pk.eqX (d:=9998) a b
 bits:=λa=>by
  show Instr.sameBits (9999+1) (.agg a.cells.toArray) (.agg a.cells.toArray)=true
  simp[Instr.sameBits,Pk.cells,aCf]
 now:=⟨_,aR.und,.inl λa b=>rfl⟩
def aR4(p:Pk):Pk×Value:=(p,.bool true)
def aUQ(l:List Pk)(p:Pk):List Pk:=if p∈l then l else l++[p]
def aMn(b x y:Nat)(lx ly:List Pk):kG:=λh F=>F=[b,x,y]∧Bx h b [.map (some x),.map (some y)]∧iQ pkE h x (lx.map aR4)∧iQ pkE h y (ly.map aR4)∧b≠x∧b≠y∧x≠y
theorem aMn.good(b x y:Nat)(lx ly:List Pk):kN (aMn b x y lx ly) where
 known:=by
  rintro h F ⟨rfl,B,M1,M2,-⟩ z hz
  simp only[gZ,kW,or_false] at hz
  rcases hz with rfl|rfl|rfl
  ·exact B.known
  ·exact M1.known
  ·exact M2.known
 upd:=by
  rintro h F h' K ⟨rfl,B,M1,M2,hne⟩ u hK
  exact⟨rfl,B.upd u (hK b (by simp)),M1.upd u (hK x (by simp)),M2.upd u (hK y (by simp)),hne⟩
def aUf(f:Int)(lx ly:List Pk):List Pk:=if f=1 then ly else lx
def atP(f:Int)(x y:Nat):Nat:=if f=1 then y else x
theorem aMn.at{b x y:Nat}{lx ly:List Pk}{h:PH}{F:List Nat}(H:aMn b x y lx ly h F){f:Int}(h0:0≤f)(h1:f≤1):cG PG h (loadAt mG (pT b f.toNat))=some (.map (some (atP f x y)))∧iQ pkE h (atP f x y) ((aUf f lx ly).map aR4):=by
 obtain⟨-,B,M1,M2,-⟩:=H
 have:f=0∨f=1:=by omega
 rcases this with rfl|rfl
 ·exact⟨by rw[mG.load,B.cell];rfl,M1⟩
 ·exact⟨by rw[mG.load,B.cell];rfl,M2⟩
theorem aMn.put{b x y:Nat}{lx ly:List Pk}{h h':PH}{F:List Nat}(H:aMn b x y lx ly h F){f:Int}{p:Pk}(h0:0≤f)(h1:f≤1)(M:iQ pkE h' (atP f x y) ((aUQ (aUf f lx ly) p).map aR4))(u:cU [atP f x y] h h'):aMn b x y (if f=1 then lx else aUQ lx p) (if f=1 then aUQ ly p else ly) h' F∧iR h F h' F:=by
 obtain⟨rfl,B,M1,M2,n1,n2,n3⟩:=H
 have:f=0∨f=1:=by omega
 rcases this with rfl|rfl
 ·refine⟨⟨rfl,B.upd u (by simpa[atP] using n1),M,M2.upd u (by simpa[atP] using n3.symm),n1,n2,n3⟩,⟨u.mono λz hz=>.inl ?_,λz hz=>.inl hz⟩⟩
  simp only[atP,fW] at hz
  simp[hz]
 ·refine⟨⟨rfl,B.upd u (by simpa[atP] using n2),M1.upd u (by simpa[atP] using n3),M,n1,n2,n3⟩,⟨u.mono λz hz=>.inl ?_,λz hz=>.inl hz⟩⟩
  simp only[atP,fW] at hz
  simp[hz]
def aVi(a:kM)(e:Int)(K:Pk->Prop):Pk->Prop:=λp=>K p∨(e=0∧a.kind=3∧p=a.p)
structure SI(s0 s1:Ch)(A:List Tx)(G K T:Pk->Prop):Prop where
 d1:vH s0 s1 A G T
 d2:vH s1 s0 A G T
 ak:∀p,K p->G p
 no:∀p,T p->¬G p
theorem aSn(c o:Ch)(a:kM):(jU c o a).1.id=c.id:=by
 rcases aHZ c o a with⟨-,-,e,-⟩|⟨-,b,-,e,-⟩|⟨-,-,e,-⟩|⟨-,-,e,-⟩|⟨-,-,e,-⟩|⟨-,e⟩|⟨e,-⟩<;>rw[e]
 ·rfl
 ·rfl
 ·rfl
 ·rfl
 ·rfl
 ·exact(tU c).2.2
theorem aXq(s0 s1:Ch)(x:kM):(gL s0 s1 x).1.1.id=s0.id∧(gL s0 s1 x).1.2.id=s1.id:=by
 unfold gL
 split
 ·exact⟨rfl,aSn _ _ _⟩
 ·exact⟨aSn _ _ _,rfl⟩
theorem aXe{s0 s1:Ch}(h0:KOk s0)(h1:KOk s1){x:kM}(w:x.wf):KOk (gL s0 s1 x).1.1∧KOk (gL s0 s1 x).1.2:=by
 unfold gL
 split
 ·exact⟨h0,h1.doP _ w⟩
 ·exact⟨h0.doP _ w,h1⟩
def aSJ(s0 s1:Ch)(x:kM):Ch:=if x.id=1 then s1 else s0
theorem SI.mk2{c o:Ch}{x:kM}{A:List Tx}{G K T:Pk->Prop}(ak:∀p,K p->G p)(no:∀p,T p->¬G p)(S:aQB c o x A G T):(∀p,aVi x (jU c o x).2.2.2 K p->yK x (jU c o x).2.2.2 G p)∧∀p,aAY x (jU c o x).2.2.2 T p->¬yK x (jU c o x).2.2.2 G p:=by
 refine⟨λp hp=>?_,λp hp hg=>?_⟩
 ·rcases hp with hp|⟨e,k,rfl⟩
  ·exact .inl (ak p hp)
  ·exact .inl (S.ack e k).2
 ·rcases hp with hp|⟨e,k,rfl⟩
  ·rcases hg with hg|⟨e,k,rfl⟩
   ·exact no p hp hg
   ·exact(S.recv e k).2.2 hp
  ·rcases hg with hg|⟨-,k',-⟩
   ·exact(S.tim e k).2 hg
   ·omega
theorem SI.step{s0 s1:Ch}{x:kM}{A:List Tx}{G K T:Pk->Prop}(H:SI s0 s1 A G K T)(U:wK (twA s0 s1 x++A))(i0:s0.id=0)(i1:s1.id=1)(w:x.wf)(ok0:s0.st.Ok)(ok1:s1.st.Ok)(q0:s0.seq<18446744073709551616)(q1:s1.seq<18446744073709551616):
  SI (gL s0 s1 x).1.1 (gL s0 s1 x).1.2 (twA s0 s1 x++A) (yK x (gL s0 s1 x).2.2.2 G) (aVi x (gL s0 s1 x).2.2.2 K) (aAY x (gL s0 s1 x).2.2.2 T)∧
  ((gL s0 s1 x).2.2.2=0->x.kind=2->IntKind.u64.wrap (((aSJ (gL s0 s1 x).1.1 (gL s0 s1 x).1.2 x).st.height:Int)+1)<x.p.t∧¬T x.p)∧((gL s0 s1 x).2.2.2=0->x.kind=3->G x.p)∧((gL s0 s1 x).2.2.2=0->x.kind=4->¬G x.p):=by
 unfold gL twA at *
 by_cases c:x.id=1
 ·rw[if_pos c] at U
  rw[if_pos c,if_pos c]
  have S:=aOu H.d2 H.d1 U (by rw[i0,i1];decide) (by rw[i0,i1];decide) w ok1 ok0 q1
  obtain⟨m1,m2⟩:=SI.mk2 H.ak H.no S
  refine⟨⟨S.two,S.one,m1,m2⟩,λe k=>?_,λe k=>(S.ack e k).2,λe k=>(S.tim e k).2⟩
  unfold aSJ
  rw[if_pos c]
  exact⟨(S.recv e k).2.1,(S.recv e k).2.2⟩
 ·rw[if_neg c] at U
  rw[if_neg c,if_neg c]
  have S:=aOu H.d1 H.d2 U (by rw[i0,i1];decide) (by rw[i0,i1];decide) w ok0 ok1 q0
  obtain⟨m1,m2⟩:=SI.mk2 H.ak H.no S
  refine⟨⟨S.one,S.two,m1,m2⟩,λe k=>?_,λe k=>(S.ack e k).2,λe k=>(S.tim e k).2⟩
  unfold aSJ
  rw[if_neg c]
  exact⟨(S.recv e k).2.1,(S.recv e k).2.2⟩
theorem vH.new{i j:Int}{a b s t:Nat}:vH (Ch.new i a s) (Ch.new j b t) [] (λ_=>False) (λ_=>False):=
 ⟨(λy hy=>by cases hy),λp hp _=>False.elim hp,⟨(λq hq=>by cases hq),λbl hb q hq=>by
  simp only[Ch.new,fW] at hb
  subst hb
  cases hq⟩,λp hp _=>False.elim hp⟩
theorem SI.new{a b s t:Nat}:SI (Ch.new 0 a s) (Ch.new 1 b t) [] (λ_=>False) (λ_=>False) (λ_=>False):=⟨vH.new,vH.new,λ_ h=>h,λ_ h _=>h⟩
def aUJ(x y:List Pk):Pk->Prop:=λp=>p∈aUf p.f x y
theorem aRL{c:Nat}{s:Ch}{h:PH}{F:List Nat}(H:iO c s h F)(k:KOk s):s.DOk∧s.st.Ok:=by
 obtain⟨sp,m,cp,nv,bv,lk,P,perm,ok⟩:=H
 obtain⟨Fc,⟨hs,C⟩,-,-⟩:=P.fCli
 exact⟨⟨ok.id,ok.seq,⟨hs,C.rank⟩,k.1,k.2⟩,P.okst⟩
theorem aMO{t c0 c1 m:Nat}{s0 s1:Ch}{h:PH}{F:List Nat}(H:pC t c0 c1 m s0 s1 h F)(k0:KOk s0)(k1:KOk s1):(s0.DOk∧s0.st.Ok)∧s1.DOk∧s1.st.Ok:=by
 obtain⟨Fa,Fb,-,-,⟨Fc,Fd,-,h0,h1,-⟩,-⟩:=H
 exact⟨aRL h0 k0,aRL h1 k1⟩
theorem fY.tac4{h:PH}{v:Value}{l:List kM}(S:fY h 9 v (l.map kM.cells)){j:Nat}{x:kM}(hx:l[j]? =some x):
  ∃b o,cV PG (indexAt iN v (.int .i64 (j:Int)))=some (pT b o)∧∀h',dC h h'->dD h' ⟨b,o,none⟩=some (.int .i64 x.kind)∧cG PG h' (loadAt cH (pT b o))=some x.v∧cG PG h' (loadAt aR (pT b (o+4)))=some x.p.v:=by
 obtain⟨b,o,cs,e',fr,h1,hb,hle,hex⟩:=S.at iN.und cH.info cH.size (k:=.i64) (j:=(j:Int)) (r:=x.cells) (by omega) (by rw[sC,qQ,hx];rfl)
 have hd:∀i n,i+n≤9->(cs.extract (o+i) (o+i+n)).toList=(x.cells.drop i).take n:=λi n hi=>by
  rw[←hex]
  simp only[zLA,zLu,aKK,zLv,aG0,List.take_take]
  congr 1;omega
 refine⟨b,o,h1,λh' u=>?_⟩
 have hb':=u.get hb
 refine⟨?_,?_,?_⟩
 ·unfold dD
  simp only[hb']
  have:=congrArg (λl:List Value=>l[0]?) (hd 0 1 (by decide))
  simp only[zLA,zLu,Nat.add_zero,aKK,aGt,aJ8] at this
  simpa[kM.cells] using this
 ·rw[cH.loadAgg hb' hle]
  congr 2
  exact zLt (hd 0 9 (by decide))
 ·rw[aR.loadAgg hb' (by omega)]
  congr 2
  exact zLt (hd 4 4 (by decide))
structure SIx where
 h5:PH
 v:Value
 l:List kM
 t:Nat
 c0:Nat
 c1:Nat
 m:Nat
 d0:Nat
 d1:Nat
 b:Nat
 mm:Nat
 K:List Nat
 b8:Nat
 b9:Nat
 b10:Nat
 x8:Nat
 y8:Nat
 x9:Nat
 y9:Nat
 x10:Nat
 y10:Nat
def SIx.mem(z:SIx)(s0 s1:Ch)(A:List Tx)(r0 r1:Ch)(n:Nat)(M:kG):kG:=dT (pC z.t z.c0 z.c1 z.m s0 s1) (dT (DTw z.m z.d0 z.d1 z.b z.mm A z.K r0 r1 n) M)
theorem SIx.mem_good(z:SIx)(s0 s1:Ch)(A:List Tx)(r0 r1:Ch)(n:Nat){M:kG}(g:kN M):kN (z.mem s0 s1 A r0 r1 n M):=(pC.good _ _ _ _ _ _).star ((DTw.good _ _ _ _ _ _ _ _ _ _).star g)
structure SIs(z:SIx)(i:Nat)(s0 s1:Ch)(A:List Tx)(n:Nat):Prop where
 hi:i≤z.l.length
 hn:n≤i+1
 n0:s0.nts.length≤i
 n1:s1.nts.length≤i
 k0:KOk s0
 k1:KOk s1
 i0:s0.id=0
 i1:s1.id=1
def Ch.all(c:Ch):List Nt:=c.blk.flatten++c.nts
def cS(l:List Nt)(p:Pk):Nat:=(l.filter λn=>decide (n.k=1∧n.p=p)).length
def cR(l:List Nt)(p:Pk):Nat:=(l.filter λn=>decide (n.k=2∧n.p=p)).length
def cO(l:List Nt)(p:Pk):Nat:=(l.filter λn=>decide ((n.k≠1∧n.k≠2)∧n.p=p)).length
theorem aLr(l:List Nt)(n:Nt)(p:Pk):cS (l++[n]) p=cS l p+if n.k=1∧n.p=p then 1 else 0:=by
 unfold cS
 rw[aIf,jE]
 congr 1
 by_cases c:n.k=1∧n.p=p<;>simp[c]
theorem aQ5(l:List Nt)(n:Nt)(p:Pk):cR (l++[n]) p=cR l p+if n.k=2∧n.p=p then 1 else 0:=by
 unfold cR
 rw[aIf,jE]
 congr 1
 by_cases c:n.k=2∧n.p=p<;>simp[c]
theorem aQ9(l:List Nt)(n:Nt)(p:Pk):cO (l++[n]) p=cO l p+if (n.k≠1∧n.k≠2)∧n.p=p then 1 else 0:=by
 unfold cO
 rw[aIf,jE]
 congr 1
 by_cases c:(n.k≠1∧n.k≠2)∧n.p=p<;>simp[c]
theorem aWQ{l:List Nt}{p:Pk}(h:∀n∈l,n.k=1->n.p≠p):cS l p=0:=by
 unfold cS
 rw[List.length_eq_zero_iff,List.filter_eq_nil_iff]
 intro n hn
 simp only[decide_eq_true_eq]
 exact λe=>h n hn e.1 e.2
theorem aRQ{l:List Nt}{p:Pk}(h:∀n∈l,n.k=2->n.p≠p):cR l p=0:=by
 unfold cR
 rw[List.length_eq_zero_iff,List.filter_eq_nil_iff]
 intro n hn
 simp only[decide_eq_true_eq]
 exact λe=>h n hn e.1 e.2
theorem aWr{l:List Nt}{p:Pk}(h:∀n∈l,n.k≠1->n.k≠2->n.p≠p):cO l p=0:=by
 unfold cO
 rw[List.length_eq_zero_iff,List.filter_eq_nil_iff]
 intro n hn
 simp only[decide_eq_true_eq]
 exact λe=>h n hn e.1.1 e.1.2 e.2
def aH3(id:Int)(l:List Nt)(n:Nt):Prop:=
 if n.k=1 then n.p.f=id∧cS l n.p=1 else if n.k=2 then n.p.f=1-id∧cR l n.p=1 else n.p.f=id∧cO l n.p=1∧cS l n.p=1
def tO(id:Int)(l:List Nt):Prop:=∀i n,l[i]? =some n->aH3 id (l.take (i+1)) n
theorem tO.nil(id:Int):tO id []:=λi n h=>by simp at h
theorem tO.snoc{id:Int}{l:List Nt}{n:Nt}(H:tO id l)(h:aH3 id (l++[n]) n):tO id (l++[n]):=λi m hm=>by
 by_cases c:i<l.length
 ·rw[List.getElem?_append_left c] at hm
  rw[zLE (by omega)]
  exact H i m hm
 ·have hl:=(zLx.1 hm).1
  rw[jE,zLQ] at hl
  have e:i=l.length:=by omega
  subst e
  simp only[List.getElem?_concat_length,zL5] at hm
  subst hm
  rw[mV (by simp)]
  exact h
theorem tO.init{id:Int}{l:List Nt}{n:Nt}(H:tO id (l++[n])):tO id l∧aH3 id (l++[n]) n:=by
 refine⟨λi m hm=>?_,?_⟩
 ·have hl:=(zLx.1 hm).1
  have:=H i m (by rw[List.getElem?_append_left hl];exact hm)
  rwa [zLE (by omega)] at this
 ·have:=H l.length n (by simp)
  rwa [mV (by simp)] at this
theorem tO.one{id:Int}{p:Pk}(l:List Nt):tO id l->(⟨1,p⟩:Nt)∈l->cS l p=1:=by
 refine aMY (p:=λl=>tO id l->(⟨1,p⟩:Nt)∈l->cS l p=1) (λ_ h=>by cases h) (λl n ih H hm=>?_) l
 obtain⟨h1,h2⟩:=H.init
 by_cases c:n=⟨1,p⟩
 ·subst c
  unfold aH3 at h2
  rw[if_pos rfl] at h2
  exact h2.2
 ·have hm':(⟨1,p⟩:Nt)∈l:=by
   rcases jJ.1 hm with hm|hm
   ·exact hm
   ·simp only[fW] at hm
    exact absurd hm.symm c
  rw[aLr,ih h1 hm',if_neg]
  rintro⟨e1,e2⟩
  obtain⟨nk,np⟩:=n
  simp only at e1 e2
  exact c (by rw[e1,e2])
def aLW(A:List Tx)(l:List Nt)(q:Pr):Prop:=∀n,n<18446744073709551616->q.k=gH 99 n->∃p:Pk,(⟨1,p⟩:Nt)∈l∧p.s.toNat=n∧q.v=nR p∧∀t∈oX p,t∈A
structure nQ(c o:Ch)(A:List Tx):Prop where
 ok:tO c.id c.all
 s1:∀p,(⟨1,p⟩:Nt)∈c.all->p.f=c.id∧p.right=true∧p.wf∧p.s<(c.seq:Int)
 s2:aFg c.st (aLW A c.all)
 s3:∀p,(⟨2,p⟩:Nt)∈c.all->∃q∈c.st.now,q.k=gH 114 p.s.toNat
 s4:∀n∈c.all,n.k≠1->n.k≠2->(0≤n.p.s∧n.p.s<(c.seq:Int))∧∀q∈c.st.now,q.k≠gH 99 n.p.s.toNat
 s5:∀p,(⟨2,p⟩:Nt)∈c.all->(⟨1,p⟩:Nt)∈o.all
 cl:∀y∈c.cl,∃(x:Nat) (b:List Pr),y.height=(x:Int)∧qD o.st x=some b∧y.root=tx (jX b)∧∀t∈rQ b,t∈A
 mx:c.st.height=18446744073709551615->c.nts=[]
theorem aWW{c o:Ch}{A:List Tx}(cl:∀y∈c.cl,∃(x:Nat) (b:List Pr),y.height=(x:Int)∧qD o.st x=some b∧y.root=tx (jX b)∧∀t∈rQ b,t∈A){x:Nat}(hr:(kJ c.cl (x:Int)).isSome=true):∃b,qD o.st x=some b∧oL c.cl (x:Int)=jX b∧∀t∈rQ b,t∈A:=by
 obtain⟨r,er⟩:=Option.isSome_iff_exists.1 hr
 unfold oL
 rw[er]
 unfold kJ at er
 cases hf:c.cl.find? λp=>decide ((x:Int)=p.height) with
 | none=>rw[hf] at er;cases er
 | some y=>
  rw[hf] at er
  simp only[aGS,zL5] at er
  have hm:=List.mem_of_find?_eq_some hf
  have hk:=List.find?_some hf
  simp only[decide_eq_true_eq] at hk
  obtain⟨x',b,h1,h2,h3,h4⟩:=cl y hm
  have ex:x'=x:=by omega
  subst ex
  refine⟨b,h2,?_,h4⟩
  show(Option.getD (some r) _).data.toList=_
  rw[aGn,←er,h3]
  rfl
theorem nQ.asked{c o:Ch}{A A':List Tx}(H:nQ c o A)(hs:∀t∈A,t∈A'):nQ c o A':=
 ⟨H.ok,H.s1,H.s2.mono λq hq n hn hk=>by obtain⟨p,h1,h2,h3,h4⟩:=hq n hn hk;exact⟨p,h1,h2,h3,λt ht=>hs t (h4 t ht)⟩,H.s3,H.s4,H.s5,λy hy=>by obtain⟨x,b,h1,h2,h3,h4⟩:=H.cl y hy;exact⟨x,b,h1,h2,h3,λt ht=>hs t (h4 t ht)⟩,H.mx⟩
theorem nQ.other{c o o':Ch}{A:List Tx}(H:nQ c o A)(h5:∀p,(⟨1,p⟩:Nt)∈o.all->(⟨1,p⟩:Nt)∈o'.all)(hat:∀x b,qD o.st x=some b->qD o'.st x=some b):nQ c o' A:=
 ⟨H.ok,H.s1,H.s2,H.s3,H.s4,λp hp=>h5 p (H.s5 p hp),λy hy=>by obtain⟨x,b,h1,h2,h3⟩:=H.cl y hy;exact⟨x,b,h1,hat x b h2,h3⟩,H.mx⟩
theorem aNe(c:Ch)(n:Nt):(c.add n).all=c.all++[n]:=by
 unfold Ch.all Ch.add
 exact(pH _ _ _).symm
theorem aNz(c:Ch):c.committed.all=c.all:=by
 unfold Ch.committed
 by_cases he:(jO c.st).2.2=0
 ·rw[if_pos he]
  unfold Ch.all
  simp
 ·rw[if_neg he]
theorem aVz{L:List Pr}{k:Tx}(h:(gQ L k).isSome=false):∀q∈L,q.k≠k:=λq hq e=>by
 unfold gQ at h
 rw[Option.isSome_eq_false_iff,Option.isNone_iff_eq_none,List.find?_eq_none] at h
 exact h q hq (by simp[e])
theorem aUr{s:Ch}{d:Tx}{t:Nat}(ht:t<18446744073709551616)(hs:s.seq<18446744073709551616):(kB s d t).wf:=⟨by show(0:Int)≤(s.seq:Int);omega,by show(s.seq:Int)<_;omega,by show(0:Int)≤(t:Int);omega,by show(t:Int)<_;omega⟩
theorem aFd(c:Ch)(p:Pk):(c.sent p).all=c.all++[⟨1,p⟩]:=aNe _ _
theorem aAR(c:Ch)(p:Pk):(c.received p).all=c.all++[⟨2,p⟩]:=aNe _ _
theorem zV(c:Ch)(k:Int)(p:Pk):(c.settled k p).all=c.all++[⟨k,p⟩]:=aNe _ _
theorem pG{α:Type}{l:List α}{a b:α}:a∈l++[b]↔a∈l∨a=b:=by simp
theorem aLW.more{A:List Tx}{l:List Nt}{n:Nt}{q:Pr}(h:aLW A l q):aLW A (l++[n]) q:=λm hm hk=>by
 obtain⟨p,h1,h2⟩:=h m hm hk
 exact⟨p,pG.2 (.inl h1),h2⟩
theorem aNW{A:List Tx}{l:List Nt}{ch:UInt8}{n:Nat}{v:Tx}(h:ch≠99):aLW A l ⟨gH ch n,v⟩:=λm _ e=>absurd e (aIE h)
theorem aR0{n:Nt}{k:Int}{p:Pk}(h1:n.k=k)(h2:n.p=p):n=⟨k,p⟩:=by
 obtain⟨a,b⟩:=n
 simp only at h1 h2
 rw[h1,h2]
theorem aNn{L:List Pr}{k v:Tx}{q:Pr}(h:q∈mZ L ⟨k,v⟩):q=⟨k,v⟩∨q∈L:=by
 rcases qC.1 h with h|h
 ·exact .inl h
 ·exact .inr h.1
theorem aLm{L:List Pr}{k k' v:Tx}(h:∃q∈L,q.k=k):∃q∈mZ L ⟨k',v⟩,q.k=k:=by
 obtain⟨q,hq,e⟩:=h
 by_cases c:q.k=k'
 ·exact⟨⟨k',v⟩,qC.2 (.inl rfl),by rw[←c];exact e⟩
 ·exact⟨q,qC.2 (.inr ⟨hq,c⟩),e⟩
section
variable{c o:Ch}{A:List Tx}(H:nQ c o A)
include H
theorem nQ.send{p:Pk}(hp:p.right=true)(wp:p.wf)(hf:p.f=c.id)(hs:p.s=(c.seq:Int))(hx:c.st.height≠18446744073709551615)(hA:∀t∈oX p,t∈A):nQ (c.sent p) o A:=by
 obtain⟨e1,e2,e3⟩:=aRT c p
 have hq:=wp.2.1
 refine⟨?_,?_,?_,?_,?_,?_,H.cl,λh=>absurd h hx⟩
 ·rw[aFd,e3]
  refine H.ok.snoc ?_
  unfold aH3
  rw[if_pos rfl,aLr,if_pos ⟨rfl,rfl⟩,aWQ λn hn e1 e2=>?_]
  ·exact⟨hf,rfl⟩
  ·have:=(H.s1 p (by rw[←aR0 e1 e2];exact hn)).2.2.2
   omega
 ·intro q hm
  rw[aFd] at hm
  show q.f=c.id∧q.right=true∧q.wf∧q.s<((c.seq+1:Nat):Int)
  rcases pG.1 hm with hm|hm
  ·obtain⟨h1,h2,h3,h4⟩:=H.s1 q hm
   exact⟨h1,h2,h3,by omega⟩
  ·simp only[Nt.mk.injEq,true_and] at hm
   subst hm
   exact⟨hf,hp,wp,by omega⟩
 ·rw[e1,aFd]
  refine(H.s2.mono λq h=>h.more).put λn hn hk=>?_
  obtain⟨-,en⟩:=aMV (by omega) hn hk
  exact⟨p,pG.2 (.inr rfl),by omega,rfl,hA⟩
 ·intro q hm
  rw[aFd] at hm
  rcases pG.1 hm with hm|hm
  ·rw[e1];exact aLm (H.s3 q hm)
  ·simp only[Nt.mk.injEq] at hm
   omega
 ·intro n hm k1 k2
  rw[aFd] at hm
  rcases pG.1 hm with hm|hm
  ·obtain⟨h1,h2⟩:=H.s4 n hm k1 k2
   refine⟨⟨h1.1,by show n.p.s<((c.seq+1:Nat):Int);omega⟩,λq hq=>?_⟩
   rw[e1] at hq
   rcases aNn hq with rfl|hq
   ·intro e
    have e:gH 99 c.seq=gH 99 n.p.s.toNat:=e
    obtain⟨-,en⟩:=aMV (by omega) (by omega) e
    omega
   ·exact h2 q hq
  ·subst hm
   exact absurd rfl k1
 ·intro q hm
  rw[aFd] at hm
  rcases pG.1 hm with hm|hm
  ·exact H.s5 q hm
  ·simp only[Nt.mk.injEq] at hm
   omega
theorem nQ.recv{p:Pk}(hf:p.f=1-c.id)(hno:(gQ c.st.now (gH 114 p.s.toNat)).isSome=false)(hx:c.st.height≠18446744073709551615)(h5:(⟨1,p⟩:Nt)∈o.all):nQ (c.received p) o A:=by
 obtain⟨e1,e2,e3⟩:=aL2 c p
 refine⟨?_,?_,?_,?_,?_,?_,H.cl,λh=>absurd h hx⟩
 ·rw[aAR,e3]
  refine H.ok.snoc ?_
  unfold aH3
  rw[if_neg (show ¬(2:Int)=1 by decide),if_pos rfl,aQ5,if_pos ⟨rfl,rfl⟩,aRQ λn hn e1 e2=>?_]
  ·exact⟨hf,rfl⟩
  ·obtain⟨q,hq,ek⟩:=H.s3 p (by rw[←aR0 e1 e2];exact hn)
   exact aVz hno q hq ek
 ·intro q hm
  rw[aAR] at hm
  rcases pG.1 hm with hm|hm
  ·exact H.s1 q hm
  ·simp only[Nt.mk.injEq] at hm
   omega
 ·rw[e1,aAR]
  exact((H.s2.mono λq h=>h.more).put (aNW (by decide))).put (aNW (by decide))
 ·intro q hm
  rw[aAR] at hm
  rw[e1]
  rcases pG.1 hm with hm|hm
  ·exact aLm (aLm (H.s3 q hm))
  ·simp only[Nt.mk.injEq,true_and] at hm
   subst hm
   exact aLm ⟨⟨gH 114 q.s.toNat,[1]⟩,qC.2 (.inl rfl),rfl⟩
 ·intro n hm k1 k2
  rw[aAR] at hm
  rcases pG.1 hm with hm|hm
  ·obtain⟨h1,h2⟩:=H.s4 n hm k1 k2
   refine⟨h1,λq hq=>?_⟩
   rw[e1] at hq
   rcases aNn hq with rfl|hq
   ·exact aIE (by decide)
   ·rcases aNn hq with rfl|hq
    ·exact aIE (by decide)
    ·exact h2 q hq
  ·subst hm
   exact absurd rfl k2
 ·intro q hm
  rw[aAR] at hm
  rcases pG.1 hm with hm|hm
  ·exact H.s5 q hm
  ·simp only[Nt.mk.injEq,true_and] at hm
   subst hm
   exact h5
theorem nQ.settle{k:Int}(k1:k≠1)(k2:k≠2){p:Pk}(hp:p.right=true)(wp:p.wf)(hf:p.f=c.id)(hs:uK c p=true)(hx:c.st.height≠18446744073709551615)(U:wK A)(hA:∀t∈oX p,t∈A):nQ (c.settled k p) o A:=by
 obtain⟨e1,e2,e3⟩:=aJ5 c k p
 have w1:=wp.1
 have w2:=wp.2.1
 -- the packet was sent
 obtain⟨y,hy,hyv⟩:∃y,gQ c.st.now (gH 99 p.s.toNat)=some y∧y.v=nR p:=by
  unfold uK at hs
  cases hg:gQ c.st.now (gH 99 p.s.toNat) with
  | none=>rw[hg] at hs;cases hs
  | some y=>rw[hg] at hs;exact⟨y,rfl,of_decide_eq_true hs⟩
 have hym:y∈c.st.now:=List.mem_of_find?_eq_some hy
 have hyk:gH 99 p.s.toNat=y.k:=by
  have:=List.find?_some hy
  simpa using this
 obtain⟨q,h1,h2,h3,h4⟩:=H.s2.1 y hym p.s.toNat (by omega) hyk.symm
 obtain⟨g1,g2,g3,g4⟩:=H.s1 q h1
 have epq:p=q:=Pk.bs_inj hp g2 wp g3 (aOE hp g2 U hA h4 (by rw[←hyv,h3]))
 rw[←epq] at h1 g4
 refine⟨?_,?_,?_,?_,?_,?_,H.cl,λh=>absurd h hx⟩
 ·rw[zV,e3]
  refine H.ok.snoc ?_
  unfold aH3
  rw[if_neg k1,if_neg k2,aQ9,if_pos ⟨⟨k1,k2⟩,rfl⟩,aWr λn hn e1 e2 e3=>?_]
  ·refine⟨hf,rfl,?_⟩
   rw[aLr,if_neg (λh=>k1 h.1),H.ok.one _ h1]
  ·obtain⟨-,hno⟩:=H.s4 n hn e1 e2
   exact hno y hym (by rw[e3];exact hyk.symm)
 ·intro r hm
  rw[zV] at hm
  rcases pG.1 hm with hm|hm
  ·exact H.s1 r hm
  ·simp only[Nt.mk.injEq] at hm
   exact absurd hm.1.symm k1
 ·rw[e1,zV]
  exact(H.s2.mono λq h=>h.more).del _
 ·intro r hm
  rw[zV] at hm
  rcases pG.1 hm with hm|hm
  ·obtain⟨z,hz,ez⟩:=H.s3 r hm
   rw[e1]
   exact⟨z,zLZ.2 ⟨hz,by simp only[ne_eq,decide_eq_true_eq];rw[ez];exact aIE (by decide)⟩,ez⟩
  ·simp only[Nt.mk.injEq] at hm
   exact absurd hm.1.symm k2
 ·intro n hm j1 j2
  rw[zV] at hm
  rw[e1]
  rcases pG.1 hm with hm|hm
  ·obtain⟨r1,r2⟩:=H.s4 n hm j1 j2
   exact⟨r1,λz hz=>r2 z (zLZ.1 hz).1⟩
  ·subst hm
   refine⟨⟨w1,g4⟩,λz hz=>?_⟩
   have:=(zLZ.1 hz).2
   simpa using this
 ·intro r hm
  rw[zV] at hm
  rcases pG.1 hm with hm|hm
  ·exact H.s5 r hm
  ·simp only[Nt.mk.injEq] at hm
   exact absurd hm.1.symm k2
theorem nQ.told{x:Nat}{b:List Pr}(hx:qD o.st x=some b)(hA:∀t∈rQ b,t∈A):nQ (c.told (x:Int) (jX b)) o A:=
 ⟨H.ok,H.s1,H.s2,H.s3,H.s4,H.s5,λy hy=>by
  rcases aMX hy with hy|rfl
  ·exact H.cl y hy
  ·exact⟨x,b,rfl,hx,rfl,hA⟩,H.mx⟩
theorem nQ.com:nQ c.committed o A:=by
 obtain⟨e1,e2,e3⟩:=tU c
 have eall:=aNz c
 have esq:c.committed.seq=c.seq:=by unfold Ch.committed;split<;>rfl
 have enow:c.committed.st.now=c.st.now:=by
  rw[e1]
  by_cases he:(jO c.st).2.2=0
  ·rw[(aCY he).1]
  ·rw[aBc he]
 refine⟨by rw[eall,e3];exact H.ok,by rw[eall,e3,esq];exact H.s1,by rw[eall,e1];exact H.s2.com,by rw[eall,enow];exact H.s3,by rw[eall,enow,esq];exact H.s4,by rw[eall];exact H.s5,by rw[e2];exact H.cl,λh=>?_⟩
 unfold Ch.committed at h ⊢
 by_cases he:(jO c.st).2.2=0
 ·rw[if_pos he]
 ·rw[if_neg he] at h ⊢
  exact H.mx h
end
theorem aOP{c o:Ch}{a:kM}{A:List Tx}(O1:nQ c o A)(O2:nQ o c A)(U:wK (doA c o a++A))(hco:1-c.id=o.id)(wa:a.wf)(okc:c.st.Ok)(oko:o.st.Ok)(hsq:c.seq<18446744073709551616):nQ (jU c o a).1 o (doA c o a++A)∧nQ o (jU c o a).1 (doA c o a++A):=by
 have sub:∀t∈A,t∈doA c o a++A:=λt ht=>zLk _ ht
 have O1:=O1.asked sub
 have O2:=O2.asked sub
 have subA:∀t∈doA c o a,t∈doA c o a++A:=λt ht=>zLj _ ht
 generalize doA c o a++A=A' at *
 obtain⟨w1,w2,w3,w4⟩:=wa.p
 rcases aHZ c o a with⟨k0,e,e1,e2,eA⟩|⟨k1,b,e,e1,eA⟩|⟨k2,e,e1,e2,eA⟩|⟨k3,e,e1,e2,eA⟩|⟨k4,e,e1,e2,eA⟩|⟨k5,e1⟩|⟨e1,e2⟩
 ·obtain⟨r1,r2,r3,r4,r5⟩:=aOS e
  rw[e1]
  refine⟨O1.send r2 (aUr wa.h hsq) rfl rfl r5 (λt ht=>subA t (by rw[eA];exact ht)),O2.other (λp hp=>?_) (λx b hx=>hx)⟩
  rw[aFd];exact pG.2 (.inl hp)
 ·rw[e1]
  exact⟨O1.told e (λt ht=>subA t (by rw[eA];exact ht)),O2.other (λp hp=>hp) (λx b hx=>hx)⟩
 ·obtain⟨r1,r2,r3,r4,r5,r6,r7⟩:=aLe e
  obtain⟨b,hb,eb,hbA⟩:=aWW O1.cl r5
  rw[eb] at r6
  have hm:=aON (oko.mok hb) U (λt ht=>subA t (by rw[eA];simp[ht])) hbA r6
  obtain⟨q,h1,h2,h3,h4⟩:=O2.s2.2 b (aRR hb) _ hm a.p.s.toNat (by omega) rfl
  obtain⟨g1,g2,g3,g4⟩:=O2.s1 q h1
  have epq:a.p=q:=Pk.bs_inj r1 g2 wa.p g3 (aOE r1 g2 U (λt ht=>subA t (by rw[eA];simp[ht])) h4 h3)
  rw[e1]
  refine⟨O1.recv r2 r4 r7 (by rw[epq];exact h1),O2.other (λp hp=>?_) (λx b hx=>hx)⟩
  rw[aAR];exact pG.2 (.inl hp)
 ·obtain⟨r1,r2,r3,r4,r5⟩:=aDO (by unfold xH;simp) e
  rw[e1]
  refine⟨O1.settle (by decide) (by decide) r1 wa.p r2 r3 r5 U (λt ht=>subA t (by rw[eA];simp[ht])),O2.other (λp hp=>?_) (λx b hx=>hx)⟩
  rw[zV];exact pG.2 (.inl hp)
 ·obtain⟨r1,r2,r3,r4,r5⟩:=aDO (by unfold qL;simp) e
  rw[e1]
  refine⟨O1.settle (by decide) (by decide) r1 wa.p r2 r3 r5 U (λt ht=>subA t (by rw[eA];simp[ht])),O2.other (λp hp=>?_) (λx b hx=>hx)⟩
  rw[zV];exact pG.2 (.inl hp)
 ·rw[e1]
  refine⟨O1.com,O2.other (λp hp=>by rw[aNz];exact hp) (λx b hx=>?_)⟩
  rw[(tU c).1];exact aMf okc hx
 ·rw[e1];exact⟨O1,O2⟩
def CM(M:List (Pk×Value))(c:Pk->Nat):Prop:=∀p,rP M p=if c p=0 then none else some (.int .i64 (c p:Int))
theorem CM.nil:CM [] (λ_=>0):=λp=>rfl
theorem CM.get{M:List (Pk×Value)}{c:Pk->Nat}(H:CM M c)(p:Pk):(rP M p).getD (.int .i64 0)= .int .i64 (c p:Int):=by
 rw[H p]
 by_cases e:c p=0
 ·rw[if_pos e,e];rfl
 ·rw[if_neg e];rfl
def aHw(c:Pk->Nat)(p:Pk):Pk->Nat:=λq=>if q=p then c p+1 else c q
theorem CM.bump{M:List (Pk×Value)}{c:Pk->Nat}(H:CM M c)(p:Pk):CM (yQ M p (.int .i64 ((c p+1:Nat):Int))) (aHw c p):=λq=>by
 rw[aPP]
 unfold aHw
 by_cases e:q=p
 ·rw[if_pos e,if_pos e,if_neg (by omega)]
 ·rw[if_neg e,if_neg e];exact H q
theorem aFu{h:PH}{r:Nat}{M:List (Pk×Value)}{c:Pk->Nat}(H:iQ pkE h r M)(hc:CM M c)(p:Pk):cG PG h (Instr.lookup dO (.map (some r)) p.v false)=some (.int .i64 (c p:Int)):=by
 have hl:=aEe aKo dO.und bT.info bT.zero H p false
 rw[show p.v=pkE p from rfl,hl]
 simp only[zLr,if_false]
 rw[hc.get]
theorem aTg(M:List (Pk×Value))(p:Pk)(z:Value):(rP (aJu M p z) p).getD z=(rP M p).getD z:=by
 unfold aJu
 split
 ·rfl
 ·rename_i h
  have h1:rP (M++[(p,z)]) p=some z:=by
   unfold rP
   rw[List.find?_append]
   have:M.find? (λx=>decide (p=x.1))=none:=by
    rw[List.find?_eq_none]
    intro x hx
    simp only[decide_eq_true_eq]
    rintro rfl
    exact h (zL4 hx)
   simp[this]
  have h2:rP M p=none:=by
   unfold rP
   have:M.find? (λx=>decide (p=x.1))=none:=by
    rw[List.find?_eq_none]
    intro x hx
    simp only[decide_eq_true_eq]
    rintro rfl
    exact h (zL4 hx)
   rw[this];rfl
  rw[h1,h2];rfl
theorem aNs{h:PH}{r:Nat}{M:List (Pk×Value)}{c:Pk->Nat}(H:iQ pkE h r M)(hc:CM M c)(p:Pk){k:PH->Prop}(hk:∀h' M',iQ pkE h' r M'->CM M' (aHw c p)->cU [r] h h'->k h'):
  cW PG (Instr.mapEntry dO (.map (some r)) p.v) h λv115 h116=>cG PG h116 (Instr.lookup dO (.map (some r)) p.v false)=some (.int .i64 (c p:Int))∧(dZ (cV PG (extract v115 1)) λv117=>cW PG (aE5 dO (.map (some r)) v117 (.int .i64 ((c p+1:Nat):Int))) h116 λ_ h119=>k h119):=by
 rw[show p.v=pkE p from rfl]
 refine aS4 aKo dO.und bT.info bT.zero H p λh1 st S1 u1=>?_
 have hl:=aEe (ok:=false) aKo dO.und bT.info bT.zero S1.map p
 simp only[zLr,if_false] at hl
 rw[aTg,hc.get] at hl
 refine⟨hl,?_⟩
 simp only[cE,reduceIte,cT,Nat.reduceAdd]
 refine aQW S1 _ λh2 M2 u2=>?_
 rw[aWz] at M2
 exact hk h2 _ M2 (hc.bump p) (u1.trans u2)
def nW(b x y:Nat)(cx cy:Pk->Nat):kG:=λh F=>F=[b,x,y]∧Bx h b [.map (some x),.map (some y)]∧(∃M,iQ pkE h x M∧CM M cx)∧(∃M,iQ pkE h y M∧CM M cy)∧b≠x∧b≠y∧x≠y
theorem nW.good(b x y:Nat)(cx cy:Pk->Nat):kN (nW b x y cx cy) where
 known:=by
  rintro h F ⟨rfl,B,⟨_,M1,-⟩,⟨_,M2,-⟩,-⟩ z hz
  simp only[gZ,kW,or_false] at hz
  rcases hz with rfl|rfl|rfl
  ·exact B.known
  ·exact M1.known
  ·exact M2.known
 upd:=by
  rintro h F h' K ⟨rfl,B,⟨_,M1,c1⟩,⟨_,M2,c2⟩,hne⟩ u hK
  exact⟨rfl,B.upd u (hK b (by simp)),⟨_,M1.upd u (hK x (by simp)),c1⟩,⟨_,M2.upd u (hK y (by simp)),c2⟩,hne⟩
def aPT(j:Nat)(cx cy:Pk->Nat):Pk->Nat:=if j=1 then cy else cx
def atC(j x y:Nat):Nat:=if j=1 then y else x
theorem aJP{r i:Nat}(hi:i<2):cV PG (indexAt dW (pT r 0) (.int .i64 (i:Int)))=some (pT r i):=by
 have ix:=aAy (P:=PG) (t:=dW) (b:=r) (o:=0) (k:=.i64) (j:=(i:Int)) dW.und dO.info dO.size (by omega) (by omega)
 rw[ix,qQ,Nat.mul_one,fL]
theorem nW.at{b x y:Nat}{cx cy:Pk->Nat}{h:PH}{F:List Nat}(H:nW b x y cx cy h F){j:Nat}(hj:j<2):cG PG h (loadAt dO (pT b j))=some (.map (some (atC j x y)))∧∃M,iQ pkE h (atC j x y) M∧CM M (aPT j cx cy):=by
 obtain⟨-,B,M1,M2,-⟩:=H
 have:j=0∨j=1:=by omega
 rcases this with rfl|rfl
 ·exact⟨by rw[dO.load,B.cell];rfl,M1⟩
 ·exact⟨by rw[dO.load,B.cell];rfl,M2⟩
theorem nW.put{b x y:Nat}{cx cy c':Pk->Nat}{h h':PH}{F:List Nat}(H:nW b x y cx cy h F){j:Nat}(hj:j<2){M:List (Pk×Value)}(hM:iQ pkE h' (atC j x y) M)(hc:CM M c')(u:cU [atC j x y] h h'):nW b x y (if j=1 then cx else c') (if j=1 then c' else cy) h' F∧iR h F h' F:=by
 obtain⟨rfl,B,⟨N1,M1,c1⟩,⟨N2,M2,c2⟩,n1,n2,n3⟩:=H
 have:j=0∨j=1:=by omega
 rcases this with rfl|rfl
 ·refine⟨⟨rfl,B.upd u (by simpa[atC] using n1),⟨M,hM,hc⟩,⟨N2,M2.upd u (by simpa[atC] using n3.symm),c2⟩,n1,n2,n3⟩,⟨u.mono λz hz=>.inl ?_,λz hz=>.inl hz⟩⟩
  simp only[atC,fW] at hz
  simp[hz]
 ·refine⟨⟨rfl,B.upd u (by simpa[atC] using n2),⟨N1,M1.upd u (by simpa[atC] using n3),c1⟩,⟨M,hM,hc⟩,n1,n2,n3⟩,⟨u.mono λz hz=>.inl ?_,λz hz=>.inl hz⟩⟩
  simp only[atC,fW] at hz
  simp[hz]
theorem aXN{a b:Ch}{i:Nat}(ha:a.tot≤i)(hb:b.tot≤i)(x:kM):(gL a b x).1.1.tot≤i+1∧(gL a b x).1.2.tot≤i+1:=by
 unfold gL
 split
 ·obtain⟨-,h⟩:=aOk b a x
  refine⟨by show a.tot≤i+1;omega,?_⟩
  show(jU b a x).1.tot≤i+1
  rw[h];split<;>omega
 ·obtain⟨-,h⟩:=aOk a b x
  refine⟨?_,by show b.tot≤i+1;omega⟩
  show(jU a b x).1.tot≤i+1
  rw[h];split<;>omega
theorem aRe{z:SIx}{i:Nat}{s0 s1:Ch}{A:List Tx}{n:Nat}{F:List Nat}{M:kG}(gM:kN M){h:PH}(I:SIs z i s0 s1 A n)(N:Now z.h5 h F)(W:z.mem s0 s1 A s0 s1 n M h F)(K5:mK z.h5)(S:fY z.h5 9 z.v (z.l.map kM.cells))(hl:z.l.length≤50){x:kM}(hx:z.l[i]? =some x)(wx:x.wf)(hd:x.d.length≤2000){R:PH->Prop}
  (hR:∀h' F',Now z.h5 h' F'->z.mem (gL s0 s1 x).1.1 (gL s0 s1 x).1.2 (twA s0 s1 x++A) (gL s0 s1 x).1.1 (gL s0 s1 x).1.2 (n+1) M h' F'->SIs z (i+1) (gL s0 s1 x).1.1 (gL s0 s1 x).1.2 (twA s0 s1 x++A) (n+1)->R h'):
  aT PG lX #[pT z.t 0,x.v] h λv54 h55=>
  dZ (cV PG (aAG (pT z.t 0))) λv63=>
  dZ (cV PG (fieldAt fZ v63 1)) λv64=>
  dZ (cG PG h55 (loadAt kD v64)) λv65=>
  dZ (cV PG (indexAt iN z.v (.int .i64 (i:Int)))) λv66=>
  dZ (cG PG h55 (loadAt cH v66)) λv67=>
  aT PG wW #[v65,v67] h55 λv68 h69=>R h69:=by
 obtain⟨Fa,HT,hFa,back⟩:=dT.left ((DTw.good _ _ _ _ _ _ _ _ _ _).star gM) W
 obtain⟨⟨w0,o0⟩,w1,o1⟩:=aMO HT I.k0 I.k1
 obtain⟨b,o,a1,a2⟩:=S.tac4 hx
 have hi:=I.hi
 have hn:=I.hn
 have hlt:i<z.l.length:=(zLx.1 hx).1
 refine aTH HT (N.k K5) (λhm=>N.z K5 (hFa _ hm)) wx (by have:=I.n0;omega) (by have:=I.n1;omega) λh1 F1 T1 e1=>?_
 obtain⟨F2,W2,e2⟩:=back _ h1 F1 T1 e1
 have gW:kN (z.mem (gL s0 s1 x).1.1 (gL s0 s1 x).1.2 A s0 s1 n M):=z.mem_good _ _ _ _ _ _ gM
 have W3:z.mem (gL s0 s1 x).1.1 (gL s0 s1 x).1.2 A s0 s1 n M h1 F2:=W2
 have N3:Now z.h5 h1 F2:=N.step e2
 obtain⟨Fx,Fy,-,⟨Fz,Fw,-,⟨-,Bt⟩,-,-⟩,-,-⟩:=id W3
 have lm:cG PG h1 (loadAt kD (pT z.t 2))=some (pT z.m 0):=by rw[kD.load,Bt.cell];rfl
 obtain⟨-,la,-⟩:=a2 h1 N3.ext
 simp only[fZ.f1,fL,lm,a1,la,cE,reduceIte,cT,Nat.reduceAdd]
 obtain⟨Fd,HD,hFd,back2⟩:=(dT.right (pC.good _ _ _ _ _ _) W3).comp λ_ H=>dT.left gM H
 refine aXF HD w0 w1 (by omega) wx (by omega) λh4 F4 D4 s4=>?_
 obtain⟨F5,W5,s5⟩:=back2 (DTw z.m z.d0 z.d1 z.b z.mm (twA s0 s1 x++A) z.K (gL s0 s1 x).1.1 (gL s0 s1 x).1.2 (n+1)) h4 F4 D4 s4
 obtain⟨y0,y1⟩:=aSK s0 s1 x I.n0 I.n1
 obtain⟨z0,z1⟩:=aXe I.k0 I.k1 wx
 obtain⟨e0,e1⟩:=aXq s0 s1 x
 exact hR h4 F5 (N3.step s5) W5 ⟨by omega,by omega,y0,y1,z0,z1,by rw[e0];exact I.i0,by rw[e1];exact I.i1⟩
theorem fY.ntc{h:PH}{v:Value}{l:List Nt}(S:fY h 5 v (l.map Nt.cells)){j:Nat}{x:Nt}(hx:l[j]? =some x):
  ∃b o,cV PG (indexAt dB v (.int .i64 (j:Int)))=some (pT b o)∧dD h ⟨b,o,none⟩=some (.int .i64 x.k)∧cG PG h (loadAt aR (pT b (o+1)))=some (.agg x.p.cells.toArray):=by
 obtain⟨b,o,cs,e',fr,h1,hb,hle,hex⟩:=S.at dB.und eQ.info eQ.size (k:=.i64) (j:=(j:Int)) (r:=x.cells) (by omega) (by rw[sC,qQ,hx];rfl)
 refine⟨b,o,h1,?_,?_⟩
 ·obtain⟨b',o',g1,g2,-⟩:=S.fields dB.und eQ.info eQ.size (k:=.i64) (j:=j) (r:=x.cells) (by rw[sC,hx];rfl)
  have e:(some (pT b o))=some (pT b' o'):=h1.symm.trans g1
  simp only[zL5,Value.pointer.injEq,Addr.mk.injEq,and_true] at e
  rw[e.1,e.2]
  exact g2 0 _ rfl
 ·rw[qO aR.und rfl aR.info aR.size hb (by omega)]
  congr 2
  apply zLt
  have hq:((cs.extract o (o+5)).toList.drop 1)=x.p.cells:=by rw[hex];rfl
  rw[←hq]
  simp only[zLA,zLu,zLv,aG0]
  congr 1
theorem aLI{l:List Nt}{i:Nat}{n:Nt}(h:l[i]? =some n):l.take (i+1)=l.take i++[n]:=by
 rw[zLR,h];rfl
theorem aWF{l:List Nt}{i:Nat}{n:Nt}(h:l[i]? =some n):cS (l.take (i+1))=if n.k=1 then aHw (cS (l.take i)) n.p else cS (l.take i):=by
 funext q
 rw[aLI h,aLr]
 by_cases c:n.k=1
 ·rw[if_pos c]
  unfold aHw
  by_cases e:n.p=q
  ·rw[if_pos ⟨c,e⟩,if_pos e.symm,e]
  ·rw[if_neg (λx=>e x.2),if_neg (λx=>e x.symm)];rfl
 ·rw[if_neg c,if_neg (λx=>c x.1)];rfl
theorem aWP{l:List Nt}{i:Nat}{n:Nt}(h:l[i]? =some n):cR (l.take (i+1))=if n.k=2 then aHw (cR (l.take i)) n.p else cR (l.take i):=by
 funext q
 rw[aLI h,aQ5]
 by_cases c:n.k=2
 ·rw[if_pos c]
  unfold aHw
  by_cases e:n.p=q
  ·rw[if_pos ⟨c,e⟩,if_pos e.symm,e]
  ·rw[if_neg (λx=>e x.2),if_neg (λx=>e x.symm)];rfl
 ·rw[if_neg c,if_neg (λx=>c x.1)];rfl
theorem aVr{l:List Nt}{i:Nat}{n:Nt}(h:l[i]? =some n):cO (l.take (i+1))=if n.k≠1∧n.k≠2 then aHw (cO (l.take i)) n.p else cO (l.take i):=by
 funext q
 rw[aLI h,aQ9]
 by_cases c:n.k≠1∧n.k≠2
 ·rw[if_pos c]
  unfold aHw
  by_cases e:n.p=q
  ·rw[if_pos ⟨c,e⟩,if_pos e.symm,e]
  ·rw[if_neg (λx=>e x.2),if_neg (λx=>e x.symm)];rfl
 ·rw[if_neg c,if_neg (λx=>c x.1)];rfl
theorem aYK(l:List Nt)(p:Pk):cS l p≤l.length:=aMc _ _
theorem aYH(l:List Nt)(p:Pk):cR l p≤l.length:=aMc _ _
theorem aYc(l:List Nt)(p:Pk):cO l p≤l.length:=aMc _ _
def aG5(id:Int)(l:List Nt)(n:Nt):Bool:=
 if n.k=1 then(n.p.f==id)&&(((cS l n.p:Nat):Int)==1) else if n.k=2 then(n.p.f==1-id)&&(((cR l n.p:Nat):Int)==1) else(n.p.f==id)&&((((cO l n.p:Nat):Int)==1)&&(((cS l n.p:Nat):Int)==1))
theorem aTn(id:Int)(l:List Nt)(n:Nt):aG5 id l n=true↔aH3 id l n:=by
 unfold aG5 aH3
 split
 ·simp only[wP,beq_iff_eq];omega
 ·split
  ·simp only[wP,beq_iff_eq];omega
  ·simp only[wP,beq_iff_eq];omega
theorem fY.ntd{h:PH}{v:Value}{l:List Nt}(S:fY h 5 v (l.map Nt.cells)){j:Nat}{x:Nt}(hx:l[j]? =some x):
  ∃b o,cV PG (indexAt dB v (.int .i64 (j:Int)))=some (pT b o)∧∀h',dC h h'->dD h' ⟨b,o,none⟩=some (.int .i64 x.k)∧cG PG h' (loadAt aR (pT b (o+1)))=some x.p.v:=by
 obtain⟨b,o,g1,g2,g3⟩:=S.ntc hx
 refine⟨b,o,g1,λh' u=>?_⟩
 obtain⟨b',o',k1,k2,k3⟩:=(S.ext u).ntc hx
 have e:(some (pT b o))=some (pT b' o'):=g1.symm.trans k1
 simp only[zL5,Value.pointer.injEq,Addr.mk.injEq,and_true] at e
 rw[e.1,e.2]
 exact⟨k2,k3⟩
def aGW(b9 x9 y9 b10 x10 y10 b11 x11 y11:Nat)(j:Nat)(l:List Nt)(sO gO oO:Pk->Nat):kG:=
 dT (nW b9 x9 y9 (if j=1 then sO else cS l) (if j=1 then cS l else sO)) (dT (nW b10 x10 y10 (if 1-j=1 then gO else cR l) (if 1-j=1 then cR l else gO)) (nW b11 x11 y11 (if j=1 then oO else cO l) (if j=1 then cO l else oO)))
theorem aGW.good(b9 x9 y9 b10 x10 y10 b11 x11 y11 j:Nat)(l:List Nt)(sO gO oO:Pk->Nat):kN (aGW b9 x9 y9 b10 x10 y10 b11 x11 y11 j l sO gO oO):=(nW.good _ _ _ _ _).star ((nW.good _ _ _ _ _).star (nW.good _ _ _ _ _))
theorem aIn{j:Nat}{a b:Pk->Nat}:aPT j (if j=1 then a else b) (if j=1 then b else a)=b:=by unfold aPT;split<;>rfl
end Go.Proofs.YtcoajnpchhmgjaaGreatDoor
