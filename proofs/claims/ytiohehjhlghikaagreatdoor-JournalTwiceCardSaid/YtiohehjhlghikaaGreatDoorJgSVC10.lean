/- journal: the card of JournalTwice: opened again and again, with a crash between, a journal tells the same state. -/
import Derived.Test.YtiohehjhlghikaaGreatDoorJgSVC9
set_option linter.all false
set_option maxRecDepth 100000
open Go.Instr (loadAt fieldAt indexAt extract buildSlice build)
namespace Go.Proofs.YtiohehjhlghikaaGreatDoor
section
open Go
def aM1{h:PH}{v:Value}{L:List JV}(A:JAs h v L)(size sectors room:Int){p q:Pl}(wp:p.wf)(wq:q.wf)(g:Nat)(hg:g<256){k:cE}(hk:∀h',dA h h'->k (.bool true) h'):bT PG uK #[.int .i64 size,.int .i64 sectors,.int .i64 room,lO p q,v,.int .u8 (g:Int)] h k:=by
 apply mR.call;unfold mR;intro r1 hr1
 try rw[cR]
 have u1:dA h (h.set r1 (.cells (Value.cells (lO p q)) cU)):=cX.new hr1;have B1:Bx (h.set r1 (.cells (Value.cells (lO p q)) cU)) r1 (p.cells++q.cells):=Bx.new;generalize h.set r1 (.cells (Value.cells (lO p q)) cU)=h1 at *;refine aSX λh2 u2=>?_;have u12:=u1.trans u2;simp only[cC,reduceIte,cI,Nat.reduceAdd];refine aVV (A.ext u12) size sectors λb few=>?_;cases b with
 | false=>
  simp only[cC,reduceIte,cI,Nat.reduceAdd];exact hk h2 u12
 | true=>
  have fw:=few rfl;obtain⟨s,rfl⟩:∃s:Nat,size=(s:Int):=⟨size.toNat,by have:=fw.s1;omega⟩;obtain⟨n,rfl⟩:∃n:Nat,sectors=(n:Int):=⟨sectors.toNat,by have:=fw.n1;omega⟩;have f1:=fw.s1;have f2:=fw.s2;have f3:=fw.n1;have f4:=fw.n2;have f5:=fw.len;have ok:gB s:=⟨by omega,by omega⟩;have B2:=B1.ext u2;have l1:cD PG h2 (loadAt cU (pT r1 0))=some (lO p q):=cU.agg B2 (by show 0+4≤4;decide);simp only[l1,cC,reduceIte,cI,Nat.reduceAdd];refine aOK s n ok (by omega) (by omega) room p q λh3 r a m F3 P3 f3' u3=>?_;have M3:aDj h2 h3 F3:=⟨u3,f3'⟩;simp only[aQG,cC,reduceIte,cI,Nat.reduceAdd];have dn:=Dk.new_ok (size:=s) (sectors:=n) ok (by omega) (by omega);refine aMK (d:=Dk.new s n) (jx:=none) ⟨none,none,0,P3,rfl,rfl⟩ wp wq (by show n≤1000;omega) (kT _) λh4 F4 P4 s4=>?_;have M4:=M3.step s4;have ti:=aRy (s:=s) (n:=n) ok (by omega) (by omega) room p q;obtain⟨g1,g2,g3⟩:=aK1 (room:=room) (p:=p) (q:=q) dn;have g2:(aCl room p q (Dk.new s n)).1.sectors=n:=g2;have g3:(aCl room p q (Dk.new s n)).1.buf.length≤0+108:=g3;refine⟨λvs h'=>∃(i:Nat) (z:Dk×Option Jn) (F:List Nat),i≤L.length∧vs=[.int .i64 room,v,.int .u8 (g:Int),pT r1 0,pT r 0,.int .i64 (i:Int)]∧aDO r a m z.1 z.2 room p q h' F∧aDj h2 h' F∧z.1.Ok∧z.1.sectors=n∧z.1.buf.length≤108+108*i∧(aSV room p q n∨(chk ⟨p,q,[]⟩ room=0∧TI room p q (2+4*i) z)),fT L.length 5,⟨0,aCl room p q (Dk.new s n),F4,by omega,rfl,P4,M4,g1,g2,by omega,ti⟩,?_⟩;rintro ρ h' ⟨i,z,F,hi,hvs,P,M,ok',hs,hb,T⟩;simp only[iG,jB,kZ,and_true] at hvs;obtain⟨x2,x4,x5,x9,x13,x14⟩:=hvs;unfold aA0;rw[x2,x4,x5,x9,x13,x14];have N:aDj h h' F:=⟨u12.trans M.ext,λb hb=>u12.none (M.fr b hb)⟩;have ll:=aQ1 (A.ext N.ext);by_cases hlt:i<L.length
  ·have gl:((i:Int)<(L.length:Int))=True:=eq_true (by omega);have gi:=nR (i:=i) (by omega);obtain⟨y,hy⟩:∃y,L[i]? =some y:=⟨_,kF hlt⟩;have hym:=zX hy;obtain⟨ad,i1,i2⟩:=(A.ext N.ext).whole hy;simp only[ll,gl,i1,i2,cC,reduceIte,cI,Nat.reduceAdd];refine aX6 P N A hym (fw.each y hym).1 wp wq (by omega) (by omega) λh5 F5 P5 s5=>?_;obtain⟨e1,e2,e3⟩:=aV5 (room:=room) (p:=p) (q:=q) ok' z.2 y.1;have e3:(doJ room p q y.1 z).1.buf.length≤z.1.buf.length+108:=e3;simp only[gi,cC,reduceIte,cI,Nat.reduceAdd];refine⟨⟨i+1,doJ room p q y.1 z,F5,by omega,rfl,P5,M.step s5,e1,e2.trans hs,by omega,?_⟩,by simp[fT,x14];omega⟩;rcases T with T|⟨hc,T⟩
   ·exact .inl T
   ·have:=T.step hc (by omega) y.1;exact .inr ⟨hc,this⟩
  ·have gl:((i:Int)<(L.length:Int))=False:=eq_false (by omega);obtain⟨jp,vp,e,P,-,-⟩:=P.here;have bp:=P.b;simp only[ll,gl,cW.f0,aLh bp.d,cC,reduceIte,cI,Nat.reduceAdd];obtain⟨Fa,Fm,rfl,Bp,Pr,-,np,-⟩:=P.here;obtain⟨Fd,D,hF,-⟩:=Pr.swap;refine aMV (l:=[]) D (λh' _=>(eH.nil (e:=eX)).slR) (by omega) λh5 F5 D5 s5=>?_;have B':=B2.ext M.ext;have r1F:r1∉Fd:=λhm=>B2.known (M.fr r1 (by simp[hF _ hm]));obtain⟨Bp5,np5⟩:=uO Bp (λhm=>np (hF _ hm)) s5;obtain⟨B15,n15⟩:=uO B' r1F s5;have N5:aDj h h5 F5:=(N.sub λb hb=>by simp[hF b hb]).step s5;have cd5:cV h5 ⟨r,0,none⟩=some (pT a 0):=Bp5.cell 0;have l5:cD PG h5 (loadAt cU (pT r1 0))=some (lO p q):=cU.agg B15 (by show 0+4≤4;decide);simp only[cW.f0,aLh cd5,l5,cC,reduceIte,cI,Nat.reduceAdd];refine aNp D5 room p q wp wq (by show z.1.sectors≤1000;omega) (kT _) λh6 F6 jp6 P6 s6 o6=>?_;have N6:=N5.step s6;have last:(fU (z.1.crash []) room p q).2.2≠0∨(chk ⟨p,q,[]⟩ room=0∧aJ5 (fU (z.1.crash []) room p q).1 (fU (z.1.crash []) room p q).2.1 room∧(fU (z.1.crash []) room p q).1.nw.1.gen≤200):=by
    rcases T with T|⟨hc,T⟩
    ·exact .inl (aT4 (by show aSV room p q z.1.sectors;rw[hs];exact T))
    ·rcases T.last hc ⟨wp,wq,by simp⟩ (by omega) with e|⟨Po,-,gg⟩
     ·exact .inl e
     ·exact .inr ⟨hc,Po,by omega⟩
   have zsec:(fU (z.1.crash []) room p q).1.sectors=n:=by
    rw[(aPK (ok'.crash []) room p q).2.2.1];exact hs
   obtain⟨Z,hZ⟩:∃Z,fU (z.1.crash []) room p q=Z:=⟨_,rfl⟩;rw[hZ] at P6 o6 last zsec ⊢;by_cases c:Z.2.2=0
   ·obtain⟨w,j,rfl⟩:=o6.1 c;obtain⟨hc,Po,gen⟩:=last.resolve_left (λx=>x c);have P6:wQ a w j Z.1 Z.2.1 h6 F6:=P6;have n0:(Z.2.2 !=0)=false:=by rw[c];rfl
    obtain⟨Bp6,np6⟩:=uO Bp5 np5 s6;obtain⟨B16,n16⟩:=uO B15 n15 s6;simp only[eI,n0,aK2,aLC,cC,reduceIte,cI,Nat.reduceAdd];refine aMS P6 λh7 v7 S7 nv7 u7=>?_;intro r57 hr57
    try rw[cR]
    refine bR.fill (vs:=Z.2.1.s.cells v7) hr57 rfl (Dm.isC _ S7.isc) λh8 B8 u8=>?_;have N8:=(N6.more u7).more u8;have B17:=(B16.ext u7);have Bp7:=Bp6.ext u7;have P8:=(P6.ext u7).ext u8;obtain⟨cs,hcs⟩:∃cs,aCr a m jp e vp room p q=cs:=⟨_,rfl⟩;have c0:cs[0]? =some (pT a 0):=by rw[←hcs];rfl
    rw[hcs] at Bp7;have S8:SmA h r1 r r57 a p q cs Z.1 w j Z.2.1 v7 h8 F6:=by
     refine⟨B17.ext u8,Bp7.ext u8,c0,B8,S7.ext u8,P8,n16,np6,λhm=>(P6.ext u7).known r57 hm hr57,iQ.notin nv7 P6.known,λe=>B17.known (by rw[e];exact hr57),λe=>Bp7.known (by rw[e];exact hr57),λb hb e=>?_,⟨N8.ext,λb hb=>?_⟩⟩
     ·exact aEs S7 b hb (by rw[e];exact hr57)
     ·rcases iW.1 hb with rfl|hb
      ·exact(N6.more u7).ext.none hr57
      ·exact N8.fr b hb
    refine⟨λvs h'=>∃(i:Nat) (d:Dk) (w j:Nat) (x:Jn) (F:List Nat),i≤g%4+1∧vs=[.int .i64 room,.int .u8 (g:Int),pT r1 0,pT r 0,pT r57 0,.int .i64 (i:Int)]∧SmA h r1 r r57 a p q cs d w j x v7 h' F∧aJ5 d x room∧d.nw.1.gen≤200+i∧d.sectors=n,fT (g%4+1) 5,⟨0,Z.1,w,j,Z.2.1,F6,by omega,rfl,S8,Po,by omega,zsec⟩,?_⟩;rintro ρ2 h9 ⟨i2,d2,w2,j2,x2',F2,hi2,hvs2,S2,Po2,gen2,hs2⟩;simp only[iG,jB,kZ,and_true] at hvs2;obtain⟨z2,z5,z9,z13,z17,z18⟩:=hvs2;rw[z2,z5,z9,z13,z17,z18];refine aUq wp wq hc S2 Po2 (by omega) (by omega) hg hi2 (hk h9 S2.now.ext) λhlt2 h10 F10 d10 w10 j10 x10 S10 Po10 g10 zz=>?_;exact⟨⟨i2+1,d10,w10,j10,x10,F10,by omega,rfl,S10,Po10,by omega,by omega⟩,by simp[fT,z18];omega⟩
   ·have ej:=o6.2 c;subst ej;have n0:(Z.2.2 !=0)=true:=bne_iff_ne.2 c;simp only[eI,n0,aK2,Option.isNone_none,cC,reduceIte,cI,Nat.reduceAdd];exact hk h6 N6.ext
end
section
open Go
def aY0{n:Int}(h:(Lit.int .u8 n).wf=true):0≤n∧n<256:=by
 simp[Lit.wf,IntKind.min,IntKind.max,IntKind.signed,IntKind.bits] at h;omega
def aMT{h:PH}(_:True)(a b c:Int){p q:Pl}{v:Value}{rows:List (List Value)}(S:iH h 7 v rows)(d:Int)(wp:p.wf)(wq:q.wf)(e:∃xs:List JV,rows=xs.map jrw∧∀y∈xs,wN h y.2.1 y.1.l∧CSl h y.2.2 y.1.w∧y.1.wf)(wd:(Lit.int .u8 d).wf=true){k:cE}(hk:∀h',dA h h'->k (.bool true) h'):
  bT PG uK #[.int .i64 a,.int .i64 b,.int .i64 c,lO p q,v,.int .u8 d] h k:=by
 obtain⟨L,A⟩:=JAs.of S e;obtain⟨w1,w2⟩:=aY0 wd;obtain⟨g,rfl⟩:=zLm w1;exact aM1 A a b c wp wq g (by omega) hk
end
end Go.Proofs.YtiohehjhlghikaaGreatDoor
namespace Go.Proofs.YtiohehjhlghikaaGreatDoor.journalTwice
open Go Go.ChangeShapes Go.WideShapes Go.ChangeAt Go.WideMaps Go.WideElems Go.RowKit
theorem own:ownKnob Tryz.prog.godebug=none:=by kernel_rfl
theorem lifted(os:Os)(started:os.Started)(H:Type)(enc:TypeId×Value->H):
  ReturnsInHanded {} Tryz.checked os 4 .any (λw args=>(Rows.journalTwiceSpec.pre enc Tryz.prog Tryz.f4 [] false w args∧laidMetH Tryz.prog aM3 w)∧sizedMet enc Tryz.prog Tryz.f4 (OpenSpec.ofChange Rows.journalTwiceSpec) false w args)
   (Rows.journalTwiceSpec.post enc Tryz.prog Tryz.f4 false true false false):=by
 refine returnsInHanded_of_change_and (C:=Tryz.checked) (X:=λw _=>laidMetH Tryz.prog aM3 w) (λ_ _ _ hh h=>h.of_heap hh) own started (by kernel_rfl) Tryz.func4
  (ChangeSpec.witness_shaped (enc:=enc) (C:=Tryz.checked) (os:=os) (X:=λw _=>laidMetH Tryz.prog aM3 w) false (World.laidAll Tryz.prog os aM3) #[.int .i64 0,.int .i64 0,.int .i64 0,.agg #[.int .u64 0,.int .i64 0,.int .u64 0,.int .i64 0],.slice none 0 0,.int .u8 0] 8 (World.laidAll_os _ _ _) (World.shaped_of_ZipB (by kernel_rfl) (by kernel_rfl)) (by kernel_rfl) (by kernel_rfl) (by kernel_rfl) (by rw[MakeChecks.laidMetH_plain _ _ _ (by kernel_rfl)];exact laidMet_laidAll _ (by kernel_rfl) (by kernel_rfl))) ?_
 intro W base args ds gs before hval0 hW _ _ hL _;have hval:∀(j:Nat) t v,Tryz.f4.params[j]? =some t->args[j]? =some v->Value.okWide Tryz.prog W .any base t v:=hval0;have hW':=hW;obtain⟨p,q,hA0,hV,rfl,hfz,hnd⟩:=hW;have hA:DataW.TrodAll enc Tryz.prog W 0 (λ_=>true) true Tryz.f4.params.toList args.toList ds p:=hA0;rw[Tryz.params4] at hA hval;obtain⟨v0,vs0,d0,ds0,p0,q0,hargs,rfl,rfl,h0,r0⟩:=trodAll_cons hA;obtain⟨v1,vs1,d1,ds1,p1,q1,rfl,rfl,rfl,h1,r1⟩:=trodAll_cons r0;obtain⟨v2,vs2,d2,ds2,p2,q2,rfl,rfl,rfl,h2,r2⟩:=trodAll_cons r1;obtain⟨v3,vs3,d3,ds3,p3,q3,rfl,rfl,rfl,h3,r3⟩:=trodAll_cons r2;obtain⟨v4,vs4,d4,ds4,p4,q4,rfl,rfl,rfl,h4,r4⟩:=trodAll_cons r3;obtain⟨v5,vs5,d5,ds5,p5,q5,rfl,rfl,rfl,h5,r5⟩:=trodAll_cons r4;obtain⟨rfl,rfl,rfl⟩:=trodAll_nil r5;obtain rfl:args= #[v0,v1,v2,v3,v4,v5]:=by cases args;simp_all
 obtain⟨rfl,rfl⟩:=trodVars_none hV;obtain⟨a0,rfl,rfl,rfl,w0⟩:=open_int Tryz.underlying3 (hval 0 3 v0 rfl rfl) h0;obtain⟨a1,rfl,rfl,rfl,w1⟩:=open_int Tryz.underlying3 (hval 1 3 v1 rfl rfl) h1;obtain⟨a2,rfl,rfl,rfl,w2⟩:=open_int Tryz.underlying3 (hval 2 3 v2 rfl rfl) h2;obtain⟨x3,y3,rfl,m3,n3⟩:=aWi (hval 3 25 v3 rfl rfl) h3;obtain⟨rows4,s4,o4⟩:=aW9 gW.und (by rw[dI.cells];decide) (hval 4 _ v4 rfl rfl) h4;rw[dI.cells] at s4;have e4:=JV.rds o4;obtain⟨a5,rfl,rfl,rfl,w5⟩:=open_int Tryz.underlying5 (hval 5 5 v5 rfl rfl) h5;refine(aSt (aMT (kOf hL) a0 a1 a2 s4 a5 m3 n3 e4 w5 λh' hx=>⟨rfl,hx⟩)).mono λe W' ⟨he,hk⟩=>?_;subst he;exact⟨_,rfl,aQV aYF aXc (by rw[Tryz.params4];decide +kernel) Tryz.underlying4 (by kernel_rfl) rfl hW' hk rfl rfl rfl⟩
theorem over:Rows.journalTwiceRow.holds Tryz.pinned (OpenSpec.ofChange Rows.journalTwiceSpec):=
 OpenClaim.holds_of_wide 4 Tryz.f4 rfl rfl rfl rfl rfl rfl rfl ⟨rfl,rfl,rfl,rfl,rfl⟩ rfl rfl rfl rfl rfl (by kernel_rfl) Tryz.func4 (by kernel_rfl)
  (of_decide_eq_true (by kernel_rfl)) (by unfold Func.isWrapper;first|(rw[if_pos (by decide +kernel)];kernel_rfl)|(rw[if_neg (by decide +kernel)];exact⟨rfl,rfl⟩))
  (λos started H enc _=>lifted os started H enc)
theorem proved:Rows.JournalTwiceCardSaid:=
 Claim7.holds_tied_plain_at .later [] [.data,.pinned] true (true,"0c8c7a63d2a285e71e8bcbfa8c35b77b58cfcfe86579a48db0f3727ae4e3fcf4") false
  over (λ_ h=>by cases h) (by kernel_rfl) (λ_ h=>by cases h) journalTwice_row_tie rfl ⟨rfl,rfl⟩ (by kernel_rfl) rfl
  (λf fn hf hfn=>by
   obtain rfl:f=4:=Option.some.inj ((show Tryz.prog.funcNamed Rows.journalTwiceRow.func=some 4 by kernel_rfl).symm.trans hf) |>.symm;obtain rfl:fn=Tryz.f4:=(Option.some.inj (Tryz.func4.symm.trans hfn)).symm;exact⟨by kernel_rfl,λj t ht=>by
    have hall:(Tryz.f4.params.toList.all λu=>!Tryz.prog.wantsStandIn u)=true:=by kernel_rfl
    have hm:t∈Tryz.f4.params.toList:=by simpa using Array.mem_of_getElem? ht
    exact(show Tryz.prog.wantsStandIn t=false by simpa using aKA.1 hall t hm)⟩)
  (by kernel_rfl)
#print axioms proved
end Go.Proofs.YtiohehjhlghikaaGreatDoor.journalTwice
