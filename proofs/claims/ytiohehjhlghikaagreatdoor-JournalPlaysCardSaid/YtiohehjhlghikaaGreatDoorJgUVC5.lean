/- The texts of this claim, put together. -/
import Derived.Test.YtiohehjhlghikaaGreatDoorJgUVC4
set_option linter.all false
set_option maxRecDepth 100000
open Go.Instr (loadAt fieldAt indexAt extract buildSlice build)
namespace Go.Proofs.YtiohehjhlghikaaGreatDoor
open Go
def Rc.wr(r:Rc):iX:=
 if r.k=1 then aF6 (wPl (wPl (lQ (0,[]) r.k) r.s.p0) r.s.p1) (r.s.its.map It.x)
 else aF6 (wPl (lQ (lQ (0,[]) r.k) r.ch) r.pl) (r.ns.map Nt.x)
def Rc.bytes(r:Rc):Tx×Int:=if r.plain then aEI r.wr else([],1)
def aUs{p q:Pl}:dE PG (Instr.index eD (mP p q) (.int .i64 0))=some (.agg p.cells.toArray):=by kernel_rfl
def aVD{p q:Pl}:dE PG (Instr.index eD (mP p q) (.int .i64 1))=some (.agg q.cells.toArray):=by kernel_rfl
def aXw{p q:Pl}{i:Nat}(hi:i<2):dE PG (Instr.index eD (mP p q) (.int .i64 (i:Int)))=some (.agg (if i=0 then p else q).cells.toArray):=by
 have:i=0∨i=1:=by omega
 rcases this with rfl|rfl
 ·exact aUs
 ·exact aVD
def aMQ{h:PH}{r:Rc}{v w:Value}(V:kV h v r.s.its)(W:wX h w r.ns)(wf:r.wf){k:dI}(hk:∀h',eM h h'->k (.tuple #[.string (tx r.bytes.1),.int .i64 r.bytes.2]) h'):bR PG aA8 #[r.v v w] h k:=by
 apply aFr.call;unfold aFr;intro r1 hr
 try rw[dY]
 have u1:eM h (h.set r1 (.cells (Value.cells (r.v v w)) bT)):=eH.new hr;have B:Bx (h.set r1 (.cells (Value.cells (r.v v w)) bT)) r1 (r.cells v w):=Bx.new;generalize h.set r1 (.cells (Value.cells (r.v v w)) bT)=h1 at *;have lr:dH PG h1 (loadAt bT (pT r1 0))=some (r.v v w):=bT.agg B (by show 0+10≤10;decide);simp only[lr,dF,reduceIte];refine aQC (V.ext u1) (W.ext u1) λh2 u2=>?_;have e2:=u1.trans u2;have B2:=B.ext u2;unfold Rc.bytes at hk;cases hp:r.plain with
 | false=>
  rw[hp] at hk;simp only[dF,reduceIte,dM,Nat.reduceAdd] at hk ⊢;exact hk _ e2
 | true=>
  rw[hp] at hk;simp only[if_true] at hk;simp only[dF,reduceIte,dM,Nat.reduceAdd];intro rw_ hrw
  try rw[dY]
  have S0:=WN.start hrw;have u3:eM h2 (h2.set rw_ (.cells (eX PG gH) gH)):=eH.new hrw;generalize h2.set rw_ (.cells (eX PG gH) gH)=h3 at *
  -- what was there when the writer was made stays
  have bx:∀{h':PH},eM h2 h'->Bx h' r1 (r.cells v w):=λu=>B2.ext u;have vv:∀{h':PH},eM h2 h'->kV h' v r.s.its:=λu=>V.ext (e2.trans u);have ww:∀{h':PH},eM h2 h'->wX h' w r.ns:=λu=>W.ext (e2.trans u);have few:r.s.its.length≤40∧r.ns.length≤16∧(r.k=1∨r.k=2):=by
   unfold Rc.plain at hp;split at hp
   ·rename_i hk1;simp only[tM,decide_eq_true_eq] at hp;exact⟨hp.2,by omega,.inl hk1⟩
   ·split at hp
    ·rename_i hk2;simp only[tM,decide_eq_true_eq] at hp;exact⟨by omega,hp.2,.inr hk2⟩
    ·cases hp
  obtain⟨f1,f2,fk⟩:=few;simp only[bT.f0,aR.load,(bx S0.upd).cell,Rc.cells,dF,reduceIte,dM,Nat.reduceAdd];refine aBm S0 (by simp) r.k λh4 F4 x4 e4 S4 K4=>?_;have b4:=qQ (0,[]) r.k;rw[←e4] at b4;simp only[lU] at b4;have fin:∀{st:iX} {h':PH} {F':List Nat},WN h2 h' rw_ st F'->st=r.wr->bR PG pB #[pT rw_ 0] h' λv36 h37=>dA (dE PG (extract v36 0)) λv38=>dA (dE PG (extract v36 1)) λv39=>k (.tuple #[v38,v39]) h37:=by
   intro st h' F' S' est;refine aMi S'.at_ λh9 u9=>?_;simp only[dF,reduceIte];rw[←est] at hk;exact hk h9 (e2.trans (S'.upd.fresh u9 S'.fresh))
  simp only[bT.f0,bT.f1,bT.f2,cR.f0,aR.load,(bx S4.upd).cell,Rc.cells,gX,dF,reduceIte,dM,Nat.reduceAdd];by_cases k1:r.k=1
  ·have q:(r.k==1)=true:=by simp[k1]
   have l2:dH PG h4 (loadAt eD (pT r1 1))=some (mP r.s.p0 r.s.p1):=eD.agg (bx S4.upd) (by show 1+4≤10;decide);simp only[q,l2,dF,reduceIte,dM,Nat.reduceAdd];refine⟨λvs h'=>∃(i:Nat) (st:iX) (F:List Nat),i≤2∧vs=[pT r1 0,pT rw_ 0,mP r.s.p0 r.s.p1,.int .i64 (i:Int)]∧WN h2 h' rw_ st F∧st=(if i=0 then x4 else if i=1 then wPl x4 r.s.p0 else wPl (wPl x4 r.s.p0) r.s.p1),gT 2 3,⟨0,_,_,by omega,rfl,S4,rfl⟩,?_⟩;rintro ρ h' ⟨i,st,F,hi,hvs,S',est⟩;simp only[jF,kF,lT,and_true] at hvs;obtain⟨v1,v4,v18,v19⟩:=hvs;simp only[v1,v4,v18,v19,jF,kF];unfold aIV;have hst:st.2.length≤100:=by
    have h1:=aNg x4 r.s.p0;have h2:=aNg (wPl x4 r.s.p0) r.s.p1;rw[est];split
    ·omega
    ·split<;>omega
   by_cases hl:i<2
   ·have g1:((i:Int)<2)=True:=eq_true (by omega);have gi:=oM (i:=i) (by omega);simp only[g1,aXw hl,dF,reduceIte];intro r5 hr5
    try rw[dY]
    refine dK.fill hr5 rfl (by simp[Pl.cells,gN]) λh5 B5 u5=>?_;have l5:dH PG h5 (loadAt dK (pT r5 0))=some (.agg (if i=0 then r.s.p0 else r.s.p1).cells.toArray):=dK.agg B5 (by show 0+2≤2;decide);simp only[l5,dF,reduceIte];have wq:(if i=0 then r.s.p0 else r.s.p1).wf:=by split;exact wf.s.a;exact wf.s.b
    refine aMr (WS.ext S' u5) (by omega) _ wq.1 wq.2 λh6 F6 S6 K6=>?_;simp only[gi,dF,reduceIte];refine⟨⟨i+1,_,F6,by omega,rfl,S6,?_⟩,?_⟩
    ·have:i=0∨i=1:=by omega
     rcases this with rfl|rfl
     ·rw[est];rfl
     ·rw[est];rfl
    ·simp only[gT,zLL,zLK];omega
   ·obtain rfl:i=2:=by omega
    have g1:(((2:Nat):Int)<2)=False:=eq_false (by omega);simp only[g1,bT.f1,cR.f1,dC.load,(bx S'.upd).cell,Rc.cells,dF,reduceIte,dM,Nat.reduceAdd];refine aR3 S' (by omega) (vv eH.refl) (by omega) wf.s.i λh6 F6 S6 K6=>?_;refine fin S6 ?_;unfold Rc.wr;rw[if_pos k1,est,e4];rfl
  ·have q:(r.k==1)=false:=by simp[k1]
   simp only[q,dF,reduceIte,dM,Nat.reduceAdd];refine aBm S4 (by omega) r.ch λh5 F5 x5 e5 S5 K5=>?_;have b5:=qQ x4 r.ch;rw[←e5] at b5;have l5:dH PG h5 (loadAt dK (pT r1 7))=some (.agg r.pl.cells.toArray):=dK.agg (bx S5.upd) (by show 7+2≤10;decide);simp only[bT.f3,l5,dF,reduceIte,dM,Nat.reduceAdd];refine aMr S5 (by omega) r.pl wf.pl.1 wf.pl.2 λh6 F6 S6 K6=>?_;have b6:=aNg x5 r.pl;simp only[bT.f4,eK.load,(bx S6.upd).cell,Rc.cells,dF,reduceIte,dM,Nat.reduceAdd];refine aRq S6 (by omega) (ww eH.refl) (by omega) wf.n λh7 F7 S7 K7=>?_;refine fin S7 ?_;unfold Rc.wr;rw[if_neg k1,e5,e4]
def Rc.rd(s:Tx):Rc×iX:=
 if (gO (0,s) 1).1=1 then
  (⟨1,⟨(iR (gO (0,s) 1).2).1,(iR (iR (gO (0,s) 1).2).2).1,(gM 2 (iR (iR (gO (0,s) 1).2).2).2).1.map It.of⟩,0,Pl.zero,[]⟩,(gM 2 (iR (iR (gO (0,s) 1).2).2).2).2)
 else if (gO (0,s) 1).1=2 then
  (⟨2,Dm.zero,(gO (gO (0,s) 1).2 1).1,(iR (gO (gO (0,s) 1).2 1).2).1,(gM 4 (iR (gO (gO (0,s) 1).2 1).2).2).1.map Nt.of⟩,(gM 4 (iR (gO (gO (0,s) 1).2 1).2).2).2)
 else(⟨(gO (0,s) 1).1,Dm.zero,0,Pl.zero,[]⟩,(gO (0,s) 1).2)
def xA(s:Tx):iX:=if (Rc.rd s).1.plain then(Rc.rd s).2 else yO (Rc.rd s).2 5
def iK(s:Tx):Rc×Int:=if aHU (xA s)≠0 then(Rc.zero,aHU (xA s)) else((Rc.rd s).1,0)
def aVZ(k:Nat):dE PG (build bT #[(0,.int .i64 (k:Int))])=some (Rc.v ⟨k,Dm.zero,0,Pl.zero,[]⟩ (.slice none 0 0) (.slice none 0 0)):=by kernel_rfl
def wV:dE PG (build bT #[])=some (Rc.v Rc.zero (.slice none 0 0) (.slice none 0 0)):=by kernel_rfl
def rX:dE PG (build cR #[])=some (Dm.v Dm.zero (.slice none 0 0)):=by kernel_rfl
def Rc.isC(r:Rc){v w:Value}(hv:gN v=true)(hw:gN w=true):∀u∈r.cells v w,gN u=true:=λu hu=>by
 simp only[Rc.cells,jW,zLg,or_false] at hu;rcases hu with rfl|rfl|rfl|rfl|rfl|rfl|rfl|rfl|rfl|rfl<;>first|rfl|exact hv|exact hw
def Dm.isC(d:Dm){v:Value}(hv:gN v=true):∀u∈d.cells v,gN u=true:=λu hu=>by
 simp only[Dm.cells,jW,zLg,or_false] at hu;rcases hu with rfl|rfl|rfl|rfl|rfl<;>first|rfl|exact hv
def aEE{h:PH}:kV h (.slice none 0 0) []:=(fY.nil (e:=dJ)).slR
def aMa{h:PH}:wX h (.slice none 0 0) []:=(fY.nil (e:=dP)).slR
def aP0{h:PH}{s:Tx}{k:dI}(hk:∀h' v w,kV h' v (iK s).1.s.its->wX h' w (iK s).1.ns->jV h v->jV h w->eM h h'->k (.tuple #[(iK s).1.v v w,.int .i64 (iK s).2]) h'):bR PG aC4 #[.string (tx s)] h k:=by
 apply aFe.call;unfold aFe;intro r1 hr1
 try rw[dY]
 have u1:eM h (h.set r1 (.cells (eX PG bT) bT)):=eH.new hr1;have Z:=bT.zbox (h:=h) (r:=r1);generalize h.set r1 (.cells (eX PG bT) bT)=h1 at *;refine aIR s λa h2 R2 u2 na=>?_;have e2:=u1.trans u2;have Z2:=Z.ext u2;have hra:r1≠a:=Z.apart na;refine aBD R2 λh3 R3 u3=>?_;have fa:fX h [a]:=fX.one (u1.none na);have e3:=e2.fresh u3 fa;have Z3:=Z2.upd u3 (by simpa using hra)
 try simp only[dF,reduceIte]
 simp only[aVZ,dF,reduceIte];intro r8 hr8
 try rw[dY]
 refine bT.fill hr8 rfl (Rc.isC _ rfl rfl) λh4 B4 u4=>?_;have e4:=e3.trans u4;have R4:=R3.ext u4;have Z4:=Z3.ext u4;have n8a:r8≠a:=λe=>by have:=R3.here;rw[←e,hr8] at this;cases this
 have n81:r8≠r1:=λe=>by subst e;exact Z3.known hr8
 have f8:fX h [r8]:=fX.one (e3.none hr8);have f1:fX h [r1]:=fX.one hr1
 -- the end: plain? at the end?
 have fin:∀{h5:PH} {v w:Value},mC h5 a (Rc.rd s).2.1 (Rc.rd s).2.2->Bx h5 r8 ((Rc.rd s).1.cells v w)->Bx h5 r1 (Rc.zero.cells (.slice none 0 0) (.slice none 0 0))->kV h5 v (Rc.rd s).1.s.its->wX h5 w (Rc.rd s).1.ns->jV h v->jV h w->(∀x n c,v= .slice (some x) n c->x.block≠a∧x.block≠r1)->(∀x n c,w= .slice (some x) n c->x.block≠a∧x.block≠r1)->eM h h5->aE2 k (pT r1 0) (pT a 0) (pT r8 0) h5:=by
  intro h5 v w R5 B5 Z5 V5 W5 nv nw hv hw e5;unfold aE2;have l5:dH PG h5 (loadAt bT (pT r8 0))=some ((Rc.rd s).1.v v w):=bT.agg B5 (by show 0+10≤10;decide);simp only[l5,dF,reduceIte];refine aQC V5 W5 λh6 u6=>?_;have last:∀{h7:PH},mC h7 a (xA s).1 (xA s).2->eH [a] h6 h7->aCc k (pT r1 0) (pT a 0) (pT r8 0) h7:=by
   intro h7 R7 u7;unfold aCc;have u57:eH [a] h5 h7:=u6.upd.trans u7;have B7:=B5.upd u57 (by simpa using n8a);have Z7:=Z5.upd u57 (by simpa using hra);have V7:kV h7 v (Rc.rd s).1.s.its:=V5.upd u57 λx n c e=>by simpa using(hv x n c e).1
   have W7:wX h7 w (Rc.rd s).1.ns:=W5.upd u57 λx n c e=>by simpa using(hw x n c e).1
   have e7:=e5.fresh u57 fa;refine aWa R7 ?_;unfold iK at hk;by_cases h0:aHU (xA s)=0
   ·rw[if_neg (by simp[h0])] at hk;have l7:dH PG h7 (loadAt bT (pT r8 0))=some ((Rc.rd s).1.v v w):=bT.agg B7 (by show 0+10≤10;decide);simp only[h0,fZ,bne_self_eq_false,l7,dF,reduceIte];refine bT.put Z7 rfl (by show 0+10≤10;decide) (Rc.isC _ V7.isc W7.isc) λh8 B8 u8=>?_;have l8:dH PG h8 (loadAt bT (pT r1 0))=some ((Rc.rd s).1.v v w):=bT.agg B8 (by show 0+10≤10;decide);simp only[l8,dF,reduceIte];exact hk h8 v w (V7.upd u8 λx n c e=>by simpa using(hv x n c e).2) (W7.upd u8 λx n c e=>by simpa using(hw x n c e).2) nv nw (e7.fresh u8 f1)
   ·rw[if_pos h0] at hk;have q:(aHU (xA s) !=0)=true:=by simp[h0]
    simp only[fZ,q,wV,dF,reduceIte];refine bT.put Z7 rfl (by show 0+10≤10;decide) (Rc.isC _ rfl rfl) λh8 B8 u8=>?_;have l8:dH PG h8 (loadAt bT (pT r1 0))=some (Rc.zero.v (.slice none 0 0) (.slice none 0 0)):=bT.agg B8 (by show 0+10≤10;decide);simp only[l8,dF,reduceIte];exact hk h8 _ _ aEE aMa jV.nil jV.nil (e7.fresh u8 f1)
  have hst:xA s=if (Rc.rd s).1.plain then(Rc.rd s).2 else yO (Rc.rd s).2 5:=rfl
  cases hp:(Rc.rd s).1.plain with
  | true=>
   rw[hp] at hst;simp only[if_true] at hst;simp only[dF,reduceIte];exact last (by rw[hst];exact R5.ext u6) eH.refl
  | false=>
   rw[hp] at hst;simp only[zLs,if_false] at hst;simp only[gF.f0,dF,reduceIte];refine aEr (R5.ext u6) 5 λh7 R7 u7=>?_;exact last (by rw[hst];exact R7) u7
 have newOf:∀{h5 h6:PH} {e:TypeId} {rows:List (List Value)} {v:Value} {F:List Nat},eM h h5->Bx h5 r1 (Rc.zero.cells (.slice none 0 0) (.slice none 0 0))->Bx h5 r8 ((Rc.cells ⟨(gO (0,s) 1).1,Dm.zero,0,Pl.zero,[]⟩ (.slice none 0 0) (.slice none 0 0)))∨(h5 r8≠none)->h5 a≠none->fY h6 e 5 v rows F->fX h5 F->jV h v∧(∀x n c,v= .slice (some x) n c->x.block≠a∧x.block≠r1)∧(∀x n c,v= .slice (some x) n c->x.block≠r8):=by
  intro h5 h6 e rows v F e5 Z5 B5 A5 O f;have nv:=O.newV f;refine⟨nv.of e5,λx n c ev=>⟨λe=>A5 (by rw[←e];exact nv x n c ev),λe=>Z5.known (by rw[←e];exact nv x n c ev)⟩,λx n c ev e=>?_⟩;have hn:=nv x n c ev;rw[e] at hn;rcases B5 with B5|B5
  ·exact B5.known hn
  ·exact B5 hn
 simp only[bT.f0,aR.load,B4.cell,Rc.cells,gX,dF,reduceIte,dM,Nat.reduceAdd];have hrd:Rc.rd s=if (gO (0,s) 1).1=1 then _ else _:=rfl
 by_cases k1:(gO (0,s) 1).1=1
 ·have q:(((gO (0,s) 1).1:Int)==1)=true:=by simp[k1]
  rw[if_pos k1] at hrd;rw[k1] at B4;generalize (gO (0,s) 1).2=st1 at *;simp only[q,dF,reduceIte,dM,Nat.reduceAdd];refine⟨λvs h'=>∃(i:Nat) (st:iX) (p0 p1:Pl),i≤2∧vs=[pT r1 0,pT a 0,pT r8 0,.int .i64 (i:Int)]∧mC h' a st.1 st.2∧Bx h' r8 (Rc.cells ⟨1,⟨p0,p1,[]⟩,0,Pl.zero,[]⟩ (.slice none 0 0) (.slice none 0 0))∧Bx h' r1 (Rc.zero.cells (.slice none 0 0) (.slice none 0 0))∧eM h h'∧(i=0->st=st1∧p0=Pl.zero∧p1=Pl.zero)∧(i=1->st=(iR st1).2∧p0=(iR st1).1∧p1=Pl.zero)∧(i=2->st=(iR (iR st1).2).2∧p0=(iR st1).1∧p1=(iR (iR st1).2).1),gT 2 3,⟨0,st1,_,_,by omega,rfl,R4,B4,Z4,e4,λ_=>⟨rfl,rfl,rfl⟩,λh=>by omega,λh=>by omega⟩,?_⟩;rintro ρ h' ⟨i,st,p0,p1,hi,hvs,R',B',Z',e',c0,c1,c2⟩;simp only[jF,kF,lT,and_true] at hvs;obtain⟨v2,v4,v5,v17⟩:=hvs;simp only[v2,v4,v5,v17,jF,kF];unfold aIf;by_cases hl:i<2
  ·have g1:((i:Int)<2)=True:=eq_true (by omega);have gi:=oM (i:=i) (by omega);simp only[g1,dF,reduceIte];refine aRI R' λh5 R5 u5=>?_;have B5:=B'.upd u5 (by simpa using n8a);have Z5:=Z'.upd u5 (by simpa using hra);have e5:=e'.fresh u5 fa;have ix:=uI (P:=PG) (t:=eD) (b:=r8) (o:=1) (k:=.i64) (j:=(i:Int)) eD.und dK.info dK.size (by omega) (by omega);rw[xZ] at ix;simp only[bT.f1,cR.f0,kB,ix,dF,reduceIte];have:i=0∨i=1:=by omega
   rcases this with rfl|rfl
   ·obtain⟨rfl,rfl,rfl⟩:=c0 rfl;refine dK.put B5 (o:=1) rfl (by show 1+2≤10;decide) (by simp[Pl.cells,gN]) λh6 B6 u6=>?_;simp only[gi,dF,reduceIte];refine⟨⟨1,_,(iR st).1,_,by omega,rfl,R5.upd u6 (by simpa using n8a.symm),B6,Z5.upd u6 (by simpa using n81.symm),e5.fresh u6 f8,λh=>by omega,λ_=>⟨rfl,rfl,rfl⟩,λh=>by omega⟩,?_⟩;simp only[gT,zLL,zLK];omega
   ·obtain⟨rfl,rfl,rfl⟩:=c1 rfl;refine dK.put B5 (o:=3) rfl (by show 3+2≤10;decide) (by simp[Pl.cells,gN]) λh6 B6 u6=>?_;simp only[gi,dF,reduceIte];refine⟨⟨2,_,(iR st1).1,(iR (iR st1).2).1,by omega,rfl,R5.upd u6 (by simpa using n8a.symm),B6,Z5.upd u6 (by simpa using n81.symm),e5.fresh u6 f8,λh=>by omega,λh=>by omega,λ_=>⟨rfl,rfl,rfl⟩⟩,?_⟩;simp only[gT,zLL,zLK];omega
  ·obtain rfl:i=2:=by omega
   obtain⟨rfl,rfl,rfl⟩:=c2 rfl;have g1:(((2:Nat):Int)<2)=False:=eq_false (by omega);simp only[g1,dF,reduceIte];refine aWR R' λh5 v F R5 O5 f5 u5=>?_;have B5:=B'.upd u5 (by simpa using n8a);have Z5:=Z'.upd u5 (by simpa using hra);have e5:=e'.fresh u5 fa;obtain⟨nv,hv,hv8⟩:=newOf e' Z' (.inr B'.known) (by rw[R'.here];simp) O5 f5;simp only[bT.f1,cR.f1,kB,Nat.reduceAdd,dF,reduceIte];refine dC.put B5 (o:=5) (by show 5<10;decide) O5.slR.isc λh6 B6 u6=>?_;unfold vF;rw[hrd] at fin;refine fin (v:=v) (w:=.slice none 0 0) (R5.upd u6 (by simpa using n8a.symm)) B6 (Z5.upd u6 (by simpa using n81.symm)) (O5.slR.upd u6 λx n c e=>by simpa using hv8 x n c e) aMa nv jV.nil hv (λx n c e=>by cases e) (e5.fresh u6 f8)
 ·have q:(((gO (0,s) 1).1:Int)==1)=false:=by simp;omega
  rw[if_neg k1] at hrd;simp only[q,dF,reduceIte,dM,Nat.reduceAdd];by_cases k2:(gO (0,s) 1).1=2
  ·have q2:(((gO (0,s) 1).1:Int)==2)=true:=by simp[k2]
   rw[if_pos k2] at hrd;rw[k2] at B4;generalize (gO (0,s) 1).2=st1 at *;simp only[q2,dF,reduceIte,dM,Nat.reduceAdd];refine aBD R4 λh5 R5 u5=>?_;simp only[Prod.eta] at R5;have B5:=B4.upd u5 (by simpa using n8a);have Z5:=Z4.upd u5 (by simpa using hra);have e5:=e4.fresh u5 fa;simp only[bT.f2,kB,Nat.reduceAdd,dF,reduceIte];refine aR.put B5 (o:=6) (by show 6<10;decide) rfl λh6 B6 u6=>?_;have R6:=R5.upd u6 (by simpa using n8a.symm);have Z6:=Z5.upd u6 (by simpa using n81.symm);have e6:=e5.fresh u6 f8;refine aRI R6 λh7 R7 u7=>?_;have B7:=B6.upd u7 (by simpa using n8a);have Z7:=Z6.upd u7 (by simpa using hra);have e7:=e6.fresh u7 fa;simp only[bT.f3,kB,Nat.reduceAdd,dF,reduceIte];refine dK.put B7 (o:=7) rfl (by show 7+2≤10;decide) (by simp[Pl.cells,gN]) λh8 B8 u8=>?_;have R8:=R7.upd u8 (by simpa using n8a.symm);have Z8:=Z7.upd u8 (by simpa using n81.symm);have e8:=e7.fresh u8 f8;refine aWQ R8 λh9 v F R9 O9 f9 u9=>?_;have B9:=B8.upd u9 (by simpa using n8a);have Z9:=Z8.upd u9 (by simpa using hra);have e9:=e8.fresh u9 fa;obtain⟨nv,hv,hv8⟩:=newOf e8 Z8 (.inr B8.known) (by rw[R8.here];simp) O9 f9;simp only[bT.f4,kB,Nat.reduceAdd,dF,reduceIte];refine eK.put B9 (o:=9) (by show 9<10;decide) O9.slR.isc λh10 B10 u10=>?_;unfold vF;rw[hrd] at fin;refine fin (v:=.slice none 0 0) (w:=v) (R9.upd u10 (by simpa using n8a.symm)) B10 (Z9.upd u10 (by simpa using n81.symm)) aEE (O9.slR.upd u10 λx n c e=>by simpa using hv8 x n c e) jV.nil nv (λx n c e=>by cases e) hv (e9.fresh u10 f8)
  ·have q2:(((gO (0,s) 1).1:Int)==2)=false:=by simp;omega
   rw[if_neg k2] at hrd;simp only[q2,dF,reduceIte,dM,Nat.reduceAdd];unfold vF;rw[hrd] at fin;exact fin (v:=.slice none 0 0) (w:=.slice none 0 0) R4 B4 Z4 aEE aMa jV.nil jV.nil (λx n c e=>by cases e) (λx n c e=>by cases e) e4
structure Dk where
 (size sectors:Nat)
 st:List Tx
 buf:List (Nat×Tx)
 arm:Nat
def mV(st:List Tx)(buf:List (Nat×Tx)):List Tx:=buf.foldl (λl w=>l.set w.1 w.2) st
def aA2:∀(buf:List (Nat×Tx)) (st:List Tx),(mV st buf).length=st.length
 | [],st=>rfl
 | w::buf,st=>by
  show(mV (st.set w.1 w.2) buf).length=_;rw[aA2 buf,List.length_set]
def aJU(st:List Tx)(buf:List (Nat×Tx))(w:Nat×Tx):mV st (buf++[w])=(mV st buf).set w.1 w.2:=by unfold mV;rw[List.foldl_append];rfl
def Dk.tick(d:Dk):Dk:=⟨d.size,d.sectors,d.st,d.buf,d.arm-1⟩
def Dk.wr(d:Dk)(n:Int)(s:Tx):Dk×Int:=
 if n<0∨(d.sectors:Int)≤n∨s.length≠d.size then(d,1) else if d.arm=1 then(d.tick,13) else(⟨d.size,d.sectors,d.st,d.buf++[(n.toNat,s)],d.arm-1⟩,0)
def Dk.fl(d:Dk):Dk×Int:=if d.arm=1 then(d.tick,13) else(⟨d.size,d.sectors,mV d.st d.buf,[],d.arm-1⟩,0)
def Dk.at(d:Dk)(n:Nat):Tx:=(mV d.st d.buf).getD n []
def Dk.rd(d:Dk)(n:Int):Tx×Int:=if n<0∨(d.sectors:Int)≤n then([],1) else(d.at n.toNat,0)
structure Dk.Ok(d:Dk):Prop where
 len:d.st.length=d.sectors
 size:iB d.size
 one:1≤d.sectors
 many:d.sectors≤4096
 each:∀s∈d.st,s.length=d.size
 buf:∀w∈d.buf,w.1<d.sectors∧w.2.length=d.size
def Dk.Ok.tick{d:Dk}(H:d.Ok):d.tick.Ok:=⟨H.len,H.size,H.one,H.many,H.each,H.buf⟩
def Dk.Ok.wr{d:Dk}(H:d.Ok)(n:Int)(s:Tx):(d.wr n s).1.Ok:=by
 unfold Dk.wr;split
 ·exact H
 ·rename_i h;split
  ·exact H.tick
  ·refine⟨H.len,H.size,H.one,H.many,H.each,λw hw=>?_⟩;rcases wQ.1 hw with hw|hw
   ·exact H.buf w hw
   ·simp only[jI] at hw;subst hw;have h2:¬s.length≠d.size:=λhx=>h (.inr (.inr hx));exact⟨by show n.toNat<d.sectors;omega,by show s.length=d.size;omega⟩
def aGs{n:Nat}:∀(buf:List (Nat×Tx)) (st:List Tx),(∀s∈st,s.length=n)->(∀w∈buf,w.2.length=n)->∀s∈mV st buf,s.length=n
 | [],st,h,_=>h
 | w::buf,st,h,hb=>aGs buf (st.set w.1 w.2) (λs hs=>by
   rcases List.mem_or_eq_of_mem_set hs with h1|h1
   ·exact h s h1
   ·rw[h1];exact hb w (by simp)) λx hx=>hb x (by simp[hx])
def Dk.Ok.fl{d:Dk}(H:d.Ok):d.fl.1.Ok:=by
 unfold Dk.fl;split
 ·exact H.tick
 ·exact⟨by show(mV _ _).length=_;rw[aA2];exact H.len,H.size,H.one,H.many,aGs _ _ H.each λw hw=>(H.buf w hw).2,by simp⟩
def Dk.wr_geo(d:Dk)(n:Int)(s:Tx):(d.wr n s).1.size=d.size∧(d.wr n s).1.sectors=d.sectors:=by
 unfold Dk.wr;split
 ·exact⟨rfl,rfl⟩
 ·split<;>exact⟨rfl,rfl⟩
def Dk.fl_geo(d:Dk):d.fl.1.size=d.size∧d.fl.1.sectors=d.sectors:=by
 unfold Dk.fl;split<;>exact⟨rfl,rfl⟩
def Dk.Ok.at_len{d:Dk}(H:d.Ok){n:Nat}(h:n<d.sectors):(d.at n).length=d.size:=by
 unfold Dk.at;have hl:n<(mV d.st d.buf).length:=by rw[aA2,H.len];exact h
 rw[aCz,lG hl];exact aGs _ _ H.each (λw hw=>(H.buf w hw).2) _ (aIQ hl)
structure Wl where
 hd:Hd
 (slot used ser:Nat)
 (ready broken:Bool)
def Wl.zero:Wl:=⟨Hd.zero,0,0,0,false,false⟩
def jZ:Dk->Nat->List Tx->Dk×Int
 | d,_,[]=>d.fl
 | d,n,s::l=>if (d.wr (n:Int) s).2≠0 then((d.wr (n:Int) s).1,(d.wr (n:Int) s).2) else jZ (d.wr (n:Int) s).1 (n+1) l
def qV:∀(l:List Tx) {d:Dk} (_:d.Ok) (n:Nat),(jZ d n l).1.Ok∧(jZ d n l).1.size=d.size∧(jZ d n l).1.sectors=d.sectors∧((jZ d n l).2=0∨(jZ d n l).2=1∨(jZ d n l).2=13)
 | [],d,H,n=>by
  refine⟨H.fl,d.fl_geo.1,d.fl_geo.2,?_⟩;show d.fl.2=0∨d.fl.2=1∨d.fl.2=13;unfold Dk.fl;split
  ·exact .inr (.inr rfl)
  ·exact .inl rfl
 | s::l,d,H,n=>by
  unfold jZ;split
  ·refine⟨H.wr _ _,(d.wr_geo _ _).1,(d.wr_geo _ _).2,?_⟩;show(d.wr _ _).2=0∨(d.wr _ _).2=1∨(d.wr _ _).2=13;unfold Dk.wr;split
   ·exact .inr (.inl rfl)
   ·split
    ·exact .inr (.inr rfl)
    ·exact .inl rfl
  ·obtain⟨a,b,c,e⟩:=qV l (H.wr (n:Int) s) (n+1);exact⟨a,b.trans (d.wr_geo _ _).1,c.trans (d.wr_geo _ _).2,e⟩
def Dk.segs(d:Dk):Nat:=(d.sectors-2)/2
def Dk.base(d:Dk)(seg:Nat):Nat:=2+seg*d.segs
def Dk.secs(d:Dk)(n k:Nat):List Tx:=(List.range k).map λi=>d.at (n+i)
def Dk.secs_len(d:Dk)(n k:Nat):(d.secs n k).length=k:=by simp[Dk.secs]
def aA7(d:Dk)(hd:Hd)(slot:Nat):Wl×List Tx:=
 (⟨hd,slot,(lF d.size hd.gen (d.segs+1) (d.secs (d.base hd.seg) d.segs) 0).2,(lF d.size hd.gen (d.segs+1) (d.secs (d.base hd.seg) d.segs) 0).1.length,false,false⟩,(lF d.size hd.gen (d.segs+1) (d.secs (d.base hd.seg) d.segs) 0).1)
def gQ(d:Dk):Dk×(Wl×List Tx)×Int:=
 if d.sectors<4 then(d,(Wl.zero,[]),1)
 else if d.fl.2≠0 then(d.fl.1,(Wl.zero,[]),d.fl.2)
 else if (oS d.size (d.fl.1.at 0) (d.fl.1.at 1)).2<0 then
  if (jZ d.fl.1 1 [(gY d.size ⟨1,0⟩).1]).2≠0 then((jZ d.fl.1 1 [(gY d.size ⟨1,0⟩).1]).1,(Wl.zero,[]),(jZ d.fl.1 1 [(gY d.size ⟨1,0⟩).1]).2)
  else((jZ d.fl.1 1 [(gY d.size ⟨1,0⟩).1]).1,aA7 (jZ d.fl.1 1 [(gY d.size ⟨1,0⟩).1]).1 ⟨1,0⟩ 1,0)
 else(d.fl.1,aA7 d.fl.1 (oS d.size (d.fl.1.at 0) (d.fl.1.at 1)).1 (oS d.size (d.fl.1.at 0) (d.fl.1.at 1)).2.toNat,0)
def Wl.brk(w:Wl)(e:Int):Wl:=⟨w.hd,w.slot,w.used,w.ser,w.ready,decide (e=13)⟩
def fits(d:Dk)(w:Wl)(n:Nat):Bool:=decide (fD d.size n≠0∧fD d.size n+w.used≤d.segs)
def vB(d:Dk)(w:Wl)(s:Tx):Dk×Int:=jZ d (d.base w.hd.seg+w.used) (hY d.size w.hd.gen w.ser s)
def jM(d:Dk)(w:Wl)(s:Tx):Dk×Wl×Int:=
 if w.broken then(d,w,14)
 else if w.ready=false then(d,w.brk 15,15)
 else if fD d.size s.length=0 then(d,w.brk 1,1)
 else if fits d w s.length=false then(d,w.brk 2,2)
 else if (vB d w s).2≠0 then((vB d w s).1,w.brk (vB d w s).2,(vB d w s).2)
 else((vB d w s).1,⟨w.hd,w.slot,w.used+fD d.size s.length,w.ser+1,w.ready,false⟩,0)
def nI(d:Dk)(h:Hd)(s:Tx):Dk×Int:=jZ d (d.base h.seg) (hY d.size h.gen 0 s)
def iE(d:Dk)(w:Wl)(s:Tx):Dk×Wl×Int:=
 if w.broken then(d,w,14)
 else if fD d.size s.length=0 then(d,w.brk 1,1)
 else if d.segs<fD d.size s.length then(d,w.brk 2,2)
 else if (iQ w.hd).2≠0 then(d,w.brk (iQ w.hd).2,(iQ w.hd).2)
 else if (nI d (iQ w.hd).1 s).2≠0 then((nI d (iQ w.hd).1 s).1,w.brk (nI d (iQ w.hd).1 s).2,(nI d (iQ w.hd).1 s).2)
 else if (jZ (nI d (iQ w.hd).1 s).1 (1-w.slot) [(gY d.size (iQ w.hd).1).1]).2≠0 then
  ((jZ (nI d (iQ w.hd).1 s).1 (1-w.slot) [(gY d.size (iQ w.hd).1).1]).1,w.brk (jZ (nI d (iQ w.hd).1 s).1 (1-w.slot) [(gY d.size (iQ w.hd).1).1]).2,(jZ (nI d (iQ w.hd).1 s).1 (1-w.slot) [(gY d.size (iQ w.hd).1).1]).2)
 else((jZ (nI d (iQ w.hd).1 s).1 (1-w.slot) [(gY d.size (iQ w.hd).1).1]).1,⟨(iQ w.hd).1,1-w.slot,fD d.size s.length,1,true,false⟩,0)
def aQJ{l:List Tx}{i n:Nat}{s:Tx}(h:n<l.length):(l.set n s).getD i []=if i=n then s else l.getD i []:=by
 rw[aCz,aCz,List.getElem?_set];by_cases c:n=i
 ·subst c;simp[h]
 ·rw[if_neg c,if_neg (by omega)]
structure aSG(d d':Dk)(n:Nat)(l:List Tx):Prop where
 ok:d'.Ok
 size:d'.size=d.size
 sectors:d'.sectors=d.sectors
 arm:d'.arm=0
 buf:d'.buf=[]
 here:∀i,d'.at i=if n≤i∧i<n+l.length then l.getD (i-n) [] else d.at i
def aG4:∀(l:List Tx) {d:Dk} (_:d.Ok) (_:d.arm=0) (n:Nat) (_:n+l.length≤d.sectors) (_:∀s∈l,s.length=d.size),(jZ d n l).2=0∧aSG d (jZ d n l).1 n l
 | [],d,H,ha,n,hn,hl=>by
  have e:jZ d n []=(⟨d.size,d.sectors,mV d.st d.buf,[],d.arm-1⟩,0):=by
   show d.fl=_;unfold Dk.fl;rw[if_neg (by omega)]
  have hok:(jZ d n []).1.Ok:=(qV [] H n).1;rw[e] at hok ⊢;exact⟨rfl,hok,rfl,rfl,by show d.arm-1=0;omega,rfl,λi=>by rw[if_neg (by simp only[lU];omega)];rfl⟩
 | s::l,d,H,ha,n,hn,hl=>by
  simp only[jY] at hn;have e:d.wr (n:Int) s=(⟨d.size,d.sectors,d.st,d.buf++[(n,s)],d.arm-1⟩,0):=by
   unfold Dk.wr;rw[if_neg (by have:=hl s (by simp);omega),if_neg (by omega)];rfl
  have h1:=H.wr (n:Int) s;have eat:∀i,(d.wr (n:Int) s).1.at i=if i=n then s else d.at i:=λi=>by
   rw[e];show(mV d.st (d.buf++[(n,s)])).getD i []=_;rw[aJU,aQJ (by rw[aA2,H.len];omega)];rfl
  have ih:=aG4 l h1 (by rw[e];show d.arm-1=0;omega) (n+1) (by rw[e];show n+1+l.length≤d.sectors;omega) (by rw[e];exact λx hx=>hl x (by simp[hx]));have ep:jZ d n (s::l)=jZ (d.wr (n:Int) s).1 (n+1) l:=by
   conv=>lhs;unfold jZ
   rw[if_neg (by rw[e];simp)]
  rw[ep];obtain⟨a,b⟩:=ih;refine⟨a,b.ok,b.size.trans (by rw[e]),b.sectors.trans (by rw[e]),b.arm,b.buf,λi=>?_⟩;rw[b.here i,eat i];simp only[jY];by_cases c1:i=n
  ·subst c1;rw[if_neg (by omega),if_pos rfl,if_pos (by omega),aJS];rfl
  ·by_cases c2:n+1≤i∧i<n+1+l.length
   ·rw[if_pos c2,if_pos (by omega)];obtain⟨k,hk⟩:∃k,i-n=k+1:=⟨i-n-1,by omega⟩;rw[hk,show i-(n+1)=k by omega];rfl
   ·rw[if_neg c2,if_neg c1,if_neg (by omega)]
def aIv{size n:Nat}(ok:iB size)(h:n≤4096):fD size n=max 1 ((n+(size-25)-1)/(size-25)):=by unfold fD;rw[if_pos ⟨ok,h⟩]
def vZ{size n:Nat}(ok:iB size)(h:n≤4096):1≤fD size n:=by rw[aIv ok h];omega
def aDs{size n k:Nat}(ok:iB size)(h:n≤4096)(hk:k+1<fD size n):(k+1)*(size-25)<n:=by
 rw[aIv ok h] at hk;have h64:=ok.1;obtain⟨room,hr⟩:∃room,size-25=room:=⟨_,rfl⟩;rw[hr] at hk ⊢;have hq:k+2≤(n+room-1)/room:=by omega
 have h2:=(Nat.le_div_iff_mul_le (by omega)).1 hq;rw[show(k+2)*room=(k+1)*room+room by rw[show k+2=(k+1)+1 by omega,Nat.succ_mul]] at h2;omega
def aD3{size n k:Nat}(ok:iB size)(h:n≤4096)(hk:k+1=fD size n):n≤(k+1)*(size-25)∧(1≤k->k*(size-25)<n):=by
 have h64:=ok.1;have hk':=hk;rw[aIv ok h] at hk;refine⟨?_,λh1=>?_⟩
 ·obtain⟨room,hr⟩:∃room,size-25=room:=⟨_,rfl⟩;rw[hr] at hk ⊢;have hq:(n+room-1)/room<k+2:=by omega
  have h2:=(Nat.div_lt_iff_lt_mul (by omega)).1 hq;rw[show(k+2)*room=(k+1)*room+room by rw[show k+2=(k+1)+1 by omega,Nat.succ_mul]] at h2;omega
 ·obtain⟨j,rfl⟩:∃j,k=j+1:=⟨k-1,by omega⟩;exact aDs ok h (by omega)
def aI5{size n:Nat}(ok:iB size):fD size n≤106:=by
 unfold fD;split
 ·rename_i c;have h64:=ok.1;have h4:=c.2;obtain⟨room,hr⟩:∃room,size-25=room:=⟨_,rfl⟩;rw[hr];have:(n+room-1)/room<107:=(Nat.div_lt_iff_lt_mul (by omega)).2 (by omega);omega
 ·omega
def aSg{size m n:Nat}(ok:iB size)(h:m≤n)(hn:n≤4096):fD size m≤fD size n:=by
 rw[aIv ok hn,aIv ok (by omega)];have:(m+(size-25)-1)/(size-25)≤(n+(size-25)-1)/(size-25):=Nat.div_le_div_right (by omega);omega
def aHM{size:Nat}{s:Tx}{k:Nat}(ok:iB size)(h:s.length≤4096)(hk:k<fD size s.length):
  (kK (size-25) s k).length+25≤size∧(k+1≠fD size s.length->(kK (size-25) s k).length=size-25)∧(k+1=fD size s.length->1<fD size s.length->kK (size-25) s k≠[])∧k*(size-25)+(kK (size-25) s k).length≤4096:=by
 have h64:=ok.1;have e:(kK (size-25) s k).length=min (size-25) (s.length-k*(size-25)):=by unfold kK;rw[mT,kD]
 have hm:(k+1)*(size-25)=k*(size-25)+(size-25):=Nat.succ_mul _ _;refine⟨by omega,λc=>?_,λc c1=>?_,?_⟩
 ·have:=aDs (k:=k) ok h (by omega);omega
 ·have:=(aD3 ok h c).2 (by omega);intro h0;rw[h0] at e;simp only[lU] at e;omega
 ·by_cases c:k+1=fD size s.length
  ·by_cases c1:1≤k
   ·have:=(aD3 ok h c).2 c1;omega
   ·obtain rfl:k=0:=by omega
    rw[Nat.zero_mul] at e ⊢;omega
  ·have:=aDs (k:=k) ok h (by omega);omega
def aPJ{size gen ser:Nat}{s:Tx}{k:Nat}(ok:iB size)(h:s.length≤4096)(g1:gen<18446744073709551616)(g2:ser<18446744073709551616)(hk:k<fD size s.length):
  hC size (pJ size gen ser k (fD size s.length) (kK (size-25) s k))=(⟨gen,ser,k,fD size s.length,kK (size-25) s k⟩,0):=by
 obtain⟨a,b,c,d⟩:=aHM ok h hk;have h106:=aI5 (n:=s.length) ok;refine aRz ok a g1 g2 hk (by omega) ⟨b,c⟩ ⟨?_,?_⟩
 ·have:=vZ (n:=k*(size-25)+(kK (size-25) s k).length) ok d;show fD size (k*(size-25)+(kK (size-25) s k).length)≠0;omega
 ·exact aSg ok h (nQ _)
def aUK(room:Nat)(s:Tx)(k:Nat):s.take (k*room)++kK room s k=s.take ((k+1)*room):=by
 unfold kK;rw[Nat.succ_mul,List.take_add]
def aTQ{size gen ser:Nat}{s:Tx}(ok:iB size)(h:s.length≤4096)(g1:gen<18446744073709551616)(g2:ser<18446744073709551616)(rest:List Tx):∀(j k p:Nat),k+(j+1)=fD size s.length->(k≠0->p=fD size s.length)->
  kI size gen ser ((List.range' k (j+1)).map (λk=>pJ size gen ser k (fD size s.length) (kK (size-25) s k))++rest) k p (s.take (k*(size-25)))=(s,fD size s.length)
 | j,k,p,hj,hp=>by
  have er:=aPJ (size:=size) (gen:=gen) (ser:=ser) (s:=s) (k:=k) ok h g1 g2 (by omega);have ep:(if k=0 then fD size s.length else p)=fD size s.length:=by
   split
   ·rfl
   ·rename_i c;exact hp c
  rw[List.range'_succ,jF,zLT];unfold kI;simp only[er,ep];rw[if_neg (by unfold aHG;simp),aUK];by_cases c:k+1=fD size s.length
  ·rw[if_pos c];have:=(aD3 ok h c).1;rw[sU (by omega)]
  ·rw[if_neg c];obtain⟨i,rfl⟩:∃i,j=i+1:=⟨j-1,by omega⟩;exact aTQ ok h g1 g2 rest i (k+1) _ (by omega) λ_=>rfl
def kQ(size gen ser:Nat)(s:Tx):(hY size gen ser s).length=fD size s.length:=by simp[hY]
def aRt{size gen ser:Nat}{s:Tx}(ok:iB size)(h:s.length≤4096)(g1:gen<18446744073709551616)(g2:ser<18446744073709551616)(rest:List Tx):kI size gen ser (hY size gen ser s++rest) 0 0 []=(s,fD size s.length):=by
 have h1:=vZ (n:=s.length) ok h;obtain⟨j,hj⟩:∃j,fD size s.length=j+1:=⟨fD size s.length-1,by omega⟩;have:=aTQ (s:=s) ok h g1 g2 rest j 0 0 (by omega) (λc=>absurd rfl c);rw[Nat.zero_mul,zLd,←hj] at this;unfold hY;rw[List.range_eq_range'];exact this
def Old(size g:Nat)(s:Tx):Prop:=(hC size s).2=0->(hC size s).1.gen<g
def Old.mono{size g g':Nat}{s:Tx}(h:Old size g s)(hg:g≤g'):Old size g' s:=λe=>by have:=h e;omega
def aWd{size gen ser:Nat}{rest:List Tx}(h:∀x,rest.head? =some x->Old size gen x):kI size gen ser rest 0 0 []=([],0):=by
 cases rest with
 | nil=>rfl
 | cons x xs=>
  unfold kI;rw[if_pos];by_cases c:(hC size x).2=0
  ·have:=h x rfl c;exact .inr (.inl (by omega))
  ·exact .inl c
def mB(size gen:Nat):Nat->List Tx->List Tx
 | _,[]=>[]
 | ser,s::l=>hY size gen ser s++mB size gen (ser+1) l
def aKk(size gen:Nat):∀(l:List Tx) (ser:Nat) (s:Tx),mB size gen ser (l++[s])=mB size gen ser l++hY size gen (ser+l.length) s
 | [],ser,s=>by simp[mB]
 | x::l,ser,s=>by
  show hY size gen ser x++mB size gen (ser+1) (l++[s])=(hY size gen ser x++mB size gen (ser+1) l)++_;rw[aKk size gen l (ser+1) s,xN,jY,show ser+1+l.length=ser+(l.length+1) by omega]
def aHi{size gen:Nat}(ok:iB size):∀(l:List Tx) (ser:Nat),(∀s∈l,s.length≤4096)->l.length≤(mB size gen ser l).length
 | [],ser,_=>mK _
 | x::l,ser,h=>by
  have:=aHi (gen:=gen) ok l (ser+1) λs hs=>h s (by simp[hs]);have h1:=vZ (n:=x.length) ok (h x (by simp));show(l.length+1)≤(hY size gen ser x++mB size gen (ser+1) l).length;rw[kO,kQ];omega
def aJb{size gen:Nat}(ok:iB size)(g1:gen<18446744073709551616){rest:List Tx}(hr:∀x,rest.head? =some x->Old size gen x):∀(l:List Tx) (f ser:Nat),(∀s∈l,s.length≤4096)->l.length<f->ser+l.length<18446744073709551616->
  lF size gen f (mB size gen ser l++rest) ser=(l,(mB size gen ser l).length)
 | [],f,ser,_,hf,_=>by
  obtain⟨f,rfl⟩:∃g,f=g+1:=⟨f-1,by simp only[lU] at hf;omega⟩;unfold lF;rw[if_pos (by show(kI size gen ser rest 0 0 []).2=0;rw[aWd hr])];rfl
 | s::l,f,ser,hl,hf,hs=>by
  simp only[jY] at hf hs;obtain⟨f,rfl⟩:∃g,f=g+1:=⟨f-1,by omega⟩;have h1:=hl s (by simp);have hp:=vZ (n:=s.length) ok h1;have er:kI size gen ser (mB size gen ser (s::l)++rest) 0 0 []=(s,fD size s.length):=by
   show kI size gen ser ((hY size gen ser s++mB size gen (ser+1) l)++rest) 0 0 []=_;rw[xN];exact aRt ok h1 g1 (by omega) _
  have ed:(mB size gen ser (s::l)++rest).drop (fD size s.length)=mB size gen (ser+1) l++rest:=by
   show((hY size gen ser s++mB size gen (ser+1) l)++rest).drop _=_;rw[xN,←kQ size gen ser s,List.drop_left]
  have ih:=aJb ok g1 hr l f (ser+1) (λx hx=>hl x (by simp[hx])) (by omega) (by omega);unfold lF;rw[er];simp only;rw[if_neg (by omega),ed,ih];simp only[mB,kO,kQ]
structure Log(d:Dk)(w:Wl)(l:List Tx):Prop where
 ok:d.Ok
 arm:d.arm=0
 buf:d.buf=[]
 four:4≤d.sectors
 g1:1≤w.hd.gen
 g2:w.hd.gen<18446744073709551615
 seg:w.hd.seg≤1
 slot:w.slot≤1
 head:d.at w.slot=(gY d.size w.hd).1
 other:(iF d.size (d.at (1-w.slot))).1.gen<w.hd.gen
 used:w.used=(mB d.size w.hd.gen 0 l).length
 fits:w.used≤d.segs
 ser:w.ser=l.length
 recs:d.secs (d.base w.hd.seg) w.used=mB d.size w.hd.gen 0 l
 short:∀s∈l,s.length≤4096
 rest:∀i,w.used≤i->i<d.segs->Old d.size w.hd.gen (d.at (d.base w.hd.seg+i))
 all:∀i,2≤i->i<d.sectors->Old d.size (w.hd.gen+1) (d.at i)
 broken:w.broken=false
def aRP(d:Dk)(h:4≤d.sectors){seg:Nat}(hs:seg≤1){i:Nat}(hi:i<d.segs):2≤d.base seg+i∧d.base seg+i<d.sectors:=by
 unfold Dk.base;unfold Dk.segs at hi ⊢;have:seg=0∨seg=1:=by omega
 rcases this with rfl|rfl<;>omega
def zH(d:Dk)(h:4≤d.sectors){seg:Nat}(hs:seg≤1):d.base seg+d.segs≤d.sectors:=by
 unfold Dk.base Dk.segs;have:seg=0∨seg=1:=by omega
 rcases this with rfl|rfl<;>omega
def aQK(d:Dk)(n a b:Nat):d.secs n (a+b)=d.secs n a++d.secs (n+a) b:=by
 unfold Dk.secs;rw[List.range_eq_range',List.range_eq_range',List.range_eq_range',←List.range'_append_1,xX,kB];congr 1;rw[List.range'_eq_map_range,zLZ,←List.range_eq_range'];apply zL0;intro i _;show d.at (n+(a+i))=d.at (n+a+i);rw[Nat.add_assoc]
def aSp{d:Dk}{w:Wl}{l:List Tx}(H:Log d w l):oS d.size (d.at 0) (d.at 1)=(w.hd,(w.slot:Int)):=by
 have hg:=aP4 H.ok.size (by have:=H.g1;omega) (by have:=H.g2;omega) H.seg;rw[←H.head] at hg;have ho:=H.other;have g1:=H.g1;have hne:w.hd≠Hd.zero:=λe=>by rw[e] at g1;exact absurd g1 (by decide)
 unfold oS;have hs:=H.slot;have:w.slot=0∨w.slot=1:=by omega
 rcases this with e|e
 ·rw[e] at hg ho ⊢;rw[hg];have:yR (Hd.zero,-1) 0 w.hd=(w.hd,0):=by
   unfold yR;rw[if_pos ⟨hne,by show 0<w.hd.gen;omega⟩]
  rw[this];unfold yR;rw[if_neg (λc=>by
   have h2:w.hd.gen<(iF d.size (d.at 1)).1.gen:=c.2;have h3:(iF d.size (d.at 1)).1.gen<w.hd.gen:=ho;omega)]
  rfl
 ·rw[e] at hg ho ⊢;rw[hg];have hlt:(yR (Hd.zero,-1) 0 (iF d.size (d.at (1-1))).1).1.gen<w.hd.gen:=by
   unfold yR;split
   ·exact ho
   ·show 0<w.hd.gen;omega
  exact if_pos ⟨hne,hlt⟩
def aUH{d:Dk}(ha:d.arm=0)(hb:d.buf=[]):d.fl=(d,0):=by
 unfold Dk.fl;rw[if_neg (by omega)];obtain⟨a,b,c,e,f⟩:=d;simp only at ha hb;subst ha hb;rfl
def aQI{d:Dk}{w:Wl}{l:List Tx}(H:Log d w l):gQ d=(d,(⟨w.hd,w.slot,w.used,w.ser,false,false⟩,l),0):=by
 have ef:=aUH H.arm H.buf;have en:=aSp H;unfold gQ;rw[ef];simp only;rw[if_neg (by have:=H.four;omega),if_neg (by simp),en];simp only;rw[if_neg (by omega),xZ];have e1:d.secs (d.base w.hd.seg) d.segs=mB d.size w.hd.gen 0 l++d.secs (d.base w.hd.seg+w.used) (d.segs-w.used):=by
  have hf:=H.fits;rw[show d.segs=w.used+(d.segs-w.used) by omega,aQK,H.recs];rw[show w.used+(d.segs-w.used)-w.used=d.segs-w.used by omega]
 have hl:=aHi (gen:=w.hd.gen) H.ok.size l 0 H.short;have es:=aJb (gen:=w.hd.gen) (rest:=d.secs (d.base w.hd.seg+w.used) (d.segs-w.used)) H.ok.size (by have:=H.g2;omega) (λx hx=>by
  by_cases c:w.used<d.segs
  ·have:=H.rest w.used (nQ _) c;have e2:d.secs (d.base w.hd.seg+w.used) (d.segs-w.used)=d.at (d.base w.hd.seg+w.used)::(d.secs (d.base w.hd.seg+w.used) (d.segs-w.used)).tail:=by
    obtain⟨n,hn⟩:∃n,d.segs-w.used=n+1:=⟨d.segs-w.used-1,by omega⟩;rw[hn];unfold Dk.secs;rw[List.range_succ_eq_map,jF,List.tail_cons,zLP]
   rw[e2] at hx;simp only[List.head?_cons,zL4] at hx;rw[←hx];exact this
  ·rw[show d.segs-w.used=0 by omega] at hx;simp[Dk.secs] at hx) l (d.segs+1) 0 H.short (by have:=H.used;have:=H.fits;omega) (by have:=H.used;have:=H.fits;have:=H.ok.many;unfold Dk.segs at *;omega)
 unfold aA7;rw[e1,es,←H.used,←H.ser]
def aJs{t:Tx}{n:Nat}(h:n≤t.length):nM (0,t) (n:Int)=(t.take n,((0:Int),t.drop n)):=by
 unfold nM;rw[if_pos ⟨rfl,by omega,by simp only;omega⟩];simp only[xZ]
def aNc{t:Tx}{n:Nat}(h:t.length<n):nM (0,t) (n:Int)=([],((6:Int),t)):=by
 unfold nM;rw[if_neg (by simp only;omega)];rfl
def qC{t:Tx}{c:Nat}(h:c≤t.length):gO (0,t) c=(mJ (t.take c),((0:Int),t.drop c)):=by
 unfold gO;rw[aJs h]
def aBl(s:Tx):Nat:=mJ ((s.drop 1).take 8)
def aBu(s:Tx):Nat:=mJ ((s.drop 9).take 8)
def kM(s:Tx):Nat:=mJ ((s.drop 17).take 1)
def jA(s:Tx):Nat:=mJ ((s.drop 18).take 1)
def lI(s:Tx):Nat:=mJ ((s.drop 19).take 2)
def nH(s:Tx):Tx:=(s.drop 21).take (lI s)
def rJ(s:Tx):lM:=⟨aBl s,aBu s,kM s,jA s,nH s⟩
structure aYH(size:Nat)(s:Tx):Prop where
 g:frG s=(aBl s,((0:Int),s.drop 9))
 n:frN s=(aBu s,((0:Int),s.drop 17))
 k:zD s=(kM s,((0:Int),s.drop 18))
 q:xQ s=(jA s,((0:Int),s.drop 19))
 l:nM (0,s) 1=(s.take 1,((0:Int),s.drop 1))
 t:zA s=if lI s≤size-25 then(nH s,((0:Int),s.drop (21+lI s))) else([],((6:Int),s.drop 21))
def aSV{size:Nat}{s:Tx}(ok:64≤size)(h:s.length=size-4):aYH size s:=by
 have l0:nM (0,s) 1=(s.take 1,((0:Int),s.drop 1)):=aJs (n:=1) (by omega);have g:frG s=(aBl s,((0:Int),s.drop 9)):=by
  unfold frG;rw[l0];simp only;rw[qC (by rw[kD];omega),rQ];rfl
 have n:frN s=(aBu s,((0:Int),s.drop 17)):=by
  unfold frN;rw[g];simp only;rw[qC (by rw[kD];omega),rQ];rfl
 have k:zD s=(kM s,((0:Int),s.drop 18)):=by
  unfold zD;rw[n];simp only;rw[qC (by rw[kD];omega),rQ];rfl
 have q:xQ s=(jA s,((0:Int),s.drop 19)):=by
  unfold xQ;rw[k];simp only;rw[qC (by rw[kD];omega),rQ];rfl
 refine⟨g,n,k,q,l0,?_⟩;unfold zA wR;rw[q];simp only;rw[qC (by rw[kD];omega),rQ];simp only;show nM (0,s.drop 21) (lI s:Nat)=_;split
 ·rw[aJs (by rw[kD];omega),rQ];rfl
 ·rw[aNc (by rw[kD];omega)]
def aGf(size:Nat)(f:lM):Prop:=(f.part+1<f.parts∧f.b.length≠size-25)∨(0<f.part∧f.b.length=0)
def aFW(size:Nat)(f:lM):Nat:=if f.part+1=f.parts then(f.parts-1)*(size-25)+f.b.length else(f.parts-1)*(size-25)+1
instance (n:Nat) (f:lM):Decidable (aGf n f):=by unfold aGf;infer_instance
def yI(size:Nat)(s:Tx):lM×Int:=
 if ¬iB size then(lM.zero,1) else if s.length≠size then(lM.zero,6) else if pH s=false then(lM.zero,8)
 else if size-25<lI s∨jA s≤kM s then(lM.zero,5)
 else if aGf size (rJ s) then(lM.zero,5)
 else if 4096<aFW size (rJ s)∨pJ size (aBl s) (aBu s) (kM s) (jA s) (nH s)≠s then(lM.zero,5)
 else(rJ s,0)
def aGR{t:Tx}{c:Nat}(h:c≤t.length):be (mJ (t.take c)) c=t.take c:=by
 have:=aX0 (t.take c);rw[mT,aGb h] at this;exact this
def pQ(s:Tx)(i c n:Nat)(h:i+c≤n):((s.take n).drop i).take c=(s.drop i).take c:=by
 rw[zLy,aJV,aGb (by omega)]
def aTk{s:Tx}{n:Nat}(h:21≤n)(hl:lI s+21≤n):rJ (s.take n)=rJ s∧lI (s.take n)=lI s:=by
 have e:lI (s.take n)=lI s:=by unfold lI;rw[pQ _ _ _ _ (by omega)]
 refine⟨?_,e⟩;unfold rJ nH;rw[e];unfold aBl aBu kM jA;rw[pQ _ _ _ _ (by omega),pQ _ _ _ _ (by omega),pQ _ _ _ _ (by omega),pQ _ _ _ _ (by omega),pQ _ _ _ _ (by omega)]
def aTm{s:Tx}{n:Nat}(h:21≤n):lI (s.take n)=lI s:=by unfold lI;rw[pQ _ _ _ _ (by omega)]
def aU3{size:Nat}{s:Tx}(ok:iB size)(h:s.length=size-4)(hl:lI s≤size-25):oL size (aBl s) (aBu s) (kM s) (jA s) (nH s)=s↔(s.take 1=[82]∧∀x∈s.drop (21+lI s),x=0):=by
 have h64:=ok.1;have tl:(nH s).length=lI s:=by unfold nH;rw[mT,kD];omega
 have b1:be (aBl s) 8=(s.drop 1).take 8:=aGR (by rw[kD];omega);have b2:be (aBu s) 8=(s.drop 9).take 8:=aGR (by rw[kD];omega);have b3:be (kM s) 1=(s.drop 17).take 1:=aGR (by rw[kD];omega);have b4:be (jA s) 1=(s.drop 18).take 1:=aGR (by rw[kD];omega);have b5:be (nH s).length 2=(s.drop 19).take 2:=by rw[tl];exact aGR (by rw[kD];omega)
 have sp:∀i c,s.drop i=(s.drop i).take c++s.drop (i+c):=λi c=>by rw[←rQ,zL6]
 have es:s=s.take 1++((s.drop 1).take 8++((s.drop 9).take 8++((s.drop 17).take 1++((s.drop 18).take 1++(((s.drop 19).take 2++nH s)++s.drop (21+lI s)))))):=by
  conv=>lhs;rw[←zL6 1 s,sp 1 8,sp 9 8,sp 17 1,sp 18 1,sp 19 2,sp 21 (lI s)]
  simp only[xN];rfl
 unfold oL;rw[b1,b2,b3,b4,b5];have hz:(s.drop (21+lI s)).length=size-25-(nH s).length:=by rw[kD,tl];omega
 constructor
 ·intro e
  conv at e=>rhs;rw[es]
  obtain⟨c1,e⟩:=List.append_inj e (by rw[mT];simp;omega);have e:=List.append_cancel_left e;have e:=List.append_cancel_left e;have e:=List.append_cancel_left e;have e:=List.append_cancel_left e;have e:=List.append_cancel_left e;refine⟨c1.symm,λx hx=>?_⟩;rw[←e] at hx;exact List.eq_of_mem_replicate hx
 ·rintro⟨c1,c2⟩;have e:mD (size-25-(nH s).length)=s.drop (21+lI s):=by
   unfold mD;rw[←hz];exact(List.eq_replicate_iff.2 ⟨rfl,c2⟩).symm
  conv=>rhs;rw[es]
  rw[c1,e]
def aPy{s b:Tx}{size:Nat}(h4:4≤size)(hs:pH s=true)(hl:s.length=size)(hb:b.length=size-4):oI b=s↔b=s.take (size-4):=by
 unfold pH at hs;rw[decide_eq_true_eq,hl] at hs;constructor
 ·intro e;rw[←e];exact(aNE (by omega)).symm
 ·intro e;subst e;unfold oI;rw[hs.2,zL6]
def aS8{size:Nat}{f:lM}(ok:iB size)(h1:f.part<f.parts)(h2:¬aGf size f)(hl:f.b.length≤size-25):aJC size f↔aFW size f≤4096:=by
 have h64:=ok.1;unfold aGf at h2;unfold aJC aFW;have key:∀n,fD size n≠0↔n≤4096:=λn=>by
  constructor
  ·intro h;unfold fD at h;split at h
   ·rename_i c;exact c.2
   ·exact absurd rfl h
  ·intro h;have:=vZ (n:=n) ok h;omega
 rw[key]
 -- how many parts there may be at most
 have pk:∀p,2≤p->(p≤fD size 4096↔(p-1)*(size-25)<4096):=λp hp=>by
  obtain⟨k,rfl⟩:∃k,p=k+1:=⟨p-1,by omega⟩;rw[Nat.add_sub_cancel];constructor
  ·intro h;by_cases c:k+1=fD size 4096
   ·exact(aD3 ok (nQ _) c).2 (by omega)
   ·have:=aDs (k:=k) ok (nQ 4096) (by omega);have hm:(k+1)*(size-25)=k*(size-25)+(size-25):=Nat.succ_mul _ _;omega
  ·intro h;by_cases c:k+1≤fD size 4096
   ·exact c
   ·exfalso;have hp1:=vZ (n:=4096) ok (nQ _);obtain⟨m,hm⟩:∃m,fD size 4096=m+1:=⟨fD size 4096-1,by omega⟩;have h3:=(aD3 ok (nQ 4096) hm.symm).1;have h4:(m+1)*(size-25)≤k*(size-25):=yE _ (by omega);omega
 by_cases c:f.part+1=f.parts
 ·rw[if_pos c,show f.part=f.parts-1 by omega];constructor
  ·exact λh=>h.1
  ·intro h;refine⟨h,?_⟩;by_cases c2:2≤f.parts
   ·rw[pk _ c2];omega
   ·have:=vZ (n:=4096) ok (nQ _);omega
 ·rw[if_neg c];have hb:f.b.length=size-25:=Classical.byContradiction λhx=>h2 (.inl ⟨by omega,hx⟩);rw[hb];have hm:(f.part+1)*(size-25)=f.part*(size-25)+(size-25):=Nat.succ_mul _ _;have hle:(f.part+1)*(size-25)≤(f.parts-1)*(size-25):=yE _ (by omega);rw[pk _ (by omega)];constructor
  ·intro h;omega
  ·intro h;omega
def aPU(size:Nat)(s:Tx):yI size s=hC size s:=by
 unfold yI hC;split
 ·rfl
 ·rename_i ok;have ok:iB size:=Classical.not_not.1 ok;have h64:=ok.1;split
  ·rfl
  ·rename_i hl;have hl:s.length=size:=Classical.not_not.1 hl;split
   ·rfl
   ·rename_i hs;have hs:pH s=true:=by simpa using hs
    obtain⟨s',hs'⟩:∃s',s.take (size-4)=s':=⟨_,rfl⟩;have hl':s'.length=size-4:=by rw[←hs',mT];omega
    have F:=aSV (size:=size) h64 hl';have eL:lI s'=lI s:=by rw[←hs'];exact aTm (by omega)
    rw[hs'];by_cases cl:lI s≤size-25
    ·have eF:rJ s'=rJ s:=by rw[←hs'];exact(aTk (by omega) (by omega)).1
     have eG:aBl s'=aBl s:=congrArg lM.gen eF;have eS:aBu s'=aBu s:=congrArg lM.ser eF;have eP:kM s'=kM s:=congrArg lM.part eF;have eQ:jA s'=jA s:=congrArg lM.parts eF;have eT:nH s'=nH s:=congrArg lM.b eF;have ft:=F.t;rw[if_pos (by omega)] at ft;have fz:frZ s'=(s'.drop (21+lI s'),((0:Int),[])):=by
      unfold frZ;rw[ft];show nM (0,s'.drop (21+lI s')) (aKE (0,s'.drop (21+lI s')):Nat)=_;have:aKE (0,s'.drop (21+lI s'))=(s'.drop (21+lI s')).length:=rfl;rw[this,aJs (nQ _),sU (nQ _),zO (nQ _)]
     have eOf:aB1 s'=rJ s:=by
      unfold aB1;rw[F.g,F.n,F.k,F.q,ft,←eF];rfl
     have tl:(rJ s).b.length=lI s:=by
      rw[←eF];show(nH s').length=lI s;unfold nH;rw[mT,kD];omega
     have o1:aIy s'↔(kM s<jA s∧oL size (aBl s) (aBu s) (kM s) (jA s) (nH s)=s'):=by
      unfold aIy;rw[fz,F.k,F.q,F.l,eP,eQ];have:=aU3 ok hl' (by omega);rw[eG,eS,eP,eQ,eT] at this;rw[this];constructor
      ·rintro⟨-,a,b,c⟩;exact⟨c,a,b⟩
      ·rintro⟨c,a,b⟩;exact⟨rfl,a,b,c⟩
     have hb:(oL size (aBl s) (aBu s) (kM s) (jA s) (nH s)).length=size-4:=aGz (by
      have:(nH s).length=lI s:=tl;omega)
     have o0:=aPy (by omega) hs hl hb;rw[hs'] at o0;rw[eOf];by_cases cp:kM s<jA s
     ·rw[if_neg (by omega)];have o2:aH2 size (rJ s)↔¬aGf size (rJ s):=by
       unfold aH2 aGf;show(kM s+1≠jA s->_)∧(kM s+1=jA s->1<jA s->_)↔¬((kM s+1<jA s∧_)∨(0<kM s∧_));rw[List.ne_nil_iff_length_pos];omega
      by_cases cb:aGf size (rJ s)
      ·rw[if_pos cb,if_neg (λc=>(o2.1 c.2.1) cb)]
      ·rw[if_neg cb];have o3:=aS8 (f:=rJ s) ok cp cb (by omega);by_cases cf:aFW size (rJ s)≤4096∧pJ size (aBl s) (aBu s) (kM s) (jA s) (nH s)=s
       ·rw[if_neg (by rintro(c|c);omega;exact c cf.2),if_pos ⟨o1.2 ⟨cp,o0.1 cf.2⟩,o2.2 cb,o3.2 cf.1⟩]
       ·rw[if_pos (Classical.byContradiction λc=>cf ⟨by omega,Classical.byContradiction λx=>c (.inr x)⟩),if_neg (λc=>cf ⟨o3.1 c.2.2,o0.2 (o1.1 c.1).2⟩)]
     ·rw[if_pos (.inr (by omega)),if_neg (λc=>cp (o1.1 c.1).1)]
    ·rw[if_pos (.inl (by omega)),if_neg (λc=>?_)];have ft:=F.t;rw[if_neg (by omega)] at ft;have:(frZ s').2.1=0:=c.1.1;unfold frZ at this;rw[ft] at this;have:=aGw (aKE (6,s'.drop 21):Nat) 6 (s'.drop 21) (by decide);simp only at this;rename_i h0;rw[this] at h0;cases h0
def aBK{size:Nat}:∀{st:List Tx} (_:∀s∈st,s.length=size),st.flatten.length=st.length*size
 | [],_=>by simp
 | x::st,h=>by
  rw[aEw,kO,aBK λs hs=>h s (by simp[hs]),h x (by simp),jY,Nat.succ_mul];omega
def aG8{size:Nat}:∀{st:List Tx} (_:∀s∈st,s.length=size) (n:Nat),st.flatten.drop (n*size)=(st.drop n).flatten
 | st,_,0=>by simp
 | [],_,n+1=>by simp
 | x::st,h,n+1=>by
  have hx:=h x (by simp);rw[aEw,Nat.succ_mul,Nat.add_comm,←rQ,←hx,List.drop_left,hx,aG8 (λs hs=>h s (by simp[hs])) n,zLa]
def aOn{size:Nat}:∀{st:List Tx} (_:∀s∈st,s.length=size) (n:Nat),st.flatten.take (n*size)=(st.take n).flatten
 | st,_,0=>by simp
 | [],_,n+1=>by simp
 | x::st,h,n+1=>by
  have hx:=h x (by simp);rw[aEw,zLc,aEw,List.take_append,sU (by rw[hx,Nat.succ_mul];omega),hx,Nat.succ_mul,Nat.add_sub_cancel,aOn (λs hs=>h s (by simp[hs])) n]
def aRd{size:Nat}{st:List Tx}(h:∀s∈st,s.length=size){n:Nat}(hn:n<st.length):(st.flatten.drop (n*size)).take size=st.getD n []:=by
 have e:st.drop n=st[n]::st.drop (n+1):=aBE hn;rw[aG8 h,e,aEw,aCz,lG hn];have:=h _ (aIQ hn);rw[←this,List.take_left];rfl
def aUZ{size:Nat}{st:List Tx}(h:∀s∈st,s.length=size){n:Nat}(hn:n<st.length){s:Tx}(hs:s.length≤size):st.flatten.take (n*size)++s++st.flatten.drop (n*size+s.length)=(st.set n (s++(st.getD n []).drop s.length)).flatten:=by
 have e:st.drop n=st[n]::st.drop (n+1):=aBE hn;have hl:=h _ (aIQ hn);rw[aOn h,←rQ,aG8 h,e,aEw,List.drop_append_of_le_length (by omega),List.set_eq_take_append_cons_drop,if_pos hn,zLG,aEw,aCz,lG hn];simp only[Option.getD_some,xN]
def aK3:∀(buf:List (Nat×Tx)) (st:List Tx) (n:Nat),(∀w∈buf,w.1≠n)->(mV st buf).getD n []=st.getD n []
 | [],st,n,_=>rfl
 | w::buf,st,n,h=>by
  show(mV (st.set w.1 w.2) buf).getD n []=_;rw[aK3 buf _ n λx hx=>h x (by simp[hx]),aCz,aCz,List.getElem?_set_ne (h w (by simp))]
def aRs(st:List Tx)(a b:List (Nat×Tx)):mV st (a++b)=mV (mV st a) b:=List.foldl_append
def aQh{st:List Tx}{buf:List (Nat×Tx)}{i n:Nat}{w:Nat×Tx}(hw:buf[i]? =some w)(hn:w.1=n)(hl:n<st.length)(h:∀x∈buf.drop (i+1),x.1≠n):(mV st buf).getD n []=w.2:=by
 have hi:=(zLA.1 hw).1;have e:buf=buf.take i++[w]++buf.drop (i+1):=by
  have e1:buf.take i++[w]=buf.take (i+1):=by rw[zLR,hw];rfl
  rw[e1,zL6]
 rw[e,aRs,aK3 _ _ _ h,aJU,aQJ (by rw[aA2,hn];exact hl),if_pos hn.symm]
def zT(size:Nat):List ((Nat×Tx)×(Bool×Int))->Bool->List Tx->List Tx
 | [],_,st=>st
 | x::r,torn,st=>
  if x.2.1=false then zT size r torn st
  else if 0<x.2.2∧x.2.2<size∧torn=false then zT size r true (st.set x.1.1 (x.1.2.take x.2.2.toNat++(st.getD x.1.1 []).drop x.2.2.toNat))
  else zT size r torn (st.set x.1.1 x.1.2)
def Dk.crash(d:Dk)(l:List (Bool×Int)):Dk:=⟨d.size,d.sectors,zT d.size (d.buf.zip l) false d.st,[],0⟩
def aKG{size:Nat}:∀(l:List ((Nat×Tx)×(Bool×Int))) (t:Bool) (st:List Tx),(zT size l t st).length=st.length
 | [],_,_=>rfl
 | x::r,t,st=>by
  unfold zT;split
  ·exact aKG r t st
  ·split
   ·rw[aKG r true,List.length_set]
   ·rw[aKG r t,List.length_set]
def aJP{size:Nat}:∀(l:List ((Nat×Tx)×(Bool×Int))) (t:Bool) (st:List Tx),(∀s∈st,s.length=size)->(∀x∈l,x.1.1<st.length∧x.1.2.length=size)->∀s∈zT size l t st,s.length=size
 | [],_,_,h,_=>h
 | x::r,t,st,h,hl=>by
  obtain⟨h1,h2⟩:=hl x (by simp);have hr:=λy hy=>hl y (aJ2 _ hy);have h3:(st.getD x.1.1 []).length=size:=by
   rw[aCz,lG h1];exact h _ (aIQ h1)
  unfold zT;split
  ·exact aJP r t st h hr
  ·split
   ·rename_i c;refine aJP r true _ (λs hs=>?_) (by rw[List.length_set];exact hr);rcases List.mem_or_eq_of_mem_set hs with e|e
    ·exact h s e
    ·rw[e,kO,mT,kD,h2,h3];omega
   ·refine aJP r t _ (λs hs=>?_) (by rw[List.length_set];exact hr);rcases List.mem_or_eq_of_mem_set hs with e|e
    ·exact h s e
    ·rw[e];exact h2
def Dk.Ok.crash{d:Dk}(H:d.Ok)(l:List (Bool×Int)):(d.crash l).Ok:=⟨by show(zT _ _ _ _).length=_;rw[aKG];exact H.len,H.size,H.one,H.many,aJP _ _ _ H.each λx hx=>by
 have:=H.buf x.1 (List.of_mem_zip hx).1;exact⟨by rw[H.len];exact this.1,this.2⟩,by simp[Dk.crash]⟩
structure WOk(d:Dk)(w:Wl):Prop where
 ok:d.Ok
 four:4≤d.sectors
 seg:w.hd.seg≤1
 slot:w.slot≤1
 used:w.used≤d.segs
def aYd(d:Dk):d.fl.2=0∨d.fl.2=13:=by
 unfold Dk.fl;split
 ·exact .inr rfl
 ·exact .inl rfl
def aYR{d:Dk}{n:Nat}{s:Tx}(hn:n<d.sectors)(hs:s.length=d.size):(d.wr (n:Int) s).2=0∨(d.wr (n:Int) s).2=13:=by
 unfold Dk.wr;rw[if_neg (by omega)];split
 ·exact .inr rfl
 ·exact .inl rfl
def aMu:∀(l:List Tx) {d:Dk} (n:Nat) (_:n+l.length≤d.sectors) (_:∀s∈l,s.length=d.size),(jZ d n l).2=0∨(jZ d n l).2=13
 | [],d,n,_,_=>aYd d
 | s::l,d,n,hn,hl=>by
  simp only[jY] at hn;have h1:=aYR (d:=d) (n:=n) (s:=s) (by omega) (hl s (by simp));have hg:=d.wr_geo (n:Int) s;unfold jZ;by_cases c:(d.wr (n:Int) s).2=0
  ·rw[if_neg (by simp[c])];exact aMu l (n+1) (by rw[hg.2];omega) (by rw[hg.1];exact λx hx=>hl x (by simp[hx]))
  ·rw[if_pos c];rcases h1 with h1|h1
   ·exact absurd h1 c
   ·exact .inr h1
def yQ{size n:Nat}(ok:iB size):fD size n=0↔4096<n:=by
 constructor
 ·intro h;by_cases c:n≤4096
  ·have:=vZ (n:=n) ok c;omega
  ·omega
 ·intro h;unfold fD;rw[if_neg (by omega)]
def aK2{size gen ser:Nat}{s:Tx}(ok:iB size)(h:s.length≤4096):∀x∈hY size gen ser s,x.length=size:=by
 intro x hx;unfold hY at hx;obtain⟨k,hk,rfl⟩:=rS.1 hx;exact aKV (aHM ok h (aHY.1 hk)).1
def WOk.ap{d:Dk}{w:Wl}(H:WOk d w){s:Tx}(hf:fits d w s.length=true):(vB d w s).2=0∨(vB d w s).2=13:=by
 unfold fits at hf;rw[decide_eq_true_eq] at hf;have hs:s.length≤4096:=by
  have:=(yQ (n:=s.length) H.ok.size).2;omega
 have:=zH d H.four H.seg;exact aMu _ _ (by rw[kQ];omega) (aK2 H.ok.size hs)
def WOk.ck{d:Dk}{seg gen:Nat}(ok:d.Ok)(four:4≤d.sectors)(hseg:seg≤1){s:Tx}(h0:fD d.size s.length≠0)(hp:fD d.size s.length≤d.segs):(nI d ⟨gen,seg⟩ s).2=0∨(nI d ⟨gen,seg⟩ s).2=13:=by
 have hs:s.length≤4096:=by
  have:=(yQ (n:=s.length) ok.size).2;omega
 have:=zH d four hseg;exact aMu _ _ (by rw[kQ];show d.base seg+_≤_;omega) (aK2 ok.size hs)
def aKM(h:Hd):(iQ h).1.seg≤1:=by
 unfold iQ;split
 ·exact mK _
 ·show(if h.seg=0 then 1 else 0)≤1;split<;>omega
def aSr{size:Nat}{h:Hd}(ok:iB size)(h0:(gY size h).2=0):(gY size h).1.length=size:=by
 unfold gY at h0 ⊢;split at h0
 ·cases h0
 ·rename_i c;rw[if_neg c];show(oI (oY size h)).length=size;rw[aFM];unfold oY;simp only[kO,iZ,xV,jY,lU];have:=ok.1;omega
def aOD{size:Nat}{h:Hd}(ok:iB size)(h0:(iQ h).2=0):(gY size (iQ h).1).2=0∧(gY size (iQ h).1).1.length=size:=by
 have e:(gY size (iQ h).1).2=0:=by
  have hs:=aKM h;have hg:(iQ h).1.gen≠0:=by
   unfold iQ at h0 ⊢;split at h0
   ·cases h0
   ·rename_i c;rw[if_neg c];show h.gen+1≠0;omega
  unfold gY;rw[if_neg (by rintro(a|a|a);exact a ok;exact hg a;omega)]
 exact⟨e,aSr ok e⟩
def aNV{size gen ser:Nat}:∀(xs:List Tx) (k p:Nat) (t:Tx),(kI size gen ser xs k p t).2≤k+xs.length
 | [],_,_,_=>mK _
 | x::xs,k,p,t=>by
  unfold kI;have ih:=λq=>aNV (size:=size) (gen:=gen) (ser:=ser) xs (k+1) q (t++(hC size x).1.b);generalize (if k=0 then(hC size x).1.parts else p)=q at *;split
  ·exact mK _
  ·split
   ·rename_i h;simp only[jY];omega
   ·have:=ih q;simp only[jY];omega
def aJx{size gen:Nat}:∀(f:Nat) (xs:List Tx) (ser:Nat),(lF size gen f xs ser).2≤xs.length
 | 0,_,_=>mK _
 | f+1,xs,ser=>by
  unfold lF;split
  ·exact mK _
  ·have h1:=aNV (size:=size) (gen:=gen) (ser:=ser) xs 0 0 [];have h2:=aJx (size:=size) (gen:=gen) f (xs.drop (kI size gen ser xs 0 0 []).2) (ser+1);rw[kD] at h2;simp only;omega
def aI6{size gen:Nat}:∀(f:Nat) (xs:List Tx) (ser:Nat),(lF size gen f xs ser).1.length≤(lF size gen f xs ser).2
 | 0,_,_=>mK _
 | f+1,xs,ser=>by
  unfold lF;split
  ·exact mK _
  ·have h2:=aI6 (size:=size) (gen:=gen) f (xs.drop (kI size gen ser xs 0 0 []).2) (ser+1);simp only[jY];omega
def aQ1{size:Nat}{s:Tx}:(iF size s).1.seg≤1:=by
 unfold iF;split
 ·exact mK _
 ·split
  ·exact mK _
  ·split
   ·exact mK _
   ·split
    ·rename_i d;have h2:=d.1;unfold gY at h2;split at h2
     ·cases h2
     ·rename_i e;show(wD s).seg≤1;omega
    ·exact mK _
def aP5{b:Hd×Int}{k:Int}{h:Hd}(hb:b.1.seg≤1)(hh:h.seg≤1):(yR b k h).1.seg≤1∧((yR b k h).2=k∨(yR b k h).2=b.2):=by
 unfold yR;split
 ·exact⟨hh,.inl rfl⟩
 ·exact⟨hb,.inr rfl⟩
def aJE(size:Nat)(x y:Tx):(oS size x y).1.seg≤1∧((oS size x y).2= -1∨(oS size x y).2=0∨(oS size x y).2=1):=by
 have h1:=aP5 (b:=(Hd.zero,-1)) (k:=0) (h:=(iF size x).1) (mK _) aQ1;have h2:=aP5 (k:=1) (h:=(iF size y).1) h1.1 aQ1;unfold oS;refine⟨h2.1,?_⟩;rcases h2.2 with e|e
 ·exact .inr (.inr e)
 ·rcases h1.2 with e'|e'
  ·exact .inr (.inl (e.trans e'))
  ·exact .inl (e.trans e')
def WOk.mk'{d:Dk}(ok:d.Ok)(four:4≤d.sectors){hd:Hd}(hs:hd.seg≤1){slot:Nat}(h1:slot≤1):WOk d (aA7 d hd slot).1:=
 ⟨ok,four,hs,h1,by
  have:=aJx (size:=d.size) (gen:=hd.gen) (d.segs+1) (d.secs (d.base hd.seg) d.segs) 0;rw[Dk.secs_len] at this;exact this⟩
def aNJ{d:Dk}(H:d.Ok):(gQ d).1.Ok∧(gQ d).1.size=d.size∧(gQ d).1.sectors=d.sectors∧((gQ d).2.2=0->WOk (gQ d).1 (gQ d).2.1.1):=by
 unfold gQ;split
 ·exact⟨H,rfl,rfl,λh=>by cases h⟩
 ·rename_i h4;split
  ·rename_i h0;exact⟨H.fl,d.fl_geo.1,d.fl_geo.2,λh=>absurd h h0⟩
  ·split
   ·obtain⟨a,b,c,-⟩:=qV [(gY d.size ⟨1,0⟩).1] H.fl 1;split
    ·rename_i h0;exact⟨a,b.trans d.fl_geo.1,c.trans d.fl_geo.2,λh=>absurd h h0⟩
    ·refine⟨a,b.trans d.fl_geo.1,c.trans d.fl_geo.2,λ_=>WOk.mk' a (by rw[c,d.fl_geo.2];omega) (mK _) (nQ _)⟩
   ·rename_i hn;have hk:=aJE d.size (d.fl.1.at 0) (d.fl.1.at 1);exact⟨H.fl,d.fl_geo.1,d.fl_geo.2,λ_=>WOk.mk' H.fl (by rw[d.fl_geo.2];omega) hk.1 (by omega)⟩
def aOr{d d':Dk}{n:Nat}{l:List Tx}(L:aSG d d' n l):d'.secs n l.length=l:=by
 unfold Dk.secs;apply aMR;intro i;rw[xB];by_cases c:i<l.length
 ·rw[List.getElem?_range c,aLC,L.here,if_pos (by omega),aCw,aCz,lG c];rfl
 ·rw[List.getElem?_eq_none (by simp;omega),List.getElem?_eq_none (by omega)];rfl
def aPF{d d':Dk}{n:Nat}{l:List Tx}(L:aSG d d' n l){m k:Nat}(h:m+k≤n∨n+l.length≤m):d'.secs m k=d.secs m k:=by
 unfold Dk.secs;apply zL0;intro i hi;have:=aHY.1 hi;rw[L.here,if_neg (by omega)]
def aOS{size:Nat}{h:Hd}(ok:iB size)(g:h.gen≠0)(g2:h.seg≤1):(gY size h).1.length=size∧(gY size h).2=0:=by
 have e:gY size h=(oI (oY size h),0):=by unfold gY;rw[if_neg (by rintro(c|c|c);exact c ok;exact g c;omega)]
 rw[e];refine⟨?_,rfl⟩;show(oI (oY size h)).length=size;rw[aFM];unfold oY;simp only[kO,iZ,xV,jY,lU];have:=ok.1;omega
def aST{size gen ser:Nat}{s:Tx}{k:Nat}(hk:k<fD size s.length):(hY size gen ser s).getD k []=pJ size gen ser k (fD size s.length) (kK (size-25) s k):=by
 unfold hY;rw[aCz,xB,List.getElem?_range hk];rfl
def aMx{size gen ser:Nat}{s:Tx}{k:Nat}(ok:iB size)(h:s.length≤4096)(g1:gen<18446744073709551616)(g2:ser<18446744073709551616)(hk:k<fD size s.length):Old size (gen+1) ((hY size gen ser s).getD k []):=by
 rw[aST hk];intro _;rw[aPJ ok h g1 g2 hk];show gen<gen+1;omega
def aL0{size gen ser:Nat}{s:Tx}(ok:iB size)(h:s.length≤4096):∀x∈hY size gen ser s,x.length=size:=by
 intro x hx;unfold hY at hx;obtain⟨k,hk,rfl⟩:=rS.1 hx;exact aKV (aHM ok h (aHY.1 hk)).1
def aWE{h:Hd}(g:h.gen<18446744073709551615):iQ h=(⟨h.gen+1,if h.seg=0 then 1 else 0⟩,0):=by unfold iQ;rw[if_neg (by omega)]
def aO1{d:Dk}{w:Wl}{l:List Tx}(H:Log d w l){s:Tx}(hs:s.length≤4096)(hp:fD d.size s.length≤d.segs)(hg:w.hd.gen<18446744073709551614):
  ∃d' w',iE d w s=(d',w',0)∧Log d' w' [s]∧w'.ready=true∧w'.hd.gen=w.hd.gen+1∧d'.size=d.size∧d'.sectors=d.sectors:=by
 have ok:=H.ok.size;have h1:=vZ (n:=s.length) ok hs;have en:=aWE (h:=w.hd) (by omega);have hseg:(if w.hd.seg=0 then 1 else 0)≤1:=by split<;>omega
 generalize hsg:(if w.hd.seg=0 then 1 else 0)=sg at *;have hl4:=H.four;have hbf:=zH d hl4 hseg;have hsl:=H.slot;have hb2:2≤d.base sg:=by unfold Dk.base;omega
 obtain⟨A0,A⟩:=aG4 (hY d.size (w.hd.gen+1) 0 s) H.ok H.arm (d.base sg) (by rw[kQ];omega) (aL0 ok hs);obtain⟨hl1,hl2⟩:=aOS (size:=d.size) (h:=⟨w.hd.gen+1,sg⟩) ok (by simp) hseg;obtain⟨B0,B⟩:=aG4 [(gY d.size ⟨w.hd.gen+1,sg⟩).1] A.ok A.arm (1-w.slot) (by rw[A.sectors];simp only[jY,lU];omega) (by simp[hl1,A.size]);have ew:iE d w s=((jZ (jZ d (d.base sg) (hY d.size (w.hd.gen+1) 0 s)).1 (1-w.slot) [(gY d.size ⟨w.hd.gen+1,sg⟩).1]).1,⟨⟨w.hd.gen+1,sg⟩,1-w.slot,fD d.size s.length,1,true,false⟩,0):=by
  unfold iE nI;rw[if_neg (by rw[H.broken];simp),if_neg (by omega),if_neg (by omega),en];simp only;rw[if_neg (by simp),if_neg (by rw[A0];simp),if_neg (by rw[B0];simp)]
 generalize (jZ d (d.base sg) (hY d.size (w.hd.gen+1) 0 s)).1=d1 at *;generalize (jZ d1 (1-w.slot) [(gY d.size ⟨w.hd.gen+1,sg⟩).1]).1=d2 at *;have esz:d2.size=d.size:=B.size.trans A.size;have esc:d2.sectors=d.sectors:=B.sectors.trans A.sectors;have esg:d2.segs=d.segs:=by unfold Dk.segs;rw[esc]
 have eba:∀n,d2.base n=d.base n:=λn=>by unfold Dk.base;rw[esg]
 have hat:∀i,2≤i->d2.at i=d1.at i:=λi hi=>by rw[B.here,if_neg (by simp only[jY,lU];omega)]
 refine⟨d2,_,ew,⟨B.ok,B.arm,B.buf,by omega,by show 1≤w.hd.gen+1;omega,by show w.hd.gen+1<_;omega,hseg,by show 1-w.slot≤1;omega,?_,?_,?_,?_,rfl,?_,?_,?_,?_,rfl⟩,rfl,rfl,esz,esc⟩
 ·show d2.at (1-w.slot)=_;rw[B.here,if_pos (by simp only[jY,lU];omega),aJS,esz];rfl
 ·show(iF d2.size (d2.at (1-(1-w.slot)))).1.gen<w.hd.gen+1;rw[show 1-(1-w.slot)=w.slot by omega,B.here,if_neg (by simp only[jY,lU];omega),A.here,if_neg (by omega),H.head,esz,aP4 ok (by have:=H.g1;omega) (by omega) H.seg];show w.hd.gen<w.hd.gen+1;omega
 ·show fD d.size s.length=(hY d2.size (w.hd.gen+1) 0 s++[]).length;rw[zLQ,kQ,esz]
 ·show fD d.size s.length≤d2.segs;rw[esg];exact hp
 ·show d2.secs (d2.base sg) (fD d.size s.length)=hY d2.size (w.hd.gen+1) 0 s++[];rw[zLQ,eba,esz];have e1:d2.secs (d.base sg) (fD d.size s.length)=d1.secs (d.base sg) (fD d.size s.length):=aPF B (.inr (by simp only[jY,lU];omega));have e2:=aOr A;rw[kQ] at e2;rw[e1,e2]
 ·intro x hx;simp only[jI] at hx;rw[hx];exact hs
 ·intro i hi1 hi2;have hi1:fD d.size s.length≤i:=hi1;rw[esg] at hi2;show Old d2.size (w.hd.gen+1) (d2.at (d2.base sg+i));rw[eba,esz,hat _ (by omega),A.here,if_neg (by rw[kQ];omega)];exact H.all _ (by omega) (by omega)
 ·intro i hi1 hi2;show Old d2.size (w.hd.gen+1+1) (d2.at i);rw[esz,hat _ hi1,A.here];split
  ·rename_i c;rw[kQ] at c;exact aMx ok hs (by omega) (by omega) (by omega)
  ·exact(H.all i hi1 (by omega)).mono (by omega)
def aNP{d:Dk}{w:Wl}{l:List Tx}(H:Log d w l)(hr:w.ready=true){s:Tx}(hs:s.length≤4096)(hf:fits d w s.length=true):
  ∃d' w',jM d w s=(d',w',0)∧Log d' w' (l++[s])∧w'.ready=true∧w'.hd.gen=w.hd.gen∧d'.size=d.size∧d'.sectors=d.sectors:=by
 have ok:=H.ok.size;have hf':=hf;unfold fits at hf;rw[decide_eq_true_eq] at hf;obtain⟨hf1,hf2⟩:=hf;have hl4:=H.four;have hbf:=zH d hl4 H.seg;have hb2:2≤d.base w.hd.seg:=by unfold Dk.base;omega
 have hsl:=H.slot;have hg2:=H.g2;have hser:w.ser<18446744073709551616:=by
  have h1:=aHi (gen:=w.hd.gen) ok l 0 H.short;have h2:=H.used;have h3:=H.ok.many;have h4:=H.ser;unfold Dk.segs at hf2;omega
 obtain⟨A0,A⟩:=aG4 (hY d.size w.hd.gen w.ser s) H.ok H.arm (d.base w.hd.seg+w.used) (by rw[kQ];omega) (aL0 ok hs);have ew:jM d w s=((jZ d (d.base w.hd.seg+w.used) (hY d.size w.hd.gen w.ser s)).1,⟨w.hd,w.slot,w.used+fD d.size s.length,w.ser+1,w.ready,false⟩,0):=by
  unfold jM vB;rw[if_neg (by rw[H.broken];simp),if_neg (by rw[hr];simp),if_neg hf1,if_neg (by rw[hf'];simp),if_neg (by rw[A0];simp)]
 generalize (jZ d (d.base w.hd.seg+w.used) (hY d.size w.hd.gen w.ser s)).1=d1 at *;have esg:d1.segs=d.segs:=by unfold Dk.segs;rw[A.sectors]
 have eba:∀n,d1.base n=d.base n:=λn=>by unfold Dk.base;rw[esg]
 have efa:mB d1.size w.hd.gen 0 (l++[s])=mB d.size w.hd.gen 0 l++hY d.size w.hd.gen w.ser s:=by rw[aKk,kB,←H.ser,A.size]
 refine⟨d1,_,ew,⟨A.ok,A.arm,A.buf,by rw[A.sectors];exact hl4,H.g1,H.g2,H.seg,H.slot,?_,?_,?_,?_,?_,?_,?_,?_,?_,rfl⟩,hr,rfl,A.size,A.sectors⟩
 ·show d1.at w.slot=_;rw[A.here,if_neg (by omega),H.head,A.size]
 ·show(iF d1.size (d1.at (1-w.slot))).1.gen<w.hd.gen;rw[A.here,if_neg (by omega),A.size];exact H.other
 ·show w.used+fD d.size s.length=(mB d1.size w.hd.gen 0 (l++[s])).length;rw[efa,kO,kQ,←H.used]
 ·show w.used+fD d.size s.length≤d1.segs;rw[esg];omega
 ·show w.ser+1=(l++[s]).length;rw[kO,←H.ser];rfl
 ·show d1.secs (d1.base w.hd.seg) (w.used+fD d.size s.length)=mB d1.size w.hd.gen 0 (l++[s]);have e2:=aOr A;rw[kQ] at e2;rw[efa,eba,aQK,e2,aPF A (.inl (nQ _)),H.recs]
 ·intro x hx;rcases wQ.1 hx with hx|hx
  ·exact H.short x hx
  ·simp only[jI] at hx;rw[hx];exact hs
 ·intro i hi1 hi2;have hi1:w.used+fD d.size s.length≤i:=hi1;rw[esg] at hi2;show Old d1.size w.hd.gen (d1.at (d1.base w.hd.seg+i));rw[eba,A.size,A.here,if_neg (by rw[kQ];omega)];exact H.rest i (by omega) hi2
 ·intro i hi1 hi2;rw[A.sectors] at hi2;show Old d1.size (w.hd.gen+1) (d1.at i);rw[A.size,A.here];split
  ·rename_i c;rw[kQ] at c;exact aMx ok hs (by omega) hser (by omega)
  ·exact H.all i hi1 hi2
structure aRo(d:Dk):Prop where
 ok:d.Ok
 arm:d.arm=0
 buf:d.buf=[]
 z:∀i,i<d.sectors->d.at i=mD d.size
def aOW{n:Nat}(h:64≤n):(mD n).head? =some 0:=by
 obtain⟨m,rfl⟩:∃m,n=m+1:=⟨n-1,by omega⟩;rfl
def aVY{n g:Nat}(h:64≤n):Old n g (mD n):=λe=>by
 have:=(aQd e).1;rw[aOW h] at this;cases this
def aQF{n:Nat}(h:64≤n):(iF n (mD n)).1=Hd.zero:=aQQ λe=>by
 have:=aSS e;rw[aOW h] at this;cases this
def aR9{d:Dk}(H:aRo d)(h4:4≤d.sectors):∃d' w',gQ d=(d',(w',[]),0)∧Log d' w' []∧w'.hd.gen=1∧d'.size=d.size∧d'.sectors=d.sectors:=by
 have ok:=H.ok.size;have ef:=aUH H.arm H.buf;have en:oS d.size (d.at 0) (d.at 1)=(Hd.zero,-1):=by
  rw[H.z 0 (by omega),H.z 1 (by omega)];unfold oS;rw[aQF ok.1];unfold yR;rw[if_neg (by simp),if_neg (by simp)]
 obtain⟨hl1,hl2⟩:=aOS (size:=d.size) (h:=⟨1,0⟩) ok (by simp) (by simp);obtain⟨B0,B⟩:=aG4 [(gY d.size ⟨1,0⟩).1] H.ok H.arm 1 (by simp only[jY,lU];omega) (by simp[hl1]);have ew:gQ d=((jZ d 1 [(gY d.size ⟨1,0⟩).1]).1,aA7 (jZ d 1 [(gY d.size ⟨1,0⟩).1]).1 ⟨1,0⟩ 1,0):=by
  unfold gQ;rw[ef];simp only;rw[if_neg (by omega),if_neg (by simp),en];simp only;rw[if_pos (by decide),if_neg (by rw[B0];simp)]
 generalize (jZ d 1 [(gY d.size ⟨1,0⟩).1]).1=d1 at *;have esg:d1.segs=d.segs:=by unfold Dk.segs;rw[B.sectors]
 have eba:∀n,d1.base n=d.base n:=λn=>by unfold Dk.base;rw[esg]
 have hz:∀i,2≤i->i<d.sectors->d1.at i=mD d.size:=λi h1 h2=>by
  rw[B.here,if_neg (by simp only[jY,lU];omega),H.z i h2]
 have hold:∀i g,2≤i->i<d.sectors->Old d1.size g (d1.at i):=λi g h1 h2=>by
  rw[hz i h1 h2,B.size];exact aVY ok.1
 have es:=aJb (gen:=1) (rest:=d1.secs (d1.base 0) d1.segs) (size:=d1.size) (by rw[B.size];exact ok) (by decide) (λx hx=>by
  have hm:=List.mem_of_mem_head? hx;unfold Dk.secs at hm;obtain⟨i,hi,rfl⟩:=rS.1 hm;have hi:=aHY.1 hi;rw[esg] at hi;have:=aRP d h4 (seg:=0) (by omega) hi;rw[eba];exact hold _ _ this.1 this.2) [] (d1.segs+1) 0 (by simp) (by simp) (by simp)
 have em:aA7 d1 ⟨1,0⟩ 1=(⟨⟨1,0⟩,1,0,0,false,false⟩,[]):=by
  have es':lF d1.size 1 (d1.segs+1) (d1.secs (d1.base 0) d1.segs) 0=([],0):=es;unfold aA7;rw[es'];rfl
 rw[em] at ew;refine⟨d1,_,ew,⟨B.ok,B.arm,B.buf,by rw[B.sectors];exact h4,by decide,by decide,by decide,by decide,?_,?_,rfl,mK _,rfl,rfl,by simp,?_,?_,rfl⟩,rfl,B.size,B.sectors⟩
 ·show d1.at 1=_;rw[B.here,if_pos (by simp),B.size];rfl
 ·show(iF d1.size (d1.at 0)).1.gen<1;rw[B.here,if_neg (by simp),B.size,H.z 0 (by omega),aQF ok.1];decide
 ·intro i _ hi;rw[esg] at hi;have:=aRP d h4 (seg:=0) (by omega) hi;show Old d1.size 1 (d1.at (d1.base 0+i));rw[eba];exact hold _ _ this.1 this.2
 ·intro i h1 h2;rw[B.sectors] at h2;exact hold _ _ h1 h2
def rZ(s:Tx):Hd:=⟨mJ ((s.drop 1).take 8),mJ ((s.drop 9).take 1)⟩
def aGx(size:Nat)(s:Tx):Prop:=s.take 1=[72]∧(rZ s).gen≠0∧(rZ s).seg<2∧∀x∈(s.take (size-4)).drop 10,x=0
instance (n:Nat) (s:Tx):Decidable (aGx n s):=by unfold aGx;infer_instance
def aIS(size:Nat)(s:Tx):Hd×Int:=
 if ¬iB size then(Hd.zero,1) else if s.length≠size then(Hd.zero,6) else if pH s=false then(Hd.zero,8)
 else if aGx size s then(rZ s,0) else(Hd.zero,5)
def aWS{s:Tx}(h:10≤s.length):wD s=rZ s:=by
 unfold wD rZ;rw[qC (by rw[kD];omega)];simp only;rw[qC (by rw[kD,kD];omega),rQ]
def aWM(size:Nat)(s:Tx):aIS size s=iF size s:=by
 unfold aIS iF;split
 ·rfl
 ·rename_i ok;have ok:iB size:=Classical.not_not.1 ok;have h64:=ok.1;split
  ·rfl
  ·rename_i hl;have hl:s.length=size:=Classical.not_not.1 hl;split
   ·rfl
   ·rename_i hs;have hs:pH s=true:=by simpa using hs
    rw[aWS (by omega)];have hb:(oY size (rZ s)).length=size-4:=by
     unfold oY;simp only[kO,iZ,xV,jY,lU];omega
    have o0:=aPy (by omega) hs hl hb;have b1:be (rZ s).gen 8=(s.drop 1).take 8:=aGR (by rw[kD];omega);have b2:be (rZ s).seg 1=(s.drop 9).take 1:=aGR (by rw[kD];omega);have o1:oY size (rZ s)=s.take (size-4)↔s.take 1=[72]∧∀x∈(s.take (size-4)).drop 10,x=0:=by
     unfold oY;rw[b1,b2];have es:s.take (size-4)=s.take 1++((s.drop 1).take 8++((s.drop 9).take 1++(s.take (size-4)).drop 10)):=by
      have sp:∀i c,(s.take (size-4)).drop i=((s.take (size-4)).drop i).take c++(s.take (size-4)).drop (i+c):=λi c=>by rw[←rQ,zL6]
      have e0:(s.take (size-4)).drop 0=s.take (size-4):=rfl
      conv=>lhs;rw[←e0,sp 0 1,sp 1 8,sp 9 1]
      rw[pQ _ _ _ _ (by omega),pQ _ _ _ _ (by omega),pQ _ _ _ _ (by omega)];rfl
     have hz:((s.take (size-4)).drop 10).length=size-14:=by rw[kD,mT];omega
     constructor
     ·intro e;rw[es] at e;obtain⟨c1,e⟩:=List.append_inj e (by rw[mT];simp;omega);have e:=List.append_cancel_left e;have e:=List.append_cancel_left e;refine⟨c1.symm,λx hx=>?_⟩;rw[←e] at hx;exact List.eq_of_mem_replicate hx
     ·rintro⟨c1,c2⟩;have e:mD (size-14)=(s.take (size-4)).drop 10:=by
       unfold mD;rw[←hz];exact(List.eq_replicate_iff.2 ⟨rfl,c2⟩).symm
      rw[es,c1,←e]
    by_cases c:(rZ s).gen≠0∧(rZ s).seg<2
    ·have eh:gY size (rZ s)=(oI (oY size (rZ s)),0):=by unfold gY;rw[if_neg (by rintro(a|a|a);exact a ok;exact c.1 a;omega)]
     rw[eh];simp only[true_and];by_cases d:oI (oY size (rZ s))=s
     ·have:=o1.1 (o0.1 d);rw[if_pos d,if_pos (show aGx size s from⟨this.1,c.1,c.2,this.2⟩)]
     ·rw[if_neg d,if_neg (λx:aGx size s=>d (o0.2 (o1.2 ⟨x.1,x.2.2.2⟩)))]
    ·have eh:gY size (rZ s)=([],1):=by unfold gY;rw[if_pos (by by_cases a:(rZ s).gen=0;exact .inr (.inl a);exact .inr (.inr (by omega)))]
     rw[eh,if_neg (λx:aGx size s=>c ⟨x.2.1,x.2.2.1⟩),if_neg (by simp)]
def aAn(b:Hd×Int)(k:Int)(h:Hd×Int):Hd×Int:=if h.2=0∧(b.2<0∨b.1.gen<h.1.gen) then(h.1,k) else b
def aWF{size:Nat}{s:Tx}(h:(iF size s).2=0):(iF size s).1.gen≠0:=by
 unfold iF at h ⊢;split at h
 ·cases h
 ·rename_i a;split at h
  ·cases h
  ·rename_i b;split at h
   ·cases h
   ·rename_i c;split at h
    ·rename_i d;rw[if_neg a,if_neg b,if_neg c,if_pos d];have h2:=d.1;unfold gY at h2;split at h2
     ·cases h2
     ·rename_i e;exact λx=>e (.inr (.inl x))
    ·cases h
def aRr(size:Nat)(x y:Tx):aAn (aAn (Hd.zero,-1) 0 (iF size x)) 1 (iF size y)=oS size x y:=by
 have key:∀(b:Hd×Int) (k:Int) (s:Tx),(b.2<0->b.1.gen=0)->aAn b k (iF size s)=yR b k (iF size s).1:=λb k s hb=>by
  unfold aAn yR;by_cases c:(iF size s).2=0
  ·have hg:=aWF c;have hne:(iF size s).1≠Hd.zero:=λe=>hg (by rw[e];rfl);by_cases d:b.1.gen<(iF size s).1.gen
   ·rw[if_pos ⟨c,.inr d⟩,if_pos ⟨hne,d⟩]
   ·rw[if_neg (λx=>?_),if_neg (λx=>d x.2)];rcases x.2 with e|e
    ·have:=hb e;omega
    ·exact d e
  ·have hz:=aQQ c;rw[if_neg (λx=>c x.1),if_neg (λx=>x.1 hz)]
 unfold oS;rw[key (Hd.zero,-1) 0 x (λ_=>rfl),key];intro h;unfold yR at h ⊢;split at h
 ·exact absurd h (by simp)
 ·rename_i c;rw[if_neg c];rfl
def aB9{h:PH}{l:List UInt8}(hl:l.length≤8){k:dI}(hk:k (.int .u64 (mJ l)) h):bR PG lO #[.string (tx l)] h k:=by
 apply aAx.call;unfold aAx;refine⟨λvs h'=>∃i:Nat,i≤l.length∧vs=[.string (tx l),.int .u64 (mJ (l.take i)),.int .i64 i]∧h'=h,gT l.length 2,⟨0,by omega,rfl,rfl⟩,?_⟩;rintro ρ h' ⟨i,hi,hvs,rfl⟩;simp only[jF,kF,lT,and_true] at hvs;obtain⟨s0,s1,s3⟩:=hvs;rw[s0,s1,s3];unfold aE6;by_cases hlt:i<l.length
 ·have hd:((i:Int)<(l.length:Int))=True:=by apply eq_true;omega
  obtain⟨b,hb⟩:∃b,l[i]? =some b:=⟨_,lG hlt⟩;have hsm:=aOt hlt hl;have hb8:=b.toNat_lt;have ei:=oM (i:=i) (by omega);have e2:IntKind.u64.wrap ((mJ (l.take i):Int)*256)=((mJ (l.take i)*256:Nat):Int):=by rw[lJ (by omega) (by omega)];omega
  have e3:IntKind.u64.wrap (b.toNat:Int)=(b.toNat:Int):=lJ (by omega) (by omega);have e4:IntKind.u64.wrap (((mJ (l.take i)*256:Nat):Int)+(b.toNat:Int))=((mJ (l.take (i+1)):Nat):Int):=by rw[aPY hb,lJ (by omega) (by omega)];omega
  simp only[aT.len,mF,hd,e2,oZ aT.und hb,aRF,e3,e4,ei,dF,reduceIte];exact⟨⟨i+1,by omega,rfl,by trivial⟩,by simp[gT,s3];omega⟩
 ·have hd:((i:Int)<(l.length:Int))=False:=by apply eq_false;omega
  rw[sU (by omega)];simp only[aT.len,mF,hd,dF,reduceIte];exact hk
def aFI(x:Int):dE PG (convert aR dN (.int .i64 x))=some (.int .u64 (IntKind.u64.wrap x)):=by kernel_rfl
def aMt{h:PH}{p:Pk}(w:p.wf)(hr:p.right=true){k:dI}(hk:∀h',eM h h'->k (.string (tx p.bs)) h'):bR PG xC #[.agg p.cells.toArray] h k:=by
 obtain⟨r1,r2,-,-,r5⟩:=Pk.right_iff.1 hr;obtain⟨w1,w2,w3,w4⟩:=w;have ed:=aR1 p;have el:=aIp p;obtain⟨f,s,t,d⟩:=p;obtain⟨f,rfl⟩:=zLm r1;obtain⟨s,rfl⟩:=zLm w1;obtain⟨t,rfl⟩:=zLm w3;simp only at r2 w2 w4 r5;unfold Pk.bs at hk;simp only[xZ] at hk;generalize Pk.tx ⟨(f:Int),(s:Int),(t:Int),d⟩=l at *;subst ed;simp only[mF] at el r5;apply sR.call;unfold sR;intro r hr
 try rw[dY]
 have u1:eM h (h.set r (.cells (Value.cells (.agg (Pk.cells ⟨(f:Int),(s:Int),(t:Int),tx l⟩).toArray)) cT)):=eH.new hr;have B1:Bx (h.set r (.cells (Value.cells (.agg (Pk.cells ⟨(f:Int),(s:Int),(t:Int),tx l⟩).toArray)) cT)) r (Pk.cells ⟨(f:Int),(s:Int),(t:Int),tx l⟩):=Bx.new;generalize h.set r (.cells (Value.cells (.agg (Pk.cells ⟨(f:Int),(s:Int),(t:Int),tx l⟩).toArray)) cT)=h1 at *;have l0:∀{h':PH},eM h1 h'->dH PG h' (loadAt aR (pT r 0))=some (.int .i64 (f:Int)):=λu=>by rw[aR.load,(B1.ext u).cell];rfl
 have l1:∀{h':PH},eM h1 h'->dH PG h' (loadAt dN (pT r 1))=some (.int .u64 (s:Int)):=λu=>by rw[dN.load,(B1.ext u).cell];rfl
 have l2:∀{h':PH},eM h1 h'->dH PG h' (loadAt dN (pT r 2))=some (.int .u64 (t:Int)):=λu=>by rw[dN.load,(B1.ext u).cell];rfl
 have l3:∀{h':PH},eM h1 h'->dH PG h' (loadAt aT (pT r 3))=some (.string (tx l)):=λu=>by rw[aT.load,(B1.ext u).cell];rfl
 have c1:IntKind.u64.wrap (f:Int)=(f:Int):=lJ (by omega) (by omega);have c2:IntKind.u64.wrap (l.length:Int)=(l.length:Int):=lJ (by omega) (by omega);have ln:dE PG (Builtin.len_ #[aT] aR #[.string (tx l)])=some (.int .i64 (l.length:Int)):=by rw[vP aT.und,mF]
 simp only[cT.f0,cT.f1,cT.f2,cT.f3,l0 eH.refl,l1 eH.refl,l2 eH.refl,l3 eH.refl,ln,aFI,c1,c2,dF,reduceIte,dM,Nat.reduceAdd];refine nO (by omega) (by decide) λh2 u2=>?_;simp only[kB,l1 u2,l2 u2,l3 u2,eq_self,true_and];refine nO (by omega) (by decide) λh3 u3=>?_;have e3:=u2.trans u3;have a1:dE PG (binOp .add aT (.string (tx (be f 1))) (.string (tx (be s 8))))=some (.string (tx (be f 1++be s 8))):=kZ (by simp only[iZ];decide);simp only[l2 e3,l3 e3,a1,eq_self,true_and,dF,reduceIte,dM,Nat.reduceAdd];refine nO (by omega) (by decide) λh4 u4=>?_;have e4:=e3.trans u4;have a2:dE PG (binOp .add aT (.string (tx (be f 1++be s 8))) (.string (tx (be t 8))))=some (.string (tx ((be f 1++be s 8)++be t 8))):=kZ (by simp only[iZ,kO];decide);simp only[l3 e4,a2,eq_self,true_and,dF,reduceIte,dM,Nat.reduceAdd];refine nO (by omega) (by decide) λh5 u5=>?_;have e5:=e4.trans u5;have a3:dE PG (binOp .add aT (.string (tx ((be f 1++be s 8)++be t 8))) (.string (tx (be l.length 2))))=some (.string (tx (((be f 1++be s 8)++be t 8)++be l.length 2))):=kZ (by simp only[iZ,kO];decide);have a4:dE PG (binOp .add aT (.string (tx (((be f 1++be s 8)++be t 8)++be l.length 2))) (.string (tx l)))=some (.string (tx ((((be f 1++be s 8)++be t 8)++be l.length 2)++l))):=kZ (by simp only[iZ,kO];omega);simp only[l3 e5,a3,a4,eq_self,true_and,dF,reduceIte,dM,Nat.reduceAdd];rw[xN,xN,xN];exact hk _ (u1.trans e5)
end Go.Proofs.YtiohehjhlghikaaGreatDoor
