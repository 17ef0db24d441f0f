/- relay: the card of RelayFront: a plan with a smaller batch, or of fewer items, is the front of one with more. -/
import Derived.Test.YtppgkeodaejgcaaGreatDoorRlKVC8
set_option linter.unusedSimpArgs false
set_option linter.unusedVariables false
set_option linter.unusedSectionVars false
set_option maxRecDepth 100000
open Go.Instr (loadAt fieldAt indexAt extract buildSlice build)
namespace Go.Proofs.YtppgkeodaejgcaaGreatDoor
open Go
theorem aL2{h:PH}{c0 c1:Nat}{s:Ch×Ch}{F:List Nat}(hK:nJ h)(W:aCq c0 c1 s h F){x:Value}{l:List It}(S:fR h 5 x (l.map It.cells))(w:∀i∈l,i.p.wf)(hl:l.length≤60)(batch:Int){kk:cD}
  (hk:∀h' hs0 hs1 v0 v1 G0 G1,nW hs0 s.1.cl->nW hs1 s.2.cl->eD h' cI 8 v0 ((oL s hs0 batch (l.map It.p) 0).1.map gF.cells) G0->eD h' cI 8 v1 ((oL s hs1 batch (l.map It.p) 1).1.map gF.cells) G1->dZ h G0->dZ h G1->dD h h'->kk (.agg #[v0,v1]) h'):
  aT PG aA3 #[x,arV c0 c1,.int .i64 batch] h kk:=by
 apply aEk.call;unfold aEk;intro r1 hr1
 try rw[cZ]
 have u1:dD h (h.set r1 (.cells (Value.cells (arV c0 c1)) dB)):=cU.new hr1;have B1:Bx (h.set r1 (.cells (Value.cells (arV c0 c1)) dB)) r1 (arC c0 c1):=Bx.new;generalize h.set r1 (.cells (Value.cells (arV c0 c1)) dB)=h1 at *;intro r3 hr3
 try rw[cZ]
 have n13:r1≠r3:=B1.apart hr3;have u3:dD h1 (h1.set r3 (.cells (dL PG dA) dA)):=cU.new hr3;have B3:Bx (h1.set r3 (.cells (dL PG dA) dA)) r3 [.slice none 0 0,.slice none 0 0]:=dA.zbox;have B1:=B1.ext u3;generalize h1.set r3 (.cells (dL PG dA) dA)=h3 at *;intro r5 hr5
 try rw[cZ]
 have n15:r1≠r5:=B1.apart hr5;have n35:r3≠r5:=B3.apart hr5;have u5:dD h3 (h3.set r5 (.cells (dL PG jB) jB)):=cU.new hr5;have B5:Bx (h3.set r5 (.cells (dL PG jB) jB)) r5 [.slice none 0 0,.bool false,.slice none 0 0,.bool false]:=jB.zbox;have B1:=B1.ext u5;have B3:=B3.ext u5;generalize h3.set r5 (.cells (dL PG jB) jB)=h5 at *;have e5:=(u1.trans u3).trans u5;have k3:h r3=none:=u1.none hr3;have k5:h r5=none:=(u1.trans u3).none hr5;have j0:cV PG (indexAt dB (pT r1 0) (.int .i64 0))=some (pT r1 0):=aLg (i:=0) (by decide);have j1:cV PG (indexAt dB (pT r1 0) (.int .i64 1))=some (pT r1 1):=by have:=aLg (r:=r1) (o:=0) (i:=1) (by decide);rw[fJ] at this;exact this
 have l0:cE PG h5 (loadAt dG (pT r1 0))=some (pT c0 0):=by rw[dG.load,B1.cell];rfl
 have l1:∀{h':PH},dD h5 h'->cE PG h' (loadAt dG (pT r1 1))=some (pT c1 0):=λu=>by rw[dG.load,(B1.ext u).cell];rfl
 obtain⟨F0,F1,-,H0,H1,-⟩:=id W;simp only[j0,j1,l0,l1 cU.refl,cG,reduceIte,cT,Nat.reduceAdd];refine aOY ((iF.good _ _).ext H0 e5) λh7 hs0 kv0 Fk0 R0 O0 u7 f7=>?_;refine⟨l1 u7,?_⟩;refine aOY ((iF.good _ _).ext H1 (e5.trans u7)) λh9 hs1 kv1 Fk1 R1 O1 u9 f9=>?_;have S0:=(O0.ext u9).slR;have S1:=O1.slR;obtain⟨a0,n0,d0,rfl⟩:=slv O0;obtain⟨a1,n1,d1,rfl⟩:=slv O1;have e9:=(e5.trans u7).trans u9;simp only[aZJ,cG,reduceIte,cT,Nat.reduceAdd];intro r16 hr16
 try rw[cZ]
 refine jO.fill (vs:=[.slice a0 n0 d0,.slice a1 n1 d1]) hr16 rfl (λu hu=>by
  simp only[gL,kJ,or_false] at hu;rcases hu with rfl|rfl<;>rfl) λh10 B16 u10=>?_
 have e10:=e9.trans u10;have e510:=(u7.trans u9).trans u10;have ll:cV PG (Builtin.len_ #[jD] bT #[x])=some (.int .i64 (l.length:Int)):=by
  have:=S.len (t':=bT) jD.und;rw[iU] at this;exact this
 have n165:r16≠r5:=λe=>(B5.ext (u7.trans u9)).known (e▸hr16);simp only[ll,cG,reduceIte,cT,Nat.reduceAdd];refine⟨λvs h'=>∃(i:Nat) (G:List Nat),i≤l.length∧vs=[.int .i64 batch,pT r1 0,pT r3 0,pT r5 0,pT r16 0,x,.int .i64 (l.length:Int),.int .i64 (i:Int)]∧Now h h' G∧PlB h' r5 (oL s hs0 batch ((l.take i).map It.p) 0) (oL s hs1 batch ((l.take i).map It.p) 1) G∧cU G h10 h'∧(r1∉G∧r3∉G∧r16∉G)∧(∀y∈G,y=r5∨h10 y=none),gY l.length 7,⟨0,[r5],by omega,rfl,⟨e10,dZ.one k5⟩,⟨_,_,[],[],rfl,B5.ext e510,eD.nil,eD.nil,by simp,by simp,λy hy=>by cases hy⟩,cU.refl,⟨by simpa using n15,by simpa using n35,by simpa using n165⟩,λy hy=>.inl (by simpa using hy)⟩,?_⟩;rintro ρ h' ⟨i,G,hi,hvs,N,P,U,⟨g1,g3,g16⟩,gr⟩;simp only[iJ,iV,kW,and_true] at hvs;obtain⟨v0,v1,v2,v3,v4,v5,v6,v7⟩:=hvs;unfold aJv aHI aJ0;rw[v0,v1,v2,v3,v4,v5,v6,v7];have D1:Bx h' r1 (arC c0 c1):=(B1.ext e510).upd U g1;have D3:Bx h' r3 [.slice none 0 0,.slice none 0 0]:=(B3.ext e510).upd U g3;have D16:Bx h' r16 [.slice a0 n0 d0,.slice a1 n1 d1]:=B16.upd U g16;have hle:∀k known,(oL s known batch ((l.take i).map It.p) k).1.length≤10000:=λk known=>by
  have:=aW8 s known batch ((l.take i).map It.p) k;rw[iU,uX] at this;omega
 by_cases hlt:i<l.length
 ·have g:((i:Int)<(l.length:Int))=True:=eq_true (by omega);have gi:=qG (i:=i) (by omega);obtain⟨y,hy⟩:∃y,l[i]? =some y:=⟨_,lU hlt⟩;obtain⟨a,i1,i2⟩:=(S.ext N.ext).it (k:=.i64) hy;have etake:(l.take (i+1)).map It.p=(l.take i).map It.p++[y.p]:=by rw[zLT,hy,qX];rfl
  simp only[g,i1,i2,cG,reduceIte,cT,Nat.reduceAdd];intro r26 hr26
  try rw[cZ]
  refine eY.fill (vs:=y.cells) hr26 rfl (λu hu=>It.allCell y u (by simpa using hu)) λh12 B26 u12=>?_;have ly:cE PG h12 (loadAt eY (pT r26 0))=some y.val:=eY.agg B26 (by show 0+5≤5;decide);have lc:cE PG h12 (loadAt dB (pT r1 0))=some (arV c0 c1):=dB.agg (D1.ext u12) (by show 0+2≤2;decide);have N12:=N.more u12;simp only[ly,lc,cG,reduceIte,cT,Nat.reduceAdd];refine aTz (N12.k hK) ((aCq.good _ _ _).ext W N12.ext) y.p (w y (rA hy)) y.g λh13 u13=>?_;have e13:=u12.trans u13;have N13:=N.more e13;have P13:=P.ext e13;simp only[cG,reduceIte,cT,Nat.reduceAdd];intro r36 hr36
  try rw[cZ]
  refine cI.fill (vs:=(aR5 (rF s.1 s.2 y.p)).cells) hr36 rfl (gF.isC _) λh14 B36 u14=>?_;have e14:=e13.trans u14;have N14:=N.more e14;have P14:=P.ext e14;have D16':=D16.ext e14;have U14:cU G h10 h14:=U.trans e14.upd;cases hsub:rF s.1 s.2 y.p with
  | none=>
   simp only[zLu,gi,cG,reduceIte,cT,Nat.reduceAdd];refine⟨⟨i+1,G,by omega,rfl,N14,?_,U14,⟨g1,g3,g16⟩,gr⟩,by simp[gY,v7];omega⟩;rw[etake,aFz,aFz,hsub];exact P14
  | some m=>
   rw[hsub] at B36;have hd:=aQu hsub;obtain⟨j,hj⟩:∃j:Nat,m.dest=(j:Int)∧j<2:=by rcases hd with h|h;exact⟨0,h,by decide⟩;exact⟨1,h,by decide⟩
   obtain⟨hj,hj2⟩:=hj;have ld:cE PG h14 (loadAt bT (pT r36 1))=some (.int .i64 (j:Int)):=by rw[bT.load,B36.cell,←hj];rfl
   have lm:cE PG h14 (loadAt cI (pT r36 0))=some m.v:=B36.msg;have lk:∃kv known,cE PG h14 (loadAt dP (pT r16 j))=some kv∧fR h14 1 kv (known.map vM)∧known=(if j=1 then hs1 else hs0):=by
    have d0:∀y∈Fk0,y∉G:=λy hy hm=>by
     rcases gr y hm with rfl|h
     ·exact B5.known (f7 _ hy)
     ·exact(O0.ext (u9.trans u10)).known y hy h
    have d1:∀y∈Fk1,y∉G:=λy hy hm=>by
     rcases gr y hm with rfl|h
     ·exact(B5.ext u7).known (f9 _ hy)
     ·exact(O1.ext u10).known y hy h
    have:j=0∨j=1:=by omega
    rcases this with rfl|rfl
    ·exact⟨_,hs0,by rw[dP.load,D16'.cell];rfl,((O0.ext (u9.trans u10)).upd U14 d0).slR,rfl⟩
    ·exact⟨_,hs1,by rw[dP.load,D16'.cell];rfl,((O1.ext u10).upd U14 d1).slR,rfl⟩
   obtain⟨kv,known,lk1,lk2,lk3⟩:=lk;simp only[aMe,cI.f1,ld,lm,aU0 hj2,aZM hj2,lk1,cG,reduceIte,cT,Nat.reduceAdd];refine PlB.put P14 hj2 lk2 (hle _ _) (hle _ _) λh15 G15 P15 s15=>?_;simp only[gi,cG,reduceIte,cT,Nat.reduceAdd];obtain⟨X1,m1⟩:=zC (D1.ext e14) g1 s15;obtain⟨X3,m3⟩:=zC (D3.ext e14) g3 s15;obtain⟨X16,m16⟩:=zC D16' g16 s15;refine⟨⟨i+1,G15,by omega,rfl,N14.step s15,?_,U14.then s15.upd (λy hy=>.inl hy) |>.mono ?_,⟨m1,m3,m16⟩,?_⟩,by simp[gY,v7];omega⟩
   ·rw[etake,aFz,aFz,hsub];rcases hd with h|h
    ·have j0:j=0:=by omega
     subst j0;rw[if_neg (by decide)] at lk3;rw[if_neg (by decide),if_neg (by decide),lk3] at P15;simp only[h];exact P15
    ·have j1:j=1:=by omega
     subst j1;rw[if_pos rfl] at lk3;rw[if_pos rfl,if_pos rfl,lk3] at P15;simp only[h];exact P15
   ·intro y hy;rcases gr y hy with rfl|h
    ·obtain⟨_,_,_,_,e,-⟩:=P15.here;exact .inl (by rw[e];simp)
    ·exact .inr h
   ·intro y hy;by_cases hm:y∈G
    ·exact gr y hm
    ·rcases s15.grow y hy with h|h
     ·exact absurd h hm
     ·cases e:h10 y with
      | none=>exact .inr rfl
      | some ob=>
       have:=U14 y ob e hm;rw[h] at this;cases this
 ·have g:((i:Int)<(l.length:Int))=False:=eq_false (by omega);obtain⟨x0,x1,G0,G1,rfl,B,O0',O1',n0',n1',hd'⟩:=P.here;rw[mU (by omega)] at O0' O1';obtain⟨b0,q0,w0,rfl⟩:=slv O0';obtain⟨b1,q1,w1,rfl⟩:=slv O1';have t0:=aU0 (r:=r5) (j:=0) (by decide);have t1:=aU0 (r:=r5) (j:=1) (by decide);have la:cE PG h' (loadAt cX (pT r5 0))=some (.slice b0 q0 w0):=by rw[cX.load,B.cell];rfl
  have lb:cE PG h' (loadAt cX (pT r5 2))=some (.slice b1 q1 w1):=by rw[cX.load,B.cell];rfl
  have t0:cV PG (indexAt jB (pT r5 0) (.int .i64 0))=some (pT r5 0):=t0;have t1:cV PG (indexAt jB (pT r5 0) (.int .i64 1))=some (pT r5 2):=t1;simp only[g,t0,t1,jA.f0,la,lb,aZV,cG,reduceIte,cT,Nat.reduceAdd];refine dA.put (vs:=[.slice b0 q0 w0,.slice b1 q1 w1]) D3 (o:=0) rfl (by show 0+2≤2;decide) (λu hu=>by
   simp only[gL,kJ,or_false] at hu;rcases hu with rfl|rfl<;>rfl) λh12 X3 u12=>?_
  have l3:cE PG h12 (loadAt dA (pT r3 0))=some (.agg #[.slice b0 q0 w0,.slice b1 q1 w1]):=dA.agg X3 (by show 0+2≤2;decide);simp only[l3,cG,reduceIte,cT,Nat.reduceAdd];simp only[gL,jG,not_or] at g3;refine hk h12 hs0 hs1 _ _ G0 G1 R0 R1 (O0'.upd u12 (λy hy hm=>?_)) (O1'.upd u12 (λy hy hm=>?_)) (λy hy=>N.fr y (by simp[hy])) (λy hy=>N.fr y (by simp[hy])) (N.ext.fresh u12 (dZ.one k3))
  ·simp only[fU] at hm;exact g3.2.1 (hm▸hy)
  ·simp only[fU] at hm;exact g3.2.2 (hm▸hy)
def ya:Ch:=Ch.new 0 5 1
def yb:Ch:=Ch.new 1 5 1
def yp:Pk:=jW ya [] 9
def yq:Pr:=⟨fS 99 1,mL yp⟩
def ya1:Ch:=ya.sent yp
def ya2:Ch:=ya1.committed
def y1:jK:=⟨0,0,9,[],default,false⟩
def y2:jK:=⟨5,0,0,[],default,false⟩
theorem aPk:yp.right=true:=by decide
theorem aX7:rD ya [] 9=0:=by
 have h1:decide (aJc ya.cl<((9:Nat):Int))=true:=by
  rw[show ya.cl=[] from rfl,aVa];decide
 have h2:(jW ya [] 9).right=true:=aPk;unfold rD qZ;rw[if_neg (by decide),h1,h2];rfl
theorem aXa:aGT (ya,yb) y1=(ya1,yb):=by
 unfold aGT iZ;rw[if_neg (show ¬y1.clean.id=1 by decide)];have:kC ya yb y1.clean=(ya1,(yp,0,0)):=by
  unfold kC;rw[if_pos (show y1.clean.kind=0 from rfl),show y1.clean.d=[] from rfl,show y1.clean.h=9 from rfl,if_pos aX7];rfl
 show((kC ya yb y1.clean).1,yb)=_;rw[this]
theorem aXR:aGT (ya1,yb) y2=(ya2,yb):=by
 unfold aGT iZ;rw[if_neg (show ¬y2.clean.id=1 by decide)];rfl
theorem aY2:aH6 (ya,yb) [y1,y2]=(ya2,yb):=by
 show aGT (aGT (ya,yb) y1) y2=_;rw[aXa,aXR]
theorem aZU:oO ya2.st 6=some [yq]:=rfl
theorem aYX:MOk [yq]:=⟨List.pairwise_singleton _ _,by decide,λp hp=>by
 simp only[fU] at hp;subst hp;show(fS 99 1).length≤16;rw[wH];decide,λp hp=>by
 simp only[fU] at hp;subst hp;exact aLa yp⟩
theorem aR1:gI [yq] (fS 99 1)=some yq:=by
 rw[zM (List.pairwise_singleton _ _)];exact⟨by simp,rfl⟩
def ym:gF:=mkM 2 1 6 yp (tx (aAt (jN [yq] (fS 99 1))))
theorem aVj:rF ya2 yb yp=some ym:=by
 have hs:oW ya2 yp=true:=by
  unfold oW;rw[show fS 99 yp.s.toNat=fS 99 1 from rfl,show ya2.st.now=[yq] from rfl,aR1];exact decide_eq_true rfl
 have hp:uE ya2.st (fS 99 1) 6=(aAt (jN [yq] (fS 99 1)),0):=by
  unfold uE;rw[aZU];simp only;rw[if_pos (by rw[aR1];rfl),(aP8 aYX _).1]
 have hh:(aAt (jN [yq] (fS 99 1))).head? =some 1:=by
  have e:jN [yq] (fS 99 1)=⟨false,[kD [yq] (gT [yq] (fS 99 1))]⟩:=by
   unfold jN;rw[if_pos (by rw[aR1];rfl)]
  rw[e];rfl
 unfold rF;rw[if_pos ⟨aPk,hs⟩];rw[show yY ya2 yb (1-yp.f)=yb from rfl,show yY ya2 yb yp.f=ya2 from rfl];rw[if_neg (show ¬(gI yb.st.now (fS 114 yp.s.toNat)).isSome=true from(by decide:¬(false=true)))];rw[if_neg (show ¬(IntKind.u64.wrap (yp.t-1)≤(yb.st.height:Int)∨yb.st.height=18446744073709551615) by decide)];unfold aEd;rw[show ya2.st.height=6 from rfl,show fS 99 yp.s.toNat=fS 99 1 from rfl,hp,if_pos ⟨rfl,hh⟩];rfl
theorem aWg(known:List Int):oL (ya2,yb) known 9 [yp] 0=([],false):=by
 have:rF (ya2,yb).1 (ya2,yb).2 yp=some ym:=aVj;show oL (ya2,yb) known 9 ([]++[yp]) 0=_;rw[aFz,this];rfl
theorem aW5{known:List Int}(hk:known=[]):oL (ya2,yb) known 9 [yp] 1=([uA 1 6,ym],false):=by
 have:rF (ya2,yb).1 (ya2,yb).2 yp=some ym:=aVj;show oL (ya2,yb) known 9 ([]++[yp]) 1=_;rw[aFz,this,hk];rfl
theorem aWQ{h0 h:PH}{F:List Nat}{c0 c1 m d0 d1 bk mm:Nat}{K:List Nat}{s:Ch×Ch}{A:List Tx}{n i:Nat}(hK:nJ h0)(N:Now h0 h F)(W:aI5 c0 c1 m d0 d1 bk mm K s A n h F)(M:aH3 s i)(hn:n≤i+1){r9:Nat}(B9:Bx h r9 (arC c0 c1))(n9:r9∉F){v t6:Value}{l:List jK}(S:fR h0 9 v (l.map jK.cells))(hl:l.length≤50){x:jK}(hx:l[i]? =some x)(wx:x.wf)(hd:x.d.length≤2000){R:cD}{n37:gP}
  (hk:∀h' F' A',aI5 c0 c1 m d0 d1 bk mm K (aGT s x) A' (n+1) h' F'->iX h F h' F'->n37 [v,t6,pT r9 0,pT m 0,.int .i64 ((i+1:Nat):Int)] h'):
  yD R n37 v t6 (pT r9 0) (pT m 0) (.int .i64 (i:Int)) h:=by
 unfold yD;have hlt:i<l.length:=(zLz.1 hx).1;have g:((i:Int)<(l.length:Int))=True:=eq_true (by omega);have gi:=qG (i:=i) (by omega);obtain⟨bb,o,a1,a2⟩:=S.tac4 hx;obtain⟨-,la,-⟩:=a2 h N.ext;have gD:mA (DTw m d0 d1 bk mm A K s.1 s.2 n):=DTw.good _ _ _ _ _ _ _ _ _ _;have key:=aTS c0 c1 s x.clean;rw[show x.clean.id=x.id from rfl] at key;obtain⟨Wc,gW,e2,hW,get⟩:=key;have hsd:=aRq x.id;have w1:IntKind.i64.wrap (1-((lH x.id:Nat):Int))=((1-lH x.id:Nat):Int):=by rw[eX (by omega) (by omega)];omega
 have wc:=jK.clean_wf wx;simp only[aN6 S,g,a1,la,cG,reduceIte,cT,Nat.reduceAdd];intro r43 hr43
 try rw[cZ]
 refine cH.fill (vs:=x.cells) hr43 rfl (jK.isC x) λh1 B1 u1=>?_;have v8:cV PG (fieldAt cH (pT r43 0) 5)=some (pT r43 8):=by rw[cH.f5]
 refine aRE v8 ?_;refine fZ.put B1 (o:=8) (by show 8<9;decide) rfl λh2 B2 u2=>?_;have B2:Bx h2 r43 x.clean.cells:=B2;have e2':dD h h2:=u1.fresh u2 (dZ.one hr43);have C9:∀{h'':PH},dD h h''->Bx h'' r9 (arC c0 c1):=λu=>B9.ext u;have W2:=(aI5.good _ _ _ _ _ _ _ _ _ _ _).ext W e2';have n43:r43∉F:=λhm=>(aI5.good _ _ _ _ _ _ _ _ _ _ _).known W _ hm hr43;have li:∀{h'':PH},dD h2 h''->cE PG h'' (loadAt bT (pT r43 1))=some (.int .i64 x.id):=λu=>by rw[bT.load,(B2.ext u).cell];rfl
 have lh:∀{h'':PH},dD h2 h''->cE PG h'' (loadAt cA (pT r43 2))=some (.int .u64 (x.h:Int)):=λu=>by rw[cA.load,(B2.ext u).cell];rfl
 have lx:cE PG h2 (loadAt cH (pT r43 0))=some x.clean.v:=cH.agg B2 (by show 0+9≤9;decide);have lc:∀{h'':PH},dD h2 h''->cE PG h'' (loadAt dG (pT r9 (lH x.id)))=some (.pointer (some ⟨aE9 c0 c1 (lH x.id),0,none⟩)):=λu=>by rw[dG.load,(C9 (e2'.trans u)).cell,aNL c0 c1 hsd]
 have lo:∀{h'':PH},dD h2 h''->cE PG h'' (loadAt dG (pT r9 (1-lH x.id)))=some (.pointer (some ⟨aE9 c0 c1 (1-lH x.id),0,none⟩)):=λu=>by rw[dG.load,(C9 (e2'.trans u)).cell,aNL c0 c1 (by omega)]
 have ix1:=aLg (r:=r9) (o:=0) (i:=lH x.id) hsd;have ix2:=aLg (r:=r9) (o:=0) (i:=1-lH x.id) (by omega);rw[fJ] at ix1 ix2;simp only[cH.f1,fJ,li cU.refl,cG,reduceIte,cT,Nat.reduceAdd];refine aL6 x.id ?_;refine⟨li cU.refl,?_⟩;simp only[ix1,lc cU.refl,cG,reduceIte,cT,Nat.reduceAdd];refine aL6 x.id ?_;refine⟨lc cU.refl,?_⟩;simp only[w1,ix2,lo cU.refl,lx,cH.f2,fJ,lh cU.refl,cG,reduceIte,cT,Nat.reduceAdd];refine aPF (a:=x.clean) wc λh3 u3=>?_;refine⟨lh u3,?_⟩;obtain⟨Fa2,HT2,-,-⟩:=eO.left gD W2;obtain⟨-,Fo2,HO2⟩:=get HT2;refine aJX (N.k hK |>.ext (e2'.trans u3)) ((iF.good _ _).ext HO2 u3) (aIy x.clean) wx.h λh4 u4=>?_;have e4:dD h2 h4:=u3.trans u4;have e04:=e2'.trans e4;have W4:=(aI5.good _ _ _ _ _ _ _ _ _ _ _).ext W2 e4;have K4:=(N.k hK).ext e04;have N4:=N.more e04;have h0F:=N4.z hK;have B4:=B2.ext e4;obtain⟨Fa,HT,hFa,back0⟩:=eO.left gD W4;obtain⟨⟨Fc,HA,hFc,back⟩,Fo,HO⟩:=get HT;have h0a:0∉Fc:=λhm=>h0F (hFa _ (hFc _ hm));obtain⟨⟨w0,o0⟩,w1',o1⟩:=aT4 HT M.k0 M.k1;have hl1:(aDg s (lH x.id)).nts.length<1000000:=by
  have:=M.n0;have:=M.n1;unfold aDg;split<;>omega
 -- behind the call
 have fin:∀{h5:PH} {F5:List Nat} {s':Ch},Wc (iF (aE9 c0 c1 (lH x.id)) s') h5 F5->iX h4 Fa h5 F5->(kC (aDg s (lH x.id)) (aDg s (1-lH x.id)) x.clean).1=s'->kX R n37 v t6 (pT r9 0) (pT m 0) (.int .i64 (i:Int)) (pT r43 0) h5:=fun {h5 F5 s'} H5 s5 ed=>by
  rw[←ed] at H5;have T5:=hW H5;obtain⟨F6,W6,s6⟩:=back0 (aCq c0 c1 (aGT s x)) h5 F5 T5 s5;obtain⟨B5,n5⟩:=zC B4 n43 s6;unfold kX aFu;have B6:=B5;have W7:=W6;generalize hh:h5=h6 at *;have l5:cE PG h6 (loadAt cH (pT r43 0))=some x.clean.v:=cH.agg B6 (by show 0+9≤9;decide);simp only[l5,cG,reduceIte,cT,Nat.reduceAdd];obtain⟨Fd,HD,hFd,backD⟩:=eO.right (aCq.good _ _ _) W7;refine aXt HD w0 w1' (by omega) wc (by show x.d.length≤1000000;omega) λh7 F7 D7 s7=>?_;obtain⟨F8,W8,s8⟩:=backD (DTw m d0 d1 bk mm (twA s.1 s.2 x.clean++A) K (aGT s x).1 (aGT s x).2 (n+1)) h7 F7 D7 s7;simp only[gi,cG,reduceIte,cT,Nat.reduceAdd];exact hk h7 F8 _ W8 (((iX.ext e04).trans s6).trans s8)
 have lk:cE PG h4 (loadAt bT (pT r43 0))=some (.int .i64 x.kind):=by rw[bT.load,B4.cell];rfl
 have ld:cE PG h4 (loadAt bR (pT r43 3))=some (.string (tx x.d)):=by rw[bR.load,B4.cell];rfl
 have lp:cE PG h4 (loadAt aR (pT r43 4))=some x.p.v:=B4.pk rfl;have lh4:=lh e4;generalize hs:aDg s (lH x.id)=cs at *;generalize hso:aDg s (1-lH x.id)=so at *;generalize aE9 c0 c1 (lH x.id)=cc at *;generalize aE9 c0 c1 (1-lH x.id)=co at *;have hd:(kC cs so x.clean).1=if x.kind=0 then(if rD cs x.d x.h=0 then cs.sent (jW cs x.d x.h) else cs)
   else if x.kind=1 then(match oO so.st x.h with
    | none=>cs
    | some b=>cs.told (x.h:Int) (lB b))
   else if x.kind=2 then(if qZ cs (tM cs x.p (lS so x.clean) (x.h:Int))=0 then cs.received x.p else cs)
   else if x.kind=3 then(if jH cs x.p (xK cs x.p (lS so x.clean) (x.h:Int))=0 then cs.settled 3 x.p else cs)
   else if x.kind=4 then(if jH cs x.p (qO cs x.p (lS so x.clean) (x.h:Int))=0 then cs.settled 4 x.p else cs)
   else if x.kind=5 then cs.committed
   else cs:=aXB cs so x.clean
 have hpf:2≤x.kind->x.kind≤4->lS so x.clean=(uE so.st (aIy x.clean) x.h).1:=λh2 h4=>by unfold lS;rw[if_pos ⟨rfl,h2,h4⟩];rfl
 by_cases k0:x.kind=0
 ·have q:(x.kind==0)=true:=by simp[k0]
  rw[if_pos k0] at hd;simp only[cH.f0,cH.f2,cH.f3,fJ,lk,ld,lh4,iA,q,cG,reduceIte,cT,Nat.reduceAdd];refine aVA K4 HA x.d wx.h hl1 (λhe h1 F1 H1 s1 _=>?_) (λhe h1 F1 H1 s1=>?_)
  ·rw[if_neg he] at hd;obtain⟨F2,W2,s2⟩:=back _ h1 F1 H1 s1;exact fin W2 s2 hd
  ·rw[if_pos he] at hd;obtain⟨F2,W2,s2⟩:=back _ h1 F1 H1 s1;exact fin W2 s2 hd
 have q0:(x.kind==0)=false:=by simp[k0]
 rw[if_neg k0] at hd;by_cases k1:x.kind=1
 ·have q:(x.kind==1)=true:=by simp[k1]
  rw[if_pos k1] at hd;obtain⟨sp,m',cp,nv,bv,lk',P,perm,ok⟩:=HO;obtain⟨Fs,St,-,-⟩:=P.fSt;simp only[cH.f0,cH.f2,dX.f0,eZ.f0,fJ,lk,lh4,Ch.load0 P.cell,iA,q0,q,cG,reduceIte,cT,Nat.reduceAdd];refine aTv St x.h wx.h (λe h1 u1=>?_) (λb h1 e u1=>?_)
  ·rw[e] at hd;obtain⟨F2,W2,s2⟩:=back _ h1 Fc ((iF.good _ _).ext HA u1) (iX.ext u1);have qe:((3:Int)==0)=false:=by decide
   simp only[iA,qe,cG,reduceIte,cT,Nat.reduceAdd];exact fin W2 s2 hd
  ·rw[e] at hd;have lh1:=lh (e4.trans u1);have qe:((0:Int)==0)=true:=by decide
   simp only[iA,qe,cH.f2,fJ,lh1,cG,reduceIte,cT,Nat.reduceAdd];refine aSU ((iF.good _ _).ext HA u1) (x.h:Int) (lB b) λh2 F2 H2 s2=>?_;obtain⟨F3,W3,s3⟩:=back _ h2 F2 H2 ((iX.ext u1).trans s2);exact fin W3 s3 hd
 have q1:(x.kind==1)=false:=by simp[k1]
 rw[if_neg k1] at hd;by_cases k2:x.kind=2
 ·have q:(x.kind==2)=true:=by simp[k2]
  rw[if_pos k2,hpf (by omega) (by omega)] at hd;simp only[cH.f0,cH.f2,cH.f4,fJ,lk,lh4,lp,iA,q0,q1,q,cG,reduceIte,cT,Nat.reduceAdd];refine aUI K4 HA h0a wx.p hl1 (λhe h1 H1 u1=>?_) (λhe h1 F1 H1 s1=>?_)
  ·rw[if_neg he] at hd;obtain⟨F2,W2,s2⟩:=back _ h1 Fc H1 (iX.ext u1);exact fin W2 s2 hd
  ·rw[if_pos he] at hd;obtain⟨F2,W2,s2⟩:=back _ h1 F1 H1 s1;exact fin W2 s2 hd
 have q2:(x.kind==2)=false:=by simp[k2]
 rw[if_neg k2] at hd;by_cases k3:x.kind=3
 ·have q:(x.kind==3)=true:=by simp[k3]
  rw[if_pos k3,hpf (by omega) (by omega)] at hd;simp only[cH.f0,cH.f2,cH.f4,fJ,lk,lh4,lp,iA,q0,q1,q2,q,cG,reduceIte,cT,Nat.reduceAdd];refine aWR K4 HA wx.p hl1 (λhe h1 H1 u1=>?_) (λhe h1 F1 H1 s1=>?_)
  ·rw[if_neg he] at hd;obtain⟨F2,W2,s2⟩:=back _ h1 Fc H1 (iX.ext u1);exact fin W2 s2 hd
  ·rw[if_pos he] at hd;obtain⟨F2,W2,s2⟩:=back _ h1 F1 H1 s1;exact fin W2 s2 hd
 have q3:(x.kind==3)=false:=by simp[k3]
 rw[if_neg k3] at hd;by_cases k4:x.kind=4
 ·have q:(x.kind==4)=true:=by simp[k4]
  rw[if_pos k4,hpf (by omega) (by omega)] at hd;simp only[cH.f0,cH.f2,cH.f4,fJ,lk,lh4,lp,iA,q0,q1,q2,q3,q,cG,reduceIte,cT,Nat.reduceAdd];refine aQ6 K4 HA wx.p hl1 (λhe h1 H1 u1=>?_) (λhe h1 F1 H1 s1=>?_)
  ·rw[if_neg he] at hd;obtain⟨F2,W2,s2⟩:=back _ h1 Fc H1 (iX.ext u1);exact fin W2 s2 hd
  ·rw[if_pos he] at hd;obtain⟨F2,W2,s2⟩:=back _ h1 F1 H1 s1;exact fin W2 s2 hd
 have q4:(x.kind==4)=false:=by simp[k4]
 rw[if_neg k4] at hd;by_cases k5:x.kind=5
 ·have q:(x.kind==5)=true:=by simp[k5]
  rw[if_pos k5] at hd;simp only[cH.f0,fJ,lk,iA,q0,q1,q2,q3,q4,q,cG,reduceIte,cT,Nat.reduceAdd];refine aSM K4 HA λh1 F1 H1 s1=>?_;obtain⟨F2,W2,s2⟩:=back _ h1 F1 H1 s1;exact fin W2 s2 hd
 ·have q:(x.kind==5)=false:=by simp[k5]
  rw[if_neg k5] at hd;obtain⟨F2,W2,s2⟩:=back _ h4 Fc HA iX.refl;simp only[cH.f0,fJ,lk,iA,q0,q1,q2,q3,q4,q,cG,reduceIte,cT,Nat.reduceAdd];exact fin W2 s2 hd
theorem aOx{h:PH}(hK:nJ h){a b s0 s1:Nat}(ha:a<18446744073709551616)(hb:b<18446744073709551616)(hs0:s0<18446744073709551616)(hs1:s1<18446744073709551616)(z0:s0≠0)(z1:s1≠0){v:Value}{l:List jK}(S:fR h 9 v (l.map jK.cells))(w:∀x∈l,x.wf)(hl:l.length≤50)(hd:∀x∈l,x.d.length≤2000){k:cD}
  (hk:∀h' c0 c1 m d0 d1 bk mm K A n F,aI5 c0 c1 m d0 d1 bk mm K (aH6 (Ch.new 0 a s0,Ch.new 1 b s1) l) A n h' F->dZ h F->dD h h'->aH3 (aH6 (Ch.new 0 a s0,Ch.new 1 b s1) l) l.length->k (.tuple #[arV c0 c1,pT m 0,.bool true]) h'):
  aT PG zI #[uY a b,uY s0 s1,v] h k:=by
 apply uS.call;unfold uS;intro r1 hr1
 try rw[cZ]
 have u1:dD h (h.set r1 (.cells (Value.cells (uY a b)) eK)):=cU.new hr1;have B1:Bx (h.set r1 (.cells (Value.cells (uY a b)) eK)) r1 (u2c a b):=Bx.new;generalize h.set r1 (.cells (Value.cells (uY a b)) eK)=h1 at *;intro r3 hr3
 try rw[cZ]
 have u3:dD h1 (h1.set r3 (.cells (Value.cells (uY s0 s1)) eK)):=cU.new hr3;have B3:Bx (h1.set r3 (.cells (Value.cells (uY s0 s1)) eK)) r3 (u2c s0 s1):=Bx.new;generalize h1.set r3 (.cells (Value.cells (uY s0 s1)) eK)=h3 at *;intro r5 hr5
 try rw[cZ]
 have u5:dD h3 (h3.set r5 (.cells (dL PG dB) dB)):=cU.new hr5;have B5:Bx (h3.set r5 (.cells (dL PG dB) dB)) r5 [.pointer none,.pointer none]:=dB.zbox;generalize h3.set r5 (.cells (dL PG dB) dB)=h5 at *;intro r7 hr7
 try rw[cZ]
 have n57:r5≠r7:=B5.apart hr7;have u7:dD h5 (h5.set r7 (.cells (dL PG dB) dB)):=cU.new hr7;have B7:Bx (h5.set r7 (.cells (dL PG dB) dB)) r7 [.pointer none,.pointer none]:=dB.zbox;have B5:=B5.ext u7;generalize h5.set r7 (.cells (dL PG dB) dB)=h7 at *;have e17:=((u3.trans u5).trans u7);have e7:dD h h7:=u1.trans e17;have k5:h r5=none:=(u1.trans u3).none hr5;have k7:h r7=none:=((u1.trans u3).trans u5).none hr7;have C1:=B1.ext e17;have C3:=B3.ext (u5.trans u7);have la:∀{h'':PH},dD h7 h''->cE PG h'' (loadAt eK (pT r1 0))=some (uY a b):=λv=>eK.agg (C1.ext v) (by show 0+2≤2;decide);have ls:∀{h'':PH},dD h7 h''->cE PG h'' (loadAt eK (pT r3 0))=some (uY s0 s1):=λv=>eK.agg (C3.ext v) (by show 0+2≤2;decide);simp only[la cU.refl,ls cU.refl,cG,reduceIte,cT,Nat.reduceAdd];refine aWT λh8 bk mk Kk HBk fBk u8=>?_;refine⟨ls u8,la u8,?_⟩;have HBk:Bk bk mk [] Kk h8:=⟨false,[],HBk,λx hx=>hx⟩;refine aUU HBk ha hb λh9 m d0 d1 FD HD fD u9=>?_;have e79:=u8.trans u9;have e9:=e7.trans e79;have fD9:dZ h FD:=λy hy=>by
  rcases fD y hy with hy|hy
  ·exact e7.none (fBk y hy)
  ·exact(e7.trans u8).none hy
 -- what stands behind i chains
 refine⟨λvs h'=>∃i:Nat,vs=[v,pT r1 0,pT r3 0,pT r5 0,pT r7 0,pT m 0,.int .i64 (i:Int)]∧cU [r7] h9 h'∧((i=0∧Bx h' r7 [.pointer none,.pointer none])∨(i=1∧∃c0 F0,Bx h' r7 [pT c0 0,.pointer none]∧iF c0 (Ch.new 0 a s0) h' F0∧dZ h9 F0)∨(i=2∧∃c0 c1 F,Bx h' r7 (arC c0 c1)∧aCq c0 c1 (Ch.new 0 a s0,Ch.new 1 b s1) h' F∧dZ h9 F)),gY 2 6,⟨0,rfl,cU.refl,.inl ⟨rfl,B7.ext e79⟩⟩,?_⟩;rintro ρ h' ⟨i,hvs,u',hc⟩;simp only[iJ,iV,kW,and_true] at hvs;obtain⟨v0,v1,v2,v3,v4,v5,v6⟩:=hvs;unfold aFv;rw[v0,v1,v2,v3,v4,v5,v6];have E':dD h h':=e9.fresh u' (dZ.one k7);have k79:h9 r7≠none:=(B7.ext e79).known;have n71:r7≠r1:=λe=>B1.known (e▸(u3.trans u5).none hr7);have n73:r7≠r3:=λe=>B3.known (e▸u5.none hr7);have D1:=(C1.ext e79).upd u' (by simp only[fU];exact n71.symm);have D3:=(C3.ext e79).upd u' (by simp only[fU];exact n73.symm);have D5:=(B5.ext e79).upd u' (by simp only[fU];exact n57);have i0:∀{r:Nat},cV PG (indexAt eK (pT r 0) (.int .i64 0))=some (pT r 0):=aNs (i:=0) (by decide);have i1:∀{r:Nat},cV PG (indexAt eK (pT r 0) (.int .i64 1))=some (pT r 1):=fun {r}=>by have:=aNs (r:=r) (o:=0) (i:=1) (by decide);rw[fJ] at this;exact this
 have j0:∀{r:Nat},cV PG (indexAt dB (pT r 0) (.int .i64 0))=some (pT r 0):=aLg (i:=0) (by decide);have j1:∀{r:Nat},cV PG (indexAt dB (pT r 0) (.int .i64 1))=some (pT r 1):=fun {r}=>by have:=aLg (r:=r) (o:=0) (i:=1) (by decide);rw[fJ] at this;exact this
 have l10:cE PG h' (loadAt cA (pT r1 0))=some (.int .u64 (a:Int)):=by rw[cA.load,D1.cell];rfl
 have l11:cE PG h' (loadAt cA (pT r1 1))=some (.int .u64 (b:Int)):=by rw[cA.load,D1.cell];rfl
 have l30:cE PG h' (loadAt cA (pT r3 0))=some (.int .u64 (s0:Int)):=by rw[cA.load,D3.cell];rfl
 have l31:cE PG h' (loadAt cA (pT r3 1))=some (.int .u64 (s1:Int)):=by rw[cA.load,D3.cell];rfl
 have nilN:∀{h'':PH} {x y:Operand} {c:Nat},cE PG h'' (kB .eql dG x y (pT c 0) (.pointer none))=some (.bool false):=aHd dG.und;have K':nJ h':=hK.ext E';have nF:∀{F:List Nat},dZ h9 F->r7∉F:=λf hm=>k79 (f _ hm);have back:∀{F:List Nat},dZ h' F->dZ h9 F:=λf y hy=>by
  cases e:h9 y with
  | none=>rfl
  | some ob=>
   by_cases hy7:y=r7
   ·exact absurd (f y hy) (by rw[hy7];rcases hc with⟨-,B⟩|⟨-,_,_,B,-⟩|⟨-,_,_,_,B,-⟩<;>exact B.known)
   ·have:=u' y ob e (by simpa using hy7);rw[f y hy] at this;cases this
 rcases hc with⟨rfl,B⟩|⟨rfl,c0,F0,B,A0,f0⟩|⟨rfl,c0,c1,F,B,T,f⟩
 ·have g:(((0:Nat):Int)<2)=True:=eq_true (by decide);simp only[g,show((0:Nat):Int)=0 from rfl,i0,l10,l30,cG,reduceIte,cT,Nat.reduceAdd];refine aOt K' 0 ha hs0 (λhb=>absurd hb (by omega)) λ_ h10 c F A f u10=>?_;have f:=back f;simp only[j0,cG,reduceIte,cT,Nat.reduceAdd];refine dG.put (B.ext u10) (o:=0) (by show 0<2;decide) rfl λh11 B11 u11=>?_;have ei:IntKind.i64.wrap ((0:Int)+1)=((1:Nat):Int):=rfl;have lq:cE PG h11 (loadAt dG (pT r7 0))=some (pT c 0):=by rw[dG.load,B11.cell];rfl
  simp only[j0,lq,nilN,cG,reduceIte,cT,Nat.reduceAdd];simp only[ei,cG,reduceIte,cT,Nat.reduceAdd];exact⟨⟨1,rfl,(u'.trans u10.upd).trans u11,.inr (.inl ⟨rfl,c,F,B11,(iF.good _ _).upd A u11 (λb hb=>by simp only[fU];rintro rfl;exact nF f hb),f⟩)⟩,by simp[gY,v6]⟩
 ·have g:(((1:Nat):Int)<2)=True:=eq_true (by decide);simp only[g,show((1:Nat):Int)=1 from rfl,i1,l11,l31,cG,reduceIte,cT,Nat.reduceAdd];refine aOt K' 1 hb hs1 (λhb=>absurd hb (by omega)) λ_ h10 c F A f u10=>?_;have d0:∀b∈F0,b∉F:=λb hb hm=>(iF.good _ _).known A0 b hb (f b hm);have f:=back f;simp only[j1,cG,reduceIte,cT,Nat.reduceAdd];refine dG.put (B.ext u10) (o:=1) (by show 1<2;decide) rfl λh11 B11 u11=>?_;have ei:IntKind.i64.wrap ((1:Int)+1)=((2:Nat):Int):=rfl;have lq:cE PG h11 (loadAt dG (pT r7 1))=some (pT c 0):=by rw[dG.load,B11.cell];rfl
  simp only[j1,lq,nilN,cG,reduceIte,cT,Nat.reduceAdd];simp only[ei,cG,reduceIte,cT,Nat.reduceAdd];have A08:=(iF.good _ _).upd ((iF.good _ _).ext A0 u10) u11 (λb hb=>by simp only[fU];rintro rfl;exact nF f0 hb);have A8:=(iF.good _ _).upd A u11 (λb hb=>by simp only[fU];rintro rfl;exact nF f hb);exact⟨⟨2,rfl,(u'.trans u10.upd).trans u11,.inr (.inr ⟨rfl,c0,c,F0++F,B11,eO.mk A08 A8 d0,λy hy=>by
   rcases jG.1 hy with hy|hy
   ·exact f0 y hy
   ·exact f y hy⟩)⟩,by simp[gY,v6]⟩
 ·have g:(((2:Nat):Int)<2)=False:=eq_false (by decide);simp only[g,cG,reduceIte,cT,Nat.reduceAdd];have gD:mA (DTw m d0 d1 bk mk [] Kk (Ch.new 0 a s0) (Ch.new 1 b s1) 1):=DTw.good _ _ _ _ _ _ _ _ _ _;have f7:∀y∈FD,y≠r7:=λy hy e=>by
   rcases fD y hy with hy|hy
   ·exact B7.known (e▸fBk y hy)
   ·exact(B7.ext u8).known (e▸hy)
  have HD':=gD.upd HD u' (λy hy hm=>by simp only[fU] at hm;exact f7 y hy hm);have W0:aI5 c0 c1 m d0 d1 bk mk Kk (Ch.new 0 a s0,Ch.new 1 b s1) [] 1 h' (F++FD):=eO.mk T HD' (λy hy hm=>gD.known HD y hm (f y hy));have N0:Now h h' (F++FD):=⟨E',λy hy=>by
   rcases jG.1 hy with hy|hy
   ·exact e9.none (f y hy)
   ·exact fD9 y hy⟩
  have n7:r7∉F++FD:=λhm=>by
   rcases jG.1 hm with hm|hm
   ·exact nF f hm
   ·exact f7 _ hm rfl
  have n5:r5∉F++FD:=λhm=>by
   rcases jG.1 hm with hm|hm
   ·exact(B5.ext e79).known (f _ hm)
   ·rcases fD _ hm with hy|hy
    ·exact B5.known (fBk _ hy)
    ·exact(B5.ext u8).known hy
  refine⟨λvs h2=>∃(j:Nat) (A:List Tx) (n:Nat) (F':List Nat),j≤l.length∧vs=[v,pT r5 0,pT r7 0,pT m 0,.int .i64 (j:Int)]∧n≤j+1∧Now h h2 F'∧aI5 c0 c1 m d0 d1 bk mk Kk (aH6 (Ch.new 0 a s0,Ch.new 1 b s1) (l.take j)) A n h2 F'∧aH3 (aH6 (Ch.new 0 a s0,Ch.new 1 b s1) (l.take j)) j∧Bx h2 r7 (arC c0 c1)∧r7∉F'∧Bx h2 r5 [.pointer none,.pointer none]∧r5∉F',gY l.length 4,⟨0,[],1,F++FD,by omega,rfl,by omega,N0,W0,aH3.new hs0 hs1,B,n7,D5,n5⟩,?_⟩;rintro ρ2 h2 ⟨j,A,n,F',hj,hvs2,hn,N,W,M,X7,m7,X5,m5⟩;simp only[iJ,iV,kW,and_true] at hvs2;obtain⟨w0,w1,w2,w3,w4⟩:=hvs2;rw[w0,w1,w2,w3,w4];by_cases hlt:j<l.length
  ·have hx:l[j]? =some l[j]:=lU hlt;have hm:=rA hx;refine aWQ hK N W M hn X7 m7 S hl hx (w _ hm) (hd _ hm) λh3 F3 A3 W3 s3=>?_;obtain⟨Y7,m7'⟩:=zC X7 m7 s3;obtain⟨Y5,m5'⟩:=zC X5 m5 s3;have er:aH6 (Ch.new 0 a s0,Ch.new 1 b s1) (l.take (j+1))=aGT (aH6 (Ch.new 0 a s0,Ch.new 1 b s1) (l.take j)) l[j]:=by
    rw[zLT,hx];exact aTq _ _ _
   exact⟨⟨j+1,A3,n+1,F3,by omega,rfl,by omega,N.step s3,by rw[er];exact W3,by rw[er];exact M.act (w _ hm),Y7,m7',Y5,m5'⟩,by simp[gY,w4];omega⟩
  ·unfold yD;have g2:((j:Int)<(l.length:Int))=False:=eq_false (by omega);have lc:cE PG h2 (loadAt dB (pT r7 0))=some (arV c0 c1):=dB.agg X7 (by show 0+2≤2;decide);simp only[aN6 S,g2,lc,cG,reduceIte,cT,Nat.reduceAdd];refine dB.put (vs:=arC c0 c1) X5 (o:=0) rfl (by show 0+2≤2;decide) (aOI c0 c1) λh3 X3 u3=>?_;have l3:cE PG h3 (loadAt dB (pT r5 0))=some (arV c0 c1):=dB.agg X3 (by show 0+2≤2;decide);simp only[l3,cG,reduceIte,cT,Nat.reduceAdd];have ej:l.take j=l:=mU (by omega);have ejl:j=l.length:=by omega
   rw[ej] at W M;rw[ejl] at M;refine hk h3 c0 c1 m d0 d1 bk mk Kk A n F' ((aI5.good _ _ _ _ _ _ _ _ _ _ _).upd W u3 (λy hy hm=>by simp only[fU] at hm;exact m5 (hm▸hy))) N.fr (N.ext.fresh u3 (dZ.one k5)) M
theorem b55:cV PG (build eK #[(0,(Value.int IntKind.u64 5)),(1,(Value.int IntKind.u64 5))])=some (uY 5 5):=by kernel_rfl
theorem b11:cV PG (build eK #[(0,(Value.int IntKind.u64 1)),(1,(Value.int IntKind.u64 1))])=some (uY 1 1):=by kernel_rfl
theorem aZY:cV PG (build cH #[(2,(Value.int IntKind.u64 9))])=some y1.v:=by kernel_rfl
theorem aZR:cV PG (build cH #[(0,(Value.int IntKind.i64 5))])=some y2.v:=by kernel_rfl
theorem aVN(x y:jK):jM PG (buildSlice iK 2 #[(0,x.v),(1,y.v)])=some (.cells (x.cells++y.cells).toArray cH,λr=>pure (.slice (some ⟨r,0,none⟩) 2 2)):=by kernel_rfl
theorem aZP:cV PG (build aR #[(1,(Value.int IntKind.u64 1)),(2,(Value.int IntKind.u64 9))])=some yp.v:=by kernel_rfl
theorem aZB:cV PG (build eY #[(1,(Value.int IntKind.i64 1)),(0,yp.v)])=some (It.val ⟨yp,1⟩):=by kernel_rfl
theorem aTr(x:It):jM PG (buildSlice jD 1 #[(0,x.val)])=some (.cells x.cells.toArray eY,λr=>pure (.slice (some ⟨r,0,none⟩) 1 1)):=by kernel_rfl
theorem aXP:cV PG (build cI #[(0,(Value.int IntKind.i64 1)),(1,(Value.int IntKind.i64 1)),(2,(Value.int IntKind.u64 6))])=some (uA 1 6).v:=by kernel_rfl
theorem aSf{r j:Nat}(hj:j<2):cV PG (indexAt dA (pT r 0) (.int .i64 (j:Int)))=some (pT r j):=by
 have ix:=uZ (P:=PG) (t:=dA) (b:=r) (o:=0) (k:=.i64) (j:=(j:Int)) dA.und cX.info cX.size (by omega) (by omega);rw[ix,qF,fJ,zL7]
theorem aSj{hs:List Int}(R:nW hs []):hs=[]:=by
 have:=R.len;simpa using this
theorem slc{h:PH}{e:TypeId}{n:Nat}{v:Value}{rows:List (List Value)}{G:List Nat}(O:eD h e n v rows G):eP v=true:=by
 obtain⟨a,m,c,rfl⟩:=slv O;rfl
theorem aIU{h:PH}{v:Value}{l:List gF}{G:List Nat}(O:eD h cI 8 v (l.map gF.cells) G){t':TypeId}:cV PG (Builtin.len_ #[cX] t' #[v])=some (.int .i64 (l.length:Int)):=by
 have:=O.slR.len (t':=t') cX.und;rw[iU] at this;exact this
theorem aSd{h:PH}(hK:nJ h){k:cD}(hk:∀h',dD h h'->k (.bool true) h'):aT PG aCM #[] h k:=by
 apply aBG.call;unfold aBG;simp only[b55,b11,aZY,aZR,aVN,cG,reduceIte,cT,Nat.reduceAdd];intro r5 hr5;refine fL ?_
 try rw[cZ]
 have u1:dD h (h.set r5 (.cells (y1.cells++y2.cells).toArray cH)):=cU.new hr5;have S1:fR (h.set r5 (.cells (y1.cells++y2.cells).toArray cH)) 9 (.slice (some ⟨r5,0,none⟩) 2 2) ([y1,y2].map jK.cells):=(eD.lit (n:=2) (jK.rows _) dM (by simp) (by decide) (by simp)).slR;generalize h.set r5 (.cells (y1.cells++y2.cells).toArray cH)=h1 at *;refine aOx (a:=5) (b:=5) (s0:=1) (s1:=1) (hK.ext u1) (by decide) (by decide) (by decide) (by decide) (by decide) (by decide) S1 (λx hx=>?_) (by decide) (λx hx=>?_) λh2 c0 c1 m d0 d1 bk mm K A n F W f2 u2 M=>?_
 ·simp only[gL,kJ,or_false] at hx;rcases hx with rfl|rfl<;>exact⟨by decide,⟨by decide,by decide,by decide,by decide⟩⟩
 ·simp only[gL,kJ,or_false] at hx;rcases hx with rfl|rfl<;>decide
 have er:aH6 (Ch.new 0 5 1,Ch.new 1 5 1) [y1,y2]=(ya2,yb):=aY2;rw[er] at W M;have e2:=u1.trans u2;have K2:=hK.ext e2;simp only[cG,reduceIte,cT,Nat.reduceAdd];intro r14 hr14
 try rw[cZ]
 refine dB.fill (vs:=arC c0 c1) hr14 rfl (aOI c0 c1) λh3 B3 u3=>?_;simp only[aZP,aZB,aTr,cG,reduceIte,cT,Nat.reduceAdd];intro r21 hr21;refine fL ?_
 try rw[cZ]
 have u4:dD h3 (h3.set r21 (.cells (It.cells ⟨yp,1⟩).toArray eY)):=cU.new hr21;have S4:fR (h3.set r21 (.cells (It.cells ⟨yp,1⟩).toArray eY)) 5 (.slice (some ⟨r21,0,none⟩) 1 1) ([(⟨yp,1⟩:It)].map It.cells):=(eD.lit (n:=1) (It.rows _) dM (by simp) (by decide) (by simp)).slR;generalize h3.set r21 (.cells (It.cells ⟨yp,1⟩).toArray eY)=h4 at *;have lc:cE PG h4 (loadAt dB (pT r14 0))=some (arV c0 c1):=dB.agg (B3.ext u4) (by show 0+2≤2;decide);have e24:=u3.trans u4;obtain⟨Fa,HT,-,-⟩:=eO.left (DTw.good _ _ _ _ _ _ _ _ _ _) W;simp only[lc,cG,reduceIte,cT,Nat.reduceAdd];refine aL2 (K2.ext e24) ((aCq.good _ _ _).ext HT e24) S4 (λi hi=>?_) (by decide) 9 λh5 hs0 hs1 v0 v1 G0 G1 R0 R1 O0 O1 _ _ u5=>?_
 ·simp only[fU] at hi;subst hi;exact⟨by decide,by decide,by decide,by decide⟩
 have p0:oL (ya2,yb) hs0 9 ([(⟨yp,1⟩:It)].map It.p) 0=([],false):=aWg hs0;have p1:oL (ya2,yb) hs1 9 ([(⟨yp,1⟩:It)].map It.p) 1=([uA 1 6,ym],false):=aW5 (aSj R1);rw[p0] at O0;rw[p1] at O1;intro r28 hr28
 try rw[cZ]
 refine dA.fill (vs:=[v0,v1]) hr28 rfl (λu hu=>by
  simp only[gL,kJ,or_false] at hu;rcases hu with rfl|rfl
  ·exact slc O0
  ·exact slc O1) λh6 B6 u6=>?_
 have S6:=(O1.ext u6).slR;have t0:cV PG (indexAt dA (pT r28 0) (.int .i64 0))=some (pT r28 0):=aSf (j:=0) (by decide);have t1:cV PG (indexAt dA (pT r28 0) (.int .i64 1))=some (pT r28 1):=aSf (j:=1) (by decide);have l0:cE PG h6 (loadAt cX (pT r28 0))=some v0:=by rw[cX.load,B6.cell];rfl
 have l1:cE PG h6 (loadAt cX (pT r28 1))=some v1:=by rw[cX.load,B6.cell];rfl
 obtain⟨a0,i0,j0⟩:=S6.msg (k:=.i64) (j:=0) (m:=uA 1 6) (by decide) rfl;obtain⟨b,o,q1,q2,-⟩:=S6.fields cX.und cI.info cI.size (k:=.i64) (j:=1) (r:=ym.cells) rfl;have f0:cE PG h6 (loadAt bT (pT b o))=some (.int .i64 2):=by rw[bT.load];exact q2 0 _ rfl
 have q1:cV PG (indexAt cX v1 (.int .i64 1))=some (pT b o):=q1;have e0:=λx y=>gF.eql (h:=h6) (x:=x) (y:=y) (uA 1 6) (uA 1 6);have dd:decide (uA 1 6=uA 1 6)=true:=decide_eq_true rfl;have z0:(((([]:List gF).length:Nat):Int)==0)=true:=rfl;have z1:((([uA 1 6,ym].length:Nat):Int)==2)=true:=rfl;have z2:((2:Int)==2)=true:=rfl;rw[dd] at e0;have mv:(uA 1 6).v= .agg (uA 1 6).cells.toArray:=rfl;simp only[t0,t1,l0,l1,aIU O0,aIU O1,iA,z0,z1,z2,i0,j0,aXP,mv,e0,q1,cI.f0,f0,cG,reduceIte,cT,Nat.reduceAdd];exact hk h6 ((e2.trans e24).trans (u5.trans u6))
theorem aVF{h:PH}{s0 s1:Nat}{v:Value}{l:List jK}(S:fR h 9 v (l.map jK.cells)){x:Value}{li:List It}(S2:fR h 5 x (li.map It.cells)){k:cD}(hk:∀h' b,(b=true->s0≠0∧s1≠0∧l.length≤50∧li.length≤60∧∀x∈l,x.d.length≤2000)->dD h h'->k (.bool b) h'):aT PG aDj #[uY s0 s1,v,x] h k:=by
 apply wK.call;unfold wK;intro r1 hr1
 try rw[cZ]
 have u1:dD h (h.set r1 (.cells (Value.cells (uY s0 s1)) eK)):=cU.new hr1;have B1:Bx (h.set r1 (.cells (Value.cells (uY s0 s1)) eK)) r1 (u2c s0 s1):=Bx.new;generalize h.set r1 (.cells (Value.cells (uY s0 s1)) eK)=h1 at *;have i0:cV PG (indexAt eK (pT r1 0) (.int .i64 0))=some (pT r1 0):=aNs (i:=0) (by decide);have i1:cV PG (indexAt eK (pT r1 0) (.int .i64 1))=some (pT r1 1):=by have:=aNs (r:=r1) (o:=0) (i:=1) (by decide);rw[fJ] at this;exact this
 have l0:cE PG h1 (loadAt cA (pT r1 0))=some (.int .u64 (s0:Int)):=by rw[cA.load,B1.cell];rfl
 have l1:cE PG h1 (loadAt cA (pT r1 1))=some (.int .u64 (s1:Int)):=by rw[cA.load,B1.cell];rfl
 have ll:=aN6 S;have no:k (.bool false) h1:=hk h1 false (λe=>by cases e) u1;by_cases z0:s0=0
 ·have q:((s0:Int)==0)=true:=by rw[z0];rfl
  simp only[i0,l0,iA,q,cG,reduceIte,cT,Nat.reduceAdd];exact no
 have q0:((s0:Int)==0)=false:=by rw[beq_eq_false_iff_ne];omega
 by_cases z1:s1=0
 ·have q:((s1:Int)==0)=true:=by rw[z1];rfl
  simp only[i0,l0,i1,l1,iA,q0,q,cG,reduceIte,cT,Nat.reduceAdd];exact no
 have q1:((s1:Int)==0)=false:=by rw[beq_eq_false_iff_ne];omega
 by_cases z2:50<l.length
 ·have g:((50:Int)<(l.length:Int))=True:=eq_true (by omega);simp only[i0,l0,i1,l1,iA,q0,q1,ll,g,cG,reduceIte,cT,Nat.reduceAdd];exact no
 have g:((50:Int)<(l.length:Int))=False:=eq_false (by omega);have li2:cV PG (Builtin.len_ #[jD] bT #[x])=some (.int .i64 (li.length:Int)):=by
  have:=S2.len (t':=bT) jD.und;rw[iU] at this;exact this
 by_cases z3:60<li.length
 ·have g3:((60:Int)<(li.length:Int))=True:=eq_true (by omega);simp only[i0,l0,i1,l1,iA,q0,q1,ll,g,li2,g3,cG,reduceIte,cT,Nat.reduceAdd];exact no
 have g3:((60:Int)<(li.length:Int))=False:=eq_false (by omega);simp only[i0,l0,i1,l1,iA,q0,q1,ll,g,li2,g3,cG,reduceIte,cT,Nat.reduceAdd];refine⟨λvs h'=>∃i:Nat,i≤l.length∧vs=[v,x,.int .i64 (i:Int)]∧h'=h1∧∀x∈l.take i,x.d.length≤2000,gY l.length 2,⟨0,by omega,rfl,rfl,by simp⟩,?_⟩;rintro ρ h' ⟨i,hi,hvs,rfl,hall⟩;simp only[iJ,iV,kW,and_true] at hvs;obtain⟨v0,v1,v2⟩:=hvs;unfold aGd;rw[v0,v1,v2];by_cases hlt:i<l.length
 ·have g1:((i:Int)<(l.length:Int))=True:=eq_true (by omega);have gi:=qG (i:=i) (by omega);obtain⟨y,hx⟩:∃y,l[i]? =some y:=⟨_,lU hlt⟩;obtain⟨b,o,a1,a2,a3,-⟩:=(S.ext u1).tac hx;have ld:cV PG (Builtin.len_ #[bR] bT #[.string (tx y.d)])=some (.int .i64 (y.d.length:Int)):=by rw[lQ bR.und,iB]
  have lp:cV PG (Builtin.len_ #[bR] bT #[.string y.p.d])=some (.int .i64 (y.p.d.size:Int)):=lQ bR.und;by_cases y1:2000<y.d.length
  ·have g2:((2000:Int)<(y.d.length:Int))=True:=eq_true (by omega);simp only[ll,g1,a1,cH.f3,bR.load,a2,ld,g2,cG,reduceIte,cT,Nat.reduceAdd];exact no
  have g2:((2000:Int)<(y.d.length:Int))=False:=eq_false (by omega);by_cases y2:300<y.p.d.size
  ·have g3:((300:Int)<(y.p.d.size:Int))=True:=eq_true (by omega);simp only[ll,g1,a1,cH.f3,cH.f4,aR.f3,Nat.add_assoc,Nat.reduceAdd,bR.load,a2,a3,ld,lp,g2,g3,cG,reduceIte,cT,Nat.reduceAdd];exact no
  have g3:((300:Int)<(y.p.d.size:Int))=False:=eq_false (by omega);simp only[ll,g1,a1,cH.f3,cH.f4,aR.f3,Nat.add_assoc,Nat.reduceAdd,bR.load,a2,a3,ld,lp,g2,g3,gi,cG,reduceIte,cT,Nat.reduceAdd];refine⟨⟨i+1,by omega,rfl,by first|rfl|trivial,λz hz=>?_⟩,by simp[gY,v2];omega⟩;rw[zLT,hx] at hz;rcases jG.1 hz with hz|hz
  ·exact hall z hz
  ·simp only[Option.toList_some,fU] at hz;subst hz;omega
 ·have g1:((i:Int)<(l.length:Int))=False:=eq_false (by omega);simp only[ll,g1,cG,reduceIte,cT,Nat.reduceAdd];rw[mU (by omega)] at hall;refine⟨λvs hh=>∃j:Nat,j≤li.length∧vs=[x,.int .i64 (j:Int)]∧hh=h',gY li.length 1,⟨0,by omega,rfl,rfl⟩,?_⟩;rintro ρ2 h2 ⟨j,hj,hvs2,rfl⟩;simp only[iJ,iV,kW,and_true] at hvs2;obtain⟨w0,w1⟩:=hvs2;unfold aGc;rw[w0,w1];by_cases hlt2:j<li.length
  ·have g4:((j:Int)<(li.length:Int))=True:=eq_true (by omega);have gj:=qG (i:=j) (by omega);obtain⟨b,o,a1,a2,-⟩:=(S2.ext u1).fields jD.und eY.info eY.size (k:=.i64) (j:=j) (r:=li[j].cells) (by rw[wN,lU hlt2];rfl);have c3:cE PG h2 (loadAt bR (pT b (o+3)))=some (.string li[j].p.d):=by rw[bR.load];exact a2 3 _ rfl
   have lp:cV PG (Builtin.len_ #[bR] bT #[.string li[j].p.d])=some (.int .i64 (li[j].p.d.size:Int)):=lQ bR.und;by_cases y2:300<li[j].p.d.size
   ·have g5:((300:Int)<(li[j].p.d.size:Int))=True:=eq_true (by omega);simp only[li2,g4,a1,eY.f0,aR.f3,c3,lp,g5,cG,reduceIte,cT,Nat.reduceAdd];exact no
   ·have g5:((300:Int)<(li[j].p.d.size:Int))=False:=eq_false (by omega);simp only[li2,g4,a1,eY.f0,aR.f3,c3,lp,g5,gj,cG,reduceIte,cT,Nat.reduceAdd];exact⟨⟨j+1,by omega,rfl,by first|rfl|trivial⟩,by simp[gY,w1];omega⟩
  ·have g4:((j:Int)<(li.length:Int))=False:=eq_false (by omega);simp only[li2,g4,cG,reduceIte,cT,Nat.reduceAdd];exact hk _ true (λ_=>⟨z0,z1,by omega,by omega,hall⟩) u1
theorem aNI{s:Ch×Ch}{known:List Int}{batch:Int}{ps:List Pk}{n:Nat}{k:Int}:(oL s known batch (ps.take n) k).1 <+:(oL s known batch ps k).1:=by
 have e:ps=ps.take n++ps.drop n:=(aMk n ps).symm;have:(oL s known batch (ps.take n++ps.drop n) k).1=(aEc known batch (oL s known batch (ps.take n) k) (aN8 k (aKb s (ps.drop n)))).1:=by
  unfold oL aKb aN8;rw[List.filterMap_append,aHE,aQi]
 rw[←e] at this;rw[this];exact aQC _ _ _ _
theorem aMH{s:Ch×Ch}{known:List Int}{b c:Int}(h:b≤c){ps:List Pk}{k:Int}:(oL s known b ps k).1 <+:(oL s known c ps k).1:=(aHr.puts h _ ⟨List.prefix_refl _,λ_=>rfl⟩).1
theorem aU8{α:Type}{a b:List α}(h:a <+:b):b.take a.length=a:=by
 obtain⟨t,rfl⟩:=h;simp
theorem aP5{h:PH}{v w:Value}{a b:List gF}{Ga Gb:List Nat}(Oa:eD h cI 8 v (a.map gF.cells) Ga)(Ob:eD h cI 8 w (b.map gF.cells) Gb)(hp:a <+:b):∃w',cV PG (Instr.sliceAt cX w none (some (.int .i64 (a.length:Int))) none)=some w'∧fR h 8 w' (a.map gF.cells):=by
 have hl:=hp.length_le;obtain⟨w',h1,h2,-⟩:=Ob.slR.cut (lo:=none) (hi:=some (.int .i64 (a.length:Int))) (l:=0) (m:=a.length) cX.und cI.info cI.size (.inl ⟨rfl,rfl⟩) (.inr ⟨.i64,rfl⟩) (Nat.zero_le _) (by rw[iU];exact hl);refine⟨w',h1,?_⟩;rw[zLb,←aH0,aU8 hp] at h2;exact h2
theorem aPS{h:PH}(hK:nJ h){a b s0 s1:Nat}(ha:a<18446744073709551616)(hb:b<18446744073709551616)(hs0:s0<18446744073709551616)(hs1:s1<18446744073709551616){v:Value}{l:List jK}(S:fR h 9 v (l.map jK.cells))(w:∀x∈l,x.wf){y:Value}{li:List It}(S2:fR h 5 y (li.map It.cells))(w2:∀i∈li,i.p.wf){batch n:Int}{k:cD}(hk:∀h',dD h h'->k (.bool true) h'):
  aT PG yZ #[uY a b,uY s0 s1,v,y,.int .i64 batch,.int .i64 n] h k:=by
 apply oE.call;unfold oE;intro r1 hr1
 try rw[cZ]
 have u1:dD h (h.set r1 (.cells (Value.cells (uY a b)) eK)):=cU.new hr1;have B1:Bx (h.set r1 (.cells (Value.cells (uY a b)) eK)) r1 (u2c a b):=Bx.new;generalize h.set r1 (.cells (Value.cells (uY a b)) eK)=h1 at *;intro r3 hr3
 try rw[cZ]
 have u3:dD h1 (h1.set r3 (.cells (Value.cells (uY s0 s1)) eK)):=cU.new hr3;have B3:Bx (h1.set r3 (.cells (Value.cells (uY s0 s1)) eK)) r3 (u2c s0 s1):=Bx.new;have C1:=B1.ext u3;generalize h1.set r3 (.cells (Value.cells (uY s0 s1)) eK)=h3 at *;have e3:=u1.trans u3;have la:∀{h'':PH},dD h3 h''->cE PG h'' (loadAt eK (pT r1 0))=some (uY a b):=λv=>eK.agg (C1.ext v) (by show 0+2≤2;decide);have ls:∀{h'':PH},dD h3 h''->cE PG h'' (loadAt eK (pT r3 0))=some (uY s0 s1):=λv=>eK.agg (B3.ext v) (by show 0+2≤2;decide);refine aSd (hK.ext e3) λh4 u4=>?_;simp only[ls u4,cG,reduceIte,cT,Nat.reduceAdd];refine aVF (S.ext (e3.trans u4)) (S2.ext (e3.trans u4)) λh5 bb hbb u5=>?_;have e35:=u4.trans u5;have e5:=e3.trans e35;cases bb with
 | false=>
  simp only[cG,reduceIte,cT,Nat.reduceAdd];exact hk h5 e5
 | true=>
  obtain⟨z0,z1,hl,hli,hdat⟩:=hbb rfl;have li2:cV PG (Builtin.len_ #[jD] bT #[y])=some (.int .i64 (li.length:Int)):=by
   have:=S2.len (t':=bT) jD.und;rw[iU] at this;exact this
  by_cases g1:batch<0
  ·simp only[eq_true g1,cG,reduceIte,cT,Nat.reduceAdd];exact hk h5 e5
  by_cases g2:200<batch
  ·simp only[eq_false g1,eq_true g2,cG,reduceIte,cT,Nat.reduceAdd];exact hk h5 e5
  by_cases g3:n<0
  ·simp only[eq_false g1,eq_false g2,eq_true g3,cG,reduceIte,cT,Nat.reduceAdd];exact hk h5 e5
  by_cases g4:(li.length:Int)<n
  ·simp only[eq_false g1,eq_false g2,eq_false g3,li2,eq_true g4,cG,reduceIte,cT,Nat.reduceAdd];exact hk h5 e5
  simp only[eq_false g1,eq_false g2,eq_false g3,li2,eq_false g4,la e35,ls e35,cG,reduceIte,cT,Nat.reduceAdd];have S2n:∃y',cV PG (Instr.sliceAt jD y none (some (.int .i64 n)) none)=some y'∧fR h 5 y' ((li.take n.toNat).map It.cells):=by
   obtain⟨y',q1,q2,-⟩:=S2.cut (lo:=none) (hi:=some (.int .i64 n)) (l:=0) (m:=n.toNat) jD.und eY.info eY.size (.inl ⟨rfl,rfl⟩) (.inr ⟨.i64,by rw[Int.toNat_of_nonneg (by omega)]⟩) (Nat.zero_le _) (by rw[iU];omega);refine⟨y',q1,?_⟩;rw[zLb,←aH0] at q2;exact q2
  obtain⟨y',sl,S3⟩:=S2n;refine aOx (hK.ext e5) ha hb hs0 hs1 z0 z1 (S.ext e5) w hl hdat λh6 c0 c1 m d0 d1 bk mm K A nn F W f6 u6 M=>?_;have K5:=hK.ext e5;generalize hs:aH6 (Ch.new 0 a s0,Ch.new 1 b s1) l=s at *;simp only[cG,reduceIte,cT,Nat.reduceAdd];intro r58 hr58
  try rw[cZ]
  refine dB.fill (vs:=arC c0 c1) hr58 rfl (aOI c0 c1) λh7 B7 u7=>?_;have lc:∀{h':PH},dD h7 h'->cE PG h' (loadAt dB (pT r58 0))=some (arV c0 c1):=λu=>dB.agg (B7.ext u) (by show 0+2≤2;decide);obtain⟨Fa,HT,-,-⟩:=eO.left (DTw.good _ _ _ _ _ _ _ _ _ _) W;have HT7:=(aCq.good _ _ _).ext HT u7;have e7:=(e5.trans u6).trans u7;simp only[lc cU.refl,sl,cG,reduceIte,cT,Nat.reduceAdd];refine aL2 (hK.ext e7) HT7 (S2.ext e7) w2 hli 400 λh8 p0 p1 a0 a1 A0 A1 R0 R1 P0 P1 _ _ u8=>?_;refine⟨lc u8,lc u8,?_⟩;refine aL2 (hK.ext (e7.trans u8)) ((aCq.good _ _ _).ext HT7 u8) (S2.ext (e7.trans u8)) w2 hli batch λh9 q0 q1 b0 b1 B0 B1' T0 T1 Q0 Q1 _ _ u9=>?_;refine⟨lc (u8.trans u9),?_⟩;refine aL2 (hK.ext ((e7.trans u8).trans u9)) ((aCq.good _ _ _).ext HT7 (u8.trans u9)) (S3.ext ((e7.trans u8).trans u9)) (λi hi=>w2 i (aJf hi)) (by rw[uX];omega) 400 λh10 t0 t1 x0 x1 X0 X1 V0 V1 Y0 Y1 _ _ u10=>?_;obtain rfl:q0=p0:=nW.uniq T0 R0;obtain rfl:q1=p1:=nW.uniq T1 R1;obtain rfl:t0=q0:=nW.uniq V0 R0;obtain rfl:t1=q1:=nW.uniq V1 R1;have f0:=aMH (s:=s) (known:=t0) (b:=batch) (c:=400) (by omega) (ps:=li.map It.p) (k:=0);have f1:=aMH (s:=s) (known:=t1) (b:=batch) (c:=400) (by omega) (ps:=li.map It.p) (k:=1);have g0':=aNI (s:=s) (known:=t0) (batch:=400) (ps:=li.map It.p) (n:=n.toNat) (k:=0);have g1':=aNI (s:=s) (known:=t1) (batch:=400) (ps:=li.map It.p) (n:=n.toNat) (k:=1);rw[←aH0] at g0' g1';generalize (oL s t0 400 (li.map It.p) 0).1=LA0 at *;generalize (oL s t1 400 (li.map It.p) 1).1=LA1 at *;generalize (oL s t0 batch (li.map It.p) 0).1=LB0 at *;generalize (oL s t1 batch (li.map It.p) 1).1=LB1 at *;generalize (oL s t0 400 ((li.take n.toNat).map It.p) 0).1=LX0 at *;generalize (oL s t1 400 ((li.take n.toNat).map It.p) 1).1=LX1 at *;have e10:=((e7.trans u8).trans u9).trans u10;intro r73 hr73
  try rw[cZ]
  have u11:dD h10 (h10.set r73 (.cells (dL PG dA) dA)):=cU.new hr73;have D73:Bx (h10.set r73 (.cells (dL PG dA) dA)) r73 [.slice none 0 0,.slice none 0 0]:=dA.zbox;generalize h10.set r73 (.cells (dL PG dA) dA)=h11 at *;intro r75 hr75
  try rw[cZ]
  have n35:=D73.apart hr75;have u12:dD h11 (h11.set r75 (.cells (dL PG dA) dA)):=cU.new hr75;have D75:Bx (h11.set r75 (.cells (dL PG dA) dA)) r75 [.slice none 0 0,.slice none 0 0]:=dA.zbox;have D73:=D73.ext u12;generalize h11.set r75 (.cells (dL PG dA) dA)=h12 at *;intro r77 hr77
  try rw[cZ]
  have n37:=D73.apart hr77;have n57:=D75.apart hr77;have u13:dD h12 (h12.set r77 (.cells (dL PG dA) dA)):=cU.new hr77;have D77:Bx (h12.set r77 (.cells (dL PG dA) dA)) r77 [.slice none 0 0,.slice none 0 0]:=dA.zbox;have D73:=D73.ext u13;have D75:=D75.ext u13;generalize h12.set r77 (.cells (dL PG dA) dA)=h13 at *;have k73:h10 r73=none:=hr73;have k75:h10 r75=none:=u11.none hr75;have k77:h10 r77=none:=(u11.trans u12).none hr77;have two:∀{u v:Value},eP u=true->eP v=true->∀z∈[u,v],eP z=true:=λhu hv z hz=>by
   simp only[gL,kJ,or_false] at hz;rcases hz with rfl|rfl<;>assumption
  refine dA.put (vs:=[a0,a1]) D73 (o:=0) rfl (by show 0+2≤2;decide) (two (slc P0) (slc P1)) λh14 E73 v14=>?_;refine dA.put (vs:=[b0,b1]) (D75.upd v14 (by simpa using n35.symm)) (o:=0) rfl (by show 0+2≤2;decide) (two (slc Q0) (slc Q1)) λh15 E75 v15=>?_;refine dA.put (vs:=[x0,x1]) ((D77.upd v14 (by simpa using n37.symm)).upd v15 (by simpa using n57.symm)) (o:=0) rfl (by show 0+2≤2;decide) (two (slc Y0) (slc Y1)) λh16 E77 v16=>?_;have E73:Bx h16 r73 [a0,a1]:=((E73:Bx h14 r73 [a0,a1]).upd v15 (by simpa using n35)).upd v16 (by simpa using n37);have E75:Bx h16 r75 [b0,b1]:=(E75:Bx h15 r75 [b0,b1]).upd v16 (by simpa using n57);have E77:Bx h16 r77 [x0,x1]:=E77;have e1016:dD h10 h16:=((((u11.trans u12).trans u13).fresh v14 (dZ.one k73)).fresh v15 (dZ.one k75)).fresh v16 (dZ.one k77);have e16:=e10.trans e1016;have pick:∀j,j<2->∃va vb vx LA LB LX GA GB GX,cE PG h16 (loadAt cX (pT r73 j))=some va∧cE PG h16 (loadAt cX (pT r75 j))=some vb∧cE PG h16 (loadAt cX (pT r77 j))=some vx∧eD h16 cI 8 va (LA.map gF.cells) GA∧eD h16 cI 8 vb (LB.map gF.cells) GB∧eD h16 cI 8 vx (LX.map gF.cells) GX∧LB <+:LA∧LX <+:LA:=λj hj=>by
   have:j=0∨j=1:=by omega
   rcases this with rfl|rfl
   ·exact⟨a0,b0,x0,LA0,LB0,LX0,_,_,_,by rw[cX.load,E73.cell];rfl,by rw[cX.load,E75.cell];rfl,by rw[cX.load,E77.cell];rfl,P0.ext ((u9.trans u10).trans e1016),Q0.ext (u10.trans e1016),Y0.ext e1016,f0,g0'⟩
   ·exact⟨a1,b1,x1,LA1,LB1,LX1,_,_,_,by rw[cX.load,E73.cell];rfl,by rw[cX.load,E75.cell];rfl,by rw[cX.load,E77.cell];rfl,P1.ext ((u9.trans u10).trans e1016),Q1.ext (u10.trans e1016),Y1.ext e1016,f1,g1'⟩
  refine⟨λvs h'=>∃j:Nat,j≤2∧vs=[pT r73 0,pT r75 0,pT r77 0,.int .i64 (j:Int)]∧h'=h16,gY 2 3,⟨0,by omega,rfl,rfl⟩,?_⟩;rintro ρ h' ⟨j,hj,hvs,eh⟩;simp only[iJ,iV,kW,and_true] at hvs;obtain⟨w0,w1,w2',w3⟩:=hvs;unfold aCi;rw[w0,w1,w2',w3,eh];by_cases hlt:j<2
  ·have g:((j:Int)<2)=True:=eq_true (by omega);have gj:=qG (i:=j) (by omega);obtain⟨va,vb,vx,LA,LB,LX,GA,GB,GX,q1,q2,q3,OA,OB,OX,fB,fX⟩:=pick j hlt;obtain⟨wb,sb1,sb2⟩:=aP5 OB OA fB;obtain⟨wx,sx1,sx2⟩:=aP5 OX OA fX;have gB:((LA.length:Int)<(LB.length:Int))=False:=eq_false (by have:=fB.length_le;omega);have gX:((LA.length:Int)<(LX.length:Int))=False:=eq_false (by have:=fX.length_le;omega);simp only[g,aSf hlt,q1,q2,q3,aIU OA,aIU OB,gB,sb1,cG,reduceIte,cT,Nat.reduceAdd];refine aNd OB.slR sb2 ?_;simp only[decide_true,aSf hlt,q1,q3,aIU OA,aIU OX,gX,sx1,cG,reduceIte,cT,Nat.reduceAdd];refine aNd OX.slR sx2 ?_;simp only[decide_true,gj,cG,reduceIte,cT,Nat.reduceAdd];exact⟨⟨j+1,by omega,rfl,by first|rfl|trivial⟩,by simp[gY,w3];omega⟩
  ·have g:((j:Int)<2)=False:=eq_false (by omega);simp only[g,cG,reduceIte,cT,Nat.reduceAdd];exact hk h16 e16
end Go.Proofs.YtppgkeodaejgcaaGreatDoor
namespace Go.Proofs.YtppgkeodaejgcaaGreatDoor
open Go Go.RowKit Go.ChangeShapes
theorem eY.cells:PG.cellsOf eY=5:=by kernel_rfl
section
variable{H:Type}{enc:TypeId×Value->H}{w:World}{spare:Nat->Bool}{held:Bool}
theorem It.rd{cs:List Value}(h:Rd enc PG w spare held eY cs):∃p:It,cs=p.cells∧p.p.wf:=by
 obtain⟨hl,hf⟩:=aK7 eY.und h;rw[eY.cells] at hl
 match cs,hl with
 | [c0,c1,c2,c3,c4],_=>
  have f0:Rd enc PG w spare held aR (([c0,c1,c2,c3,c4].drop 0).take (PG.cellsOf aR)):=hf 0 _ rfl;rw[aR.cells] at f0;have f1:Rd enc PG w spare held bT (([c0,c1,c2,c3,c4].drop 4).take (PG.cellsOf bT)):=hf 1 _ rfl;rw[bT.cells] at f1;obtain⟨n0,e0,w0⟩:=Pk.rd f0;obtain⟨n1,e1,-⟩:=aGD bT.und f1;simp only[zLa,zLb,zLc,List.take_zero,kW,and_true,Pk.cells] at e0 e1;obtain⟨rfl,rfl,rfl,rfl⟩:=e0;subst e1;exact⟨⟨n0,n1⟩,rfl,w0⟩
theorem It.rds:∀{rows:List (List Value)},(∀r∈rows,Rd enc PG w spare held eY r)->∃xs:List It,rows=xs.map It.cells∧∀x∈xs,x.p.wf
 | [],_=>⟨[],rfl,by simp⟩
 | r::rs,h=>by
  obtain⟨m,rfl,hm⟩:=It.rd (h r (by simp));obtain⟨xs,rfl,hx⟩:=It.rds (rows:=rs) (λx hx=>h x (by simp[hx]));exact⟨m::xs,rfl,λx hx'=>by rcases gL.1 hx' with rfl|h;exact hm;exact hx x h⟩
end
end Go.Proofs.YtppgkeodaejgcaaGreatDoor
namespace Go.Proofs.YtppgkeodaejgcaaGreatDoor
open Go
theorem aOO{h:PH}(hK:nJ h){v y:Value}{rows rows2:List (List Value)}(S:fR h 9 v rows)(S2:fR h 5 y rows2)(batch n:Int){a b s0 s1:Nat}(ha:a<18446744073709551616)(hb:b<18446744073709551616)(hs0:s0<18446744073709551616)(hs1:s1<18446744073709551616)(e:∃l:List jK,rows=l.map jK.cells∧∀x∈l,x.wf)(e2:∃l:List It,rows2=l.map It.cells∧∀x∈l,x.p.wf){k:cD}(hk:∀h',dD h h'->k (.bool true) h'):
  aT PG yZ #[uY a b,uY s0 s1,v,y,.int .i64 batch,.int .i64 n] h k:=by
 obtain⟨l,rfl,w⟩:=e;obtain⟨li,rfl,w2⟩:=e2;exact aPS hK ha hb hs0 hs1 S w S2 w2 hk
end Go.Proofs.YtppgkeodaejgcaaGreatDoor
namespace Go.Proofs.YtppgkeodaejgcaaGreatDoor.relayFront
open Go Go.ChangeShapes Go.WideShapes Go.ChangeAt Go.WideMaps Go.WideElems Go.RowKit
theorem own:ownKnob Tryz.prog.godebug=none:=by kernel_rfl
theorem lifted(os:Os)(started:os.Started)(H:Type)(enc:TypeId×Value->H):
  ReturnsInHanded {} Tryz.checked os 4 .any (λw args=>(Rows.relayFrontSpec.pre enc Tryz.prog Tryz.f4 [] false w args∧laidMetH Tryz.prog aNa w)∧sizedMet enc Tryz.prog Tryz.f4 (OpenSpec.ofChange Rows.relayFrontSpec) false w args)
   (Rows.relayFrontSpec.post enc Tryz.prog Tryz.f4 false true false false):=by
 refine returnsInHanded_of_change_and (C:=Tryz.checked) (X:=λw _=>laidMetH Tryz.prog aNa w) (λ_ _ _ hh h=>h.of_heap hh) own started (by kernel_rfl) Tryz.func4
  (ChangeSpec.witness_shaped (enc:=enc) (C:=Tryz.checked) (os:=os) (X:=λw _=>laidMetH Tryz.prog aNa w) false (World.doorLaid Tryz.prog 400 os) #[.agg #[.int .u64 0,.int .u64 0],.agg #[.int .u64 0,.int .u64 0],.slice none 0 0,.slice none 0 0,.int .i64 0,.int .i64 0] 8 rfl (World.shaped_of_RefB (by kernel_rfl) (by kernel_rfl)) (by kernel_rfl) (by kernel_rfl) (by kernel_rfl) (aVI os _)) ?_
 intro W base args ds gs before hval0 hW _ _ hL _;have hval:∀(j:Nat) t v,Tryz.f4.params[j]? =some t->args[j]? =some v->Value.okWide Tryz.prog W .any base t v:=hval0;have hW':=hW;obtain⟨p,q,hA0,hV,rfl,hfz,hnd⟩:=hW;have hA:DataW.TrodAll enc Tryz.prog W 0 (λ_=>true) true Tryz.f4.params.toList args.toList ds p:=hA0;rw[Tryz.params4] at hA hval;obtain⟨v0,vs0,d0,ds0,p0,q0,hargs,rfl,rfl,h0,r0⟩:=trodAll_cons hA;obtain⟨v1,vs1,d1,ds1,p1,q1,rfl,rfl,rfl,h1,r1⟩:=trodAll_cons r0;obtain⟨v2,vs2,d2,ds2,p2,q2,rfl,rfl,rfl,h2,r2⟩:=trodAll_cons r1;obtain⟨v3,vs3,d3,ds3,p3,q3,rfl,rfl,rfl,h3,r3⟩:=trodAll_cons r2;obtain⟨v4,vs4,d4,ds4,p4,q4,rfl,rfl,rfl,h4,r4⟩:=trodAll_cons r3;obtain⟨v5,vs5,d5,ds5,p5,q5,rfl,rfl,rfl,h5,r5⟩:=trodAll_cons r4;obtain⟨rfl,rfl,rfl⟩:=trodAll_nil r5;obtain rfl:args= #[v0,v1,v2,v3,v4,v5]:=by cases args;simp_all
 obtain⟨rfl,rfl⟩:=trodVars_none hV;obtain⟨x0,y0,rfl,m0,n0⟩:=aRb (hval 0 23 v0 rfl rfl) h0;obtain⟨x1,y1,rfl,m1,n1⟩:=aRb (hval 1 23 v1 rfl rfl) h1;obtain⟨rows2,s2,o2⟩:=aRo iK.und (by rw[cH.cells];decide) (hval 2 _ v2 rfl rfl) h2;rw[cH.cells] at s2;have e2:=jK.rds o2;obtain⟨rows3,s3,o3⟩:=aRo jD.und (by rw[eY.cells];decide) (hval 3 _ v3 rfl rfl) h3;rw[eY.cells] at s3;have e3:=It.rds o3;obtain⟨a4,rfl,rfl,rfl,w4⟩:=open_int Tryz.underlying3 (hval 4 3 v4 rfl rfl) h4;obtain⟨a5,rfl,rfl,rfl,w5⟩:=open_int Tryz.underlying3 (hval 5 3 v5 rfl rfl) h5;refine(aSQ (aOO (kOf hL) s2 s3 a4 a5 m0 n0 m1 n1 e2 e3 λh' hx=>⟨rfl,hx⟩)).mono λe W' ⟨he,hk⟩=>?_;subst he;exact⟨_,rfl,aP4 aX9 aXp (by rw[Tryz.params4];decide +kernel) Tryz.underlying4 (by kernel_rfl) rfl hW' hk rfl rfl rfl⟩
theorem j0:(Rows.relayFrontRow.wf (OpenSpec.ofChange Rows.relayFrontSpec))=true:=by kernel_rfl
theorem j1:(laidOutB Tryz.pinned.checked.prog)=true:=by kernel_rfl
theorem j2:(mapsRowed Tryz.pinned.checked.prog)=true:=by kernel_rfl
theorem j3:(Tryz.f4.params.all (Tryz.pinned.checked.prog.readableRec ·))=true:=by kernel_rfl
theorem j4:(namedTie Tryz.pinned.checked.prog Rows.relayFrontRow.named Rows.relayFrontSpec.vars)=true:=by kernel_rfl
theorem j5:((Rows.relayFrontRow.stops==[]))=true:=by kernel_rfl
theorem j6:((Tryz.pinned.checked.prog.stops==[]))=true:=by kernel_rfl
theorem j7:((Rows.relayFrontRow.knobs==[]))=true:=by kernel_rfl
theorem j8:((Tryz.pinned.checked.prog.stopKnobs==[]))=true:=by kernel_rfl
theorem j9:((Rows.relayFrontRow.inPlace==Tryz.pinned.checked.prog.inPlace 4))=true:=by kernel_rfl
theorem j10:((Rows.relayFrontRow.unfollowed==Tryz.pinned.checked.prog.unfollowed 4))=true:=by kernel_rfl
theorem j11:((Rows.relayFrontRow.recurses==Tryz.pinned.checked.prog.recurses 4))=true:=by kernel_rfl
theorem j12:((Rows.relayFrontRow.named==Tryz.pinned.checked.prog.varsNamed 4))=true:=by kernel_rfl
theorem j13:((Rows.relayFrontRow.maps==(Tryz.f4.params.toList++Rows.relayFrontSpec.plain.varTypes Tryz.pinned.checked.prog).any (Tryz.pinned.checked.prog.mapsRec ·)))=true:=by kernel_rfl
theorem j14:((Rows.relayFrontRow.ifaces==(Tryz.f4.params.toList++Rows.relayFrontSpec.plain.varTypes Tryz.pinned.checked.prog).any (Tryz.pinned.checked.prog.ifacesRec ·)))=true:=by kernel_rfl
theorem j15:((Rows.relayFrontRow.mapsOut==Tryz.pinned.checked.prog.mapsAmong Tryz.f4.resultTypes.toList))=true:=by kernel_rfl
theorem j16:((Rows.relayFrontRow.loops==(Tryz.f4.params.toList++Rows.relayFrontSpec.plain.varTypes Tryz.pinned.checked.prog).any (Tryz.pinned.checked.prog.loopsFrom ·)))=true:=by kernel_rfl
theorem j17:((Rows.relayFrontRow.wideKeys==(Tryz.f4.params.toList++Rows.relayFrontSpec.plain.varTypes Tryz.pinned.checked.prog++Tryz.f4.resultTypes.toList).any (Tryz.pinned.checked.prog.wideKeysFrom ·)))=true:=by kernel_rfl
theorem j18:(Rows.relayFrontSpec.vars.all (Tryz.pinned.checked.prog.varReadable ·))=true:=by kernel_rfl
theorem j19:(Tryz.f4.resultTypes.all (λt=>Tryz.pinned.checked.prog.readableRec t&&decide (t<Tryz.pinned.checked.prog.types.size)))=true:=by kernel_rfl
theorem j20:((Rows.relayFrontRow.ifacesOut==Tryz.f4.resultTypes.toList.any (Tryz.pinned.checked.prog.ifacesRec ·)))=true:=by kernel_rfl
theorem j21:((Rows.relayFrontRow.loopsOut==Tryz.f4.resultTypes.toList.any (Tryz.pinned.checked.prog.loopsFrom ·)))=true:=by kernel_rfl
theorem j22:((Rows.relayFrontRow.plainKeys==Tryz.pinned.checked.prog.plainKeys))=true:=by kernel_rfl
theorem j23:(Rows.relayFrontRow.shortTexts.isNone)=true:=by kernel_rfl
theorem j24:(Tryz.pinned.checked.prog.stopsHeard)=true:=by kernel_rfl
theorem j25:(Tryz.pinned.checked.prog.mayEnter)=true:=by kernel_rfl
theorem j26:((Rows.relayFrontRow.lifted==Tryz.pinned.checked.prog.liftsFinal))=true:=by kernel_rfl
theorem j27:((Tryz.pinned.checked.prog.make==some Rows.relayFrontRow.make))=true:=by kernel_rfl
theorem j28:((Rows.relayFrontRow.kinds==(if Rows.relayFrontRow.domain.isEmpty then [] else Tryz.f4.params.toList.map λt=>match Tryz.pinned.checked.prog.underlying t with|some (.int k)=>some k|_=>none)))=true:=by kernel_rfl
theorem j29:((Rows.relayFrontRow.pinned==Rows.relayFrontRow.pinnedBy))=true:=by kernel_rfl
theorem j30:((Rows.relayFrontRow.veiled==(Tryz.f4.params.toList++Rows.relayFrontSpec.plain.varTypes Tryz.pinned.checked.prog++Tryz.f4.resultTypes.toList).any (Tryz.pinned.checked.prog.veiledRec ·)))=true:=by kernel_rfl
theorem j31:(Rows.relayFrontRow.veiledFits Tryz.pinned.checked.prog Tryz.f4.params.toList (Tryz.f4.params.toList++Rows.relayFrontSpec.plain.varTypes Tryz.pinned.checked.prog++Tryz.f4.resultTypes.toList))=true:=by kernel_rfl
theorem closed:joinedFacts Tryz.pinned.checked.prog 4 Tryz.f4 Rows.relayFrontSpec Rows.relayFrontRow=true:=by
 unfold joinedFacts;simp only[yB];exact⟨⟨⟨⟨⟨⟨⟨⟨⟨⟨⟨⟨⟨⟨⟨⟨⟨⟨⟨⟨⟨⟨⟨⟨⟨⟨⟨⟨⟨⟨⟨j0,j1⟩,j2⟩,j3⟩,j4⟩,j5⟩,j6⟩,j7⟩,j8⟩,j9⟩,j10⟩,j11⟩,j12⟩,j13⟩,j14⟩,j15⟩,j16⟩,j17⟩,j18⟩,j19⟩,j20⟩,j21⟩,j22⟩,j23⟩,j24⟩,j25⟩,j26⟩,j27⟩,j28⟩,j29⟩,j30⟩,j31⟩
theorem over:Rows.relayFrontRow.holds Tryz.pinned (OpenSpec.ofChange Rows.relayFrontSpec):=
 OpenClaim.holds_of_wide 4 Tryz.f4 rfl rfl rfl rfl rfl rfl rfl ⟨rfl,rfl,rfl,rfl,rfl⟩ rfl rfl rfl rfl rfl (by kernel_rfl) Tryz.func4 closed
  (of_decide_eq_true (by kernel_rfl)) (by unfold Func.isWrapper;first|(rw[if_pos (by decide +kernel)];kernel_rfl)|(rw[if_neg (by decide +kernel)];exact⟨rfl,rfl⟩))
  (λos started H enc _=>lifted os started H enc)
theorem proved:Rows.RelayFrontCardSaid:=
 Claim7.holds_tied_plain_at .later [] [.data] true (true,"12e170d1944b94b951b0328fcf00c140d74f7b04ee2d5a4f0f8bea72198918bd") true
  over (λ_ h=>by cases h) (by kernel_rfl) (λ_ h=>by cases h) relayFront_row_tie rfl ⟨rfl,rfl⟩ (by kernel_rfl) rfl
  (λf fn hf hfn=>by
   obtain rfl:f=4:=aJn ((show Tryz.prog.funcNamed Rows.relayFrontRow.func=some 4 by kernel_rfl).symm.trans hf) |>.symm;obtain rfl:fn=Tryz.f4:=(aJn (Tryz.func4.symm.trans hfn)).symm;exact⟨by kernel_rfl,λj t ht=>by
    have hall:(Tryz.f4.params.toList.all λu=>!Tryz.prog.wantsStandIn u)=true:=by kernel_rfl
    have hm:t∈Tryz.f4.params.toList:=by simpa using Array.mem_of_getElem? ht
    exact(show Tryz.prog.wantsStandIn t=false by simpa using aDO.1 hall t hm)⟩)
  (by kernel_rfl)
#print axioms proved
end Go.Proofs.YtppgkeodaejgcaaGreatDoor.relayFront
