/- journal: the card of JournalHalts: once a call failed a journal is halted, and it and its disk stay. -/
import Derived.Test.YtiohehjhlghikaaGreatDoorJgNVC8
import Derived.Test.YtiohehjhlghikaaGreatDoorCards
import Derived.Test.YtiohehjhlghikaaGreatDoorTie
import Derived.WalkKit
import Derived.ProofKit
import Derived.Lay
import Derived.SevenTiedAt
set_option linter.all false
set_option maxRecDepth 100000
open Go.Instr (loadAt fieldAt indexAt extract buildSlice build)
namespace Go.Proofs.YtiohehjhlghikaaGreatDoor
section
open Go
def aJv(g:Int):∀(n:Nat) (st:gS) (acc:List (Int×Pk)),(jI g n st acc).1.length≤acc.length+n
 | 0,_,_=>mG _
 | n+1,st,acc=>by
  unfold jI;split
  ·have:=aJv g n (aAO g st).2 (acc++[(aAO g st).1]);rw[jO] at this;simp only[iP,kI] at this;omega
  ·show acc.length≤_;omega
def aGQ(g:Int):fC g (0,[])=([],((6:Int),[])):=by
 unfold fC;rw[aB0 (t:=[]) (c:=1) (by simp)];rfl
def aLr(g:Int)(b:UInt8)(t:Tx):fC g (0,b::t)=(if (jI g b.toNat (0,t) []).2.1=0 then(jI g b.toNat (0,t) []).1 else [],(jI g b.toNat (0,t) []).2):=by
 unfold fC;rw[oP (t:=b::t) (c:=1) (by simp)];have:lC ((b::t).take 1)=b.toNat:=by simp[lC]
 simp only;rw[this];rfl
def aP5{h:PH}(s:Tx)(g:Nat)(hs:s.length≤1000000){k:cF}
  (hk:∀h' vk vp Gk Gp,eJ h' aR 1 vk ((fC (g:Int) (0,s)).1.map kc) Gk->eJ h' bX 4 vp ((fC (g:Int) (0,s)).1.map pc) Gp->dZ h Gk->dZ h Gp->cZ h h'->((fC (g:Int) (0,s)).2.1=0->(fC (g:Int) (0,s)).2.2.length≤s.length∧(fC (g:Int) (0,s)).2.2=s.drop (s.length-(fC (g:Int) (0,s)).2.2.length))->
   k (.tuple #[vk,vp,.int .i64 (if (fC (g:Int) (0,s)).2.1=0 then((s.length-(fC (g:Int) (0,s)).2.2.length:Nat):Int) else 0),.int .i64 (fC (g:Int) (0,s)).2.1]) h'):bT PG yG #[.string (tx s),.int .i64 (g:Int)] h k:=by
 apply aBM.call;unfold aBM;cases s with
 | nil=>
  have q:decide (([]:Tx)=[])=true:=rfl;have e0:cD PG h (fK .eql aT (.tmp 15) (.const (.string {data:=#[]})) (.string (tx [])) (.string {data:=#[]}))=some (.bool true):=by
   have:=aFB (t:=aT) (h:=h) (x:=.tmp 15) (y:=.const (.string {data:=#[]})) (a:=[]) (b:=[]);exact this
  simp only[e0,cB,reduceIte,cJ,Nat.reduceAdd];have:=hk h (.slice none 0 0) (.slice none 0 0) [] [] (by rw[aGQ];exact eJ.nil) (by rw[aGQ];exact eJ.nil) (λb hb=>by cases hb) (λb hb=>by cases hb) cT.refl (by rw[aGQ];intro h;cases h);rw[aGQ] at this;exact this
 | cons b0 t=>
  have e0:cD PG h (fK .eql aT (.tmp 15) (.const (.string {data:=#[]})) (.string (tx (b0::t))) (.string {data:=#[]}))=some (.bool false):=by
   have:=aFB (t:=aT) (h:=h) (x:=.tmp 15) (y:=.const (.string {data:=#[]})) (a:=b0::t) (b:=[]);exact this
  simp only[e0,cB,reduceIte,cJ,Nat.reduceAdd];rw[aLr] at hk;obtain⟨T,hT⟩:∃T,jI (g:Int) b0.toNat (0,t) []=T:=⟨_,rfl⟩;rw[hT] at hk;have hb0:=b0.toNat_lt;have hTl:=aJv (g:Int) b0.toNat (0,t) [];rw[hT] at hTl;simp only[kI,iS] at hTl;simp only[iP] at hs;have bad:∀{h':PH} (e:Int),T.2.1=e->e≠0->cZ h h'->k (.tuple #[.slice none 0 0,.slice none 0 0,.int .i64 0,.int .i64 e]) h':=by
   intro h' e he hne w;have:=hk h' (.slice none 0 0) (.slice none 0 0) [] [] (by rw[if_neg (by rw[he];exact hne)];exact eJ.nil) (by rw[if_neg (by rw[he];exact hne)];exact eJ.nil) (λb hb=>by cases hb) (λb hb=>by cases hb) w (λh0=>absurd h0 (by show T.2.1≠0;rw[he];exact hne));simp only[he] at this;rw[if_neg hne] at this;exact this
  refine⟨λvs h'=>∃(i at':Nat) (acc:List (Int×Pk)) (vk vp:Value) (Gk Gp:List Nat),i≤b0.toNat∧at'≤t.length∧acc.length=i∧vs=[.string (tx (b0::t)),.int .i64 (g:Int),vk,vp,.int .i64 ((at'+1:Nat):Int),.int .i64 (i:Int)]∧eJ h' aR 1 vk (acc.map kc) Gk∧eJ h' bX 4 vp (acc.map pc) Gp∧dZ h Gk∧dZ h Gp∧(∀b∈Gk,b∉Gp)∧cZ h h'∧jI (g:Int) (b0.toNat-i) (0,t.drop at') acc=T,fN 256 5,⟨0,0,[],.slice none 0 0,.slice none 0 0,[],[],by omega,by omega,rfl,rfl,eJ.nil,eJ.nil,(λb hb=>by cases hb),(λb hb=>by cases hb),(λb hb=>by cases hb),cT.refl,by rw[Nat.sub_zero,zLb];exact hT⟩,?_⟩;rintro ρ h' ⟨i,at',acc,vk,vp,Gk,Gp,hi,hat,hacc,hvs,Ok,Op,fk,fp,dkp,w,hr⟩;simp only[hY,iZ,kP,and_true] at hvs;obtain⟨x0,x1,x8,x9,x10,x11⟩:=hvs;unfold aFL;rw[x0,x1,x8,x9,x10,x11];have i0:cC PG (Instr.index aT (.string (tx (b0::t))) (.int .i64 0))=some (.int .u8 b0.toNat):=nL (j:=0) aT.und rfl;have ll:(b0::t).length=t.length+1:=rfl;by_cases hlt:i<b0.toNat
  ·have g1:((i:Int)<(b0.toNat:Int))=True:=eq_true (by omega);have gi:=nP (i:=i) (by omega);obtain⟨n,hn⟩:∃n,b0.toNat-i=n+1:=⟨b0.toNat-i-1,by omega⟩;rw[hn,aUG _ _ _ _ rfl] at hr;by_cases ha:at'=t.length
   ·have g2:(((b0::t).length:Int)≤((at'+1:Nat):Int))=True:=eq_true (by rw[ll];omega);have ed:t.drop at'=[]:=aBA (by omega);rw[ed,aG6 _ _ _ _ (by rw[aOu];decide)] at hr;simp only[i0,aGS,g1,iO,g2,cB,reduceIte,cJ,Nat.reduceAdd];exact bad 6 (by rw[←hr];exact aOu (g:Int)) (by decide) w
   ·have g2:(((b0::t).length:Int)≤((at'+1:Nat):Int))=False:=eq_false (by rw[ll];omega);obtain⟨y,hy⟩:∃y,t[at']? =some y:=⟨_,kO (by omega)⟩;have ed:t.drop at'=y::t.drop (at'+1):=by
     rw[aAy (by omega)];have:t[at']=y:=by rw[kO (by omega)] at hy;simpa using hy
     rw[this]
    have hsd:((b0::t).drop (at'+2))=t.drop (at'+1):=by rw[zLa]
    have ga:IntKind.i64.wrap (((at'+1:Nat):Int)+1)=((at'+2:Nat):Int):=by rw[eI (by omega) (by omega)];omega
    have c1:cC PG (Instr.sliceAt aT (.string (tx (b0::t))) (some (.int .i64 ((at'+2:Nat):Int))) none none)=some (.string (tx (t.drop (at'+1)))):=by
     have:=kL (P:=PG) (t:=aT) (l:=b0::t) (i:=at'+2) (j:=(b0::t).length) (lo:=some (.int .i64 ((at'+2:Nat):Int))) (hi:=none) aT.und (.inr ⟨_,rfl⟩) (.inl ⟨rfl,rfl⟩) (by rw[ll];omega) (mG _);rw[this,zLJ,hsd]
    have iy:cC PG (Instr.index aT (.string (tx (b0::t))) (.int .i64 ((at'+1:Nat):Int)))=some (.int .u8 y.toNat):=nL (j:=at'+1) aT.und hy;have hy8:=y.toNat_lt;rw[ed,aS9] at hr;simp only[i0,aGS,g1,iO,g2,ga,c1,cB,reduceIte,cJ,Nat.reduceAdd];refine aTX (t.drop (at'+1)) (by rw[jC];omega) λh2 u2=>?_;simp only[cB,reduceIte,cJ,Nat.reduceAdd];intro r16 hr16
    try rw[cO]
    refine bX.fill (vs:=(oC (0,t.drop (at'+1))).1.cells) hr16 rfl (Pk.isC _) λh3 B3 u3=>?_;have e3:=(w.trans u2).trans u3;by_cases ce:(oC (0,t.drop (at'+1))).2.1=0
    ·have q0:((oC (0,t.drop (at'+1))).2.1 !=0)=false:=by rw[ce];rfl
     rcases aIA (t.drop (at'+1)) with⟨-,-,e2⟩|⟨-,-,-,e2⟩|⟨hle,-,eP⟩
     ·rw[ce] at e2;cases e2
     ·rw[ce] at e2;cases e2
     ·rw[jC] at hle;by_cases k1:(y.toNat:Int)<1
      ·have g3:((y.toNat:Int)<1)=True:=eq_true k1;rw[if_pos (.inl k1),eP,aG6 _ _ _ _ (by show(5:Int)≠0;decide)] at hr;simp only[dY,q0,iy,g3,cB,reduceIte,cJ,Nat.reduceAdd];exact bad 5 (by rw[←hr];rfl) (by decide) e3
      ·have g3:((y.toNat:Int)<1)=False:=eq_false k1;by_cases k2:(g:Int)<(y.toNat:Int)
       ·have g4:((g:Int)<(y.toNat:Int))=True:=eq_true k2;rw[if_pos (.inr k2),eP,aG6 _ _ _ _ (by show(5:Int)≠0;decide)] at hr;simp only[dY,q0,iy,g3,aGS,g4,cB,reduceIte,cJ,Nat.reduceAdd];exact bad 5 (by rw[←hr];rfl) (by decide) e3
       ·have g4:((g:Int)<(y.toNat:Int))=False:=eq_false k2;rw[if_neg (by omega)] at hr;simp only[dY,q0,iy,g3,aGS,g4,aVD,cB,reduceIte,cJ,Nat.reduceAdd];intro r47 hr47;refine gY ?_
        try rw[cO]
        have S4:hM (h3.set r47 (.cells #[.int .i64 (y.toNat:Int)] aR)) 1 (.slice (some ⟨r47,0,none⟩) 1 1) [[.int .i64 (y.toNat:Int)]]:=(eJ.lit (e:=aR) (size:=1) (rows:=[[.int .i64 (y.toNat:Int)]]) (n:=1) (λr hr=>by simp only[iL] at hr;rw[hr];rfl) eD rfl (by decide) rfl).slR;have u4:cZ h3 (h3.set r47 (.cells #[.int .i64 (y.toNat:Int)] aR)):=cT.new hr47;generalize h3.set r47 (.cells #[.int .i64 (y.toNat:Int)] aR)=h4 at *;have e4:=e3.trans u4;have u24:=(u2.trans u3).trans u4;refine lL lT.und lT.und aR.info aR.size aR.bytes aR.zero rfl (by decide) (Ok.ext u24) S4 (by simp[fI]) (by rw[iF,hacc];simp only[iP,kI];omega) ?_;intro v5 h5 G5 O5 u5 g5 _;have e5:=e4.fresh u5 fk;have nr16:r16∉Gk:=λhm=>(Ok.ext u2).known r16 hm hr16;have B5:=(B3.ext u4).upd u5 nr16;have Op5:=(Op.ext u24).upd u5 (λb hb hm=>dkp b hm hb);have f5:dZ h G5:=λb hb=>by
         rcases g5 b hb with x|x
         ·exact fk b x
         ·exact e4.none x
        have d5:∀b∈G5,b∉Gp:=λb hb hm=>by
         rcases g5 b hb with x|x
         ·exact dkp b x hm
         ·exact(Op.ext u24).known b hm x
        simp only[aJC B5,aTK,cB,reduceIte,cJ,Nat.reduceAdd];intro r54 hr54;refine gY ?_
        try rw[cO]
        have S6:hM (h5.set r54 (.cells (oC (0,t.drop (at'+1))).1.cells.toArray bX)) 4 (.slice (some ⟨r54,0,none⟩) 1 1) [(oC (0,t.drop (at'+1))).1.cells]:=(eJ.lit (e:=bX) (size:=4) (rows:=[(oC (0,t.drop (at'+1))).1.cells]) (n:=1) (λr hr=>by simp only[iL] at hr;rw[hr];rfl) eD rfl (by decide) (by simp)).slR;have u6:cZ h5 (h5.set r54 (.cells (oC (0,t.drop (at'+1))).1.cells.toArray bX)):=cT.new hr54;generalize h5.set r54 (.cells (oC (0,t.drop (at'+1))).1.cells.toArray bX)=h6 at *;have e6:=e5.trans u6;refine lL gZ.und gZ.und bX.info bX.size bX.bytes bX.zero rfl (by decide) (Op5.ext u6) S6 (by simp[Pk.cells,fI]) (by rw[iF,hacc];simp only[iP,kI];omega) ?_;intro v7 h7 G7 O7 u7 g7 _;have e7:=e6.fresh u7 fp;have O5':=(O5.ext u6).upd u7 d5;have f7:dZ h G7:=λb hb=>by
         rcases g7 b hb with x|x
         ·exact fp b x
         ·exact e6.none x
        have d7:∀b∈G5,b∉G7:=λb hb hm=>by
         rcases g7 b hm with x|x
         ·exact d5 b hb x
         ·exact(O5.ext u6).known b hb x
        have hdl:=aSU (t.drop (at'+1));have ga1:IntKind.i64.wrap (((at'+2:Nat):Int)+((19+dpN (t.drop (at'+1)):Nat):Int))=((at'+1+(19+dpN (t.drop (at'+1)))+1:Nat):Int):=by rw[eI (by omega) (by omega)];omega
        simp only[ce,if_true,ga,ga1,gi,cB,reduceIte,cJ,Nat.reduceAdd];have en:b0.toNat-(i+1)=n:=by omega
        refine⟨⟨i+1,at'+1+(19+dpN (t.drop (at'+1))),acc++[((y.toNat:Int),(oC (0,t.drop (at'+1))).1)],v5,v7,G5,G7,by omega,by omega,by rw[jO,hacc];rfl,rfl,?_,?_,f5,f7,d7,e7,?_⟩,by simp[fN,x11];omega⟩
        ·rw[wB];exact O5'
        ·rw[wB];exact O7
        ·rw[en];rw[eP] at hr ⊢;rw[pR] at hr;exact hr
    ·have q0:((oC (0,t.drop (at'+1))).2.1 !=0)=true:=bne_iff_ne.2 ce;have es:(if (y.toNat:Int)<1∨(g:Int)<(y.toNat:Int) then wG (oC (0,t.drop (at'+1))).2 5 else(oC (0,t.drop (at'+1))).2).1=(oC (0,t.drop (at'+1))).2.1:=by
      split
      ·unfold wG;exact if_neg ce
      ·rfl
     rw[aG6 _ _ _ _ (by show(if _ then _ else _:gS).1≠0;rw[es];exact ce)] at hr;simp only[dY,q0,cB,reduceIte,cJ,Nat.reduceAdd];exact bad _ (by rw[←hr];exact es) ce e3
  ·have g1:((i:Int)<(b0.toNat:Int))=False:=eq_false (by omega);have en:b0.toNat-i=0:=by omega
   rw[en] at hr;have hr:T=(acc,((0:Int),t.drop at')):=hr.symm;rw[hr] at hk;simp only[if_true] at hk;have dl:(t.drop at').length=t.length-at':=jC;simp only[i0,aGS,g1,cB,reduceIte,cJ,Nat.reduceAdd];have:=hk h' vk vp Gk Gp Ok Op fk fp w (λ_=>⟨by rw[dl,ll];omega,by
    rw[dl,ll,show t.length+1-(t.length-at')=at'+1 by omega];rfl⟩)
   rw[show(b0::t).length-(t.drop at').length=at'+1 by rw[dl,ll];omega] at this;exact this
def aIG(g:Int)(s:Tx):(fC g (0,s)).1.length≤255:=by
 cases s with
 | nil=>rw[aGQ];exact lD _
 | cons b t=>
  rw[aLr];have:=aJv g b.toNat (0,t) [];have hb:=b.toNat_lt;simp only[kI,iS] at this;show(if _ then _ else _:List (Int×Pk)).length≤255;split
  ·omega
  ·exact lD _
def aW0(a:Int)(p:Pk):cC PG (build cE #[(1,.int .i64 a),(0,.agg p.cells.toArray)])=some (.agg (It.of (a,p)).cells.toArray):=by kernel_rfl
def aXM(x:It):jX PG (buildSlice bZ 1 #[(0,.agg x.cells.toArray)])=some (.cells x.cells.toArray cE,λr=>pure (.slice (some ⟨r,0,none⟩) 1 1)):=by kernel_rfl
def aOZ{h:PH}(s:Tx)(hs:s.length≤1000000){k:cF}
  (hk:∀h' v G,eJ h' cE 5 v (((fC 2 (0,s)).1.map It.of).map It.cells) G->dZ h G->cZ h h'->((fC 2 (0,s)).2.1=0->(fC 2 (0,s)).2.2.length≤s.length∧(fC 2 (0,s)).2.2=s.drop (s.length-(fC 2 (0,s)).2.2.length))->
   k (.tuple #[v,.int .i64 (if (fC 2 (0,s)).2.1=0 then((s.length-(fC 2 (0,s)).2.2.length:Nat):Int) else 0),.int .i64 (fC 2 (0,s)).2.1]) h'):bT PG xR #[.string (tx s)] h k:=by
 apply oN.call;unfold oN;refine aP5 s 2 hs λh1 vk vp Gk Gp Ok Op fk fp w hf=>?_;obtain⟨L,hL⟩:∃L,(fC 2 (0,s)).1=L:=⟨_,rfl⟩;have hlen:(fC 2 (0,s)).1.length≤255:=aIG 2 s;rw[show(fC ((2:Nat):Int) (0,s))=fC 2 (0,s) from rfl] at Ok Op hf ⊢;rw[hL] at Ok Op hk hlen;have lp:cC PG (Builtin.len_ #[gZ] aR #[vp])=some (.int .i64 (L.length:Int)):=by
  have:=Op.slR.len (t':=aR) gZ.und;rw[iF] at this;exact this
 simp only[cB,reduceIte,cJ,Nat.reduceAdd];obtain⟨nv,hnv⟩:∃nv:Value,nv= .int .i64 (if (fC 2 (0,s)).2.1=0 then((s.length-(fC 2 (0,s)).2.2.length:Nat):Int) else 0):=⟨_,rfl⟩;obtain⟨ev,hev⟩:∃ev:Value,ev= .int .i64 (fC 2 (0,s)).2.1:=⟨_,rfl⟩;rw[←hnv,←hev] at hk ⊢;refine⟨λvs h'=>∃(i:Nat) (v:Value) (G:List Nat),i≤L.length∧vs=[vk,vp,nv,ev,v,.int .i64 (i:Int)]∧eJ h' cE 5 v (((L.take i).map It.of).map It.cells) G∧dZ h G∧(∀b∈Gk,b∉G)∧(∀b∈Gp,b∉G)∧eJ h' aR 1 vk (L.map kc) Gk∧eJ h' bX 4 vp (L.map pc) Gp∧cZ h h',fN L.length 5,⟨0,.slice none 0 0,[],by omega,rfl,eJ.nil,(λb hb=>by cases hb),(λb hb hm=>by cases hm),(λb hb hm=>by cases hm),Ok,Op,w⟩,?_⟩;rintro ρ h' ⟨i,v,G,hi,hvs,O,fG,dk,dp,Ok',Op',w'⟩;simp only[hY,iZ,kP,and_true] at hvs;obtain⟨x5,x6,x7,x8,x9,x10⟩:=hvs;unfold aCZ;rw[x5,x6,x7,x8,x9,x10];by_cases hlt:i<L.length
 ·have g1:((i:Int)<(L.length:Int))=True:=eq_true (by omega);have gi:=nP (i:=i) (by omega);obtain⟨x,hx⟩:∃x,L[i]? =some x:=⟨_,kO hlt⟩;obtain⟨a1,i1,l1⟩:=Ok'.slR.loadCell (t:=lT) (k:=.i64) (j:=(i:Int)) (x:=.int .i64 x.1) lT.und aR.info aR.size aR.und rfl (by omega) (by rw[wY,wW,hx];rfl);obtain⟨a2,i2,l2⟩:=Op'.slR.loadAgg (t:=gZ) (k:=.i64) (j:=(i:Int)) (r:=x.2.cells) gZ.und bX.info bX.size bX.und rfl (by omega) (by rw[wY,wW,hx];rfl);simp only[lp,g1,i1,l1,i2,l2,aW0,aXM,cB,reduceIte,cJ,Nat.reduceAdd];intro r16 hr16;refine gY ?_
  try rw[cO]
  have S4:hM (h'.set r16 (.cells (It.of (x.1,x.2)).cells.toArray cE)) 5 (.slice (some ⟨r16,0,none⟩) 1 1) [(It.of (x.1,x.2)).cells]:=(eJ.lit (e:=cE) (size:=5) (rows:=[(It.of (x.1,x.2)).cells]) (n:=1) (λr hr=>by simp only[iL] at hr;rw[hr];rfl) eD rfl (by decide) (by simp)).slR;have u4:cZ h' (h'.set r16 (.cells (It.of (x.1,x.2)).cells.toArray cE)):=cT.new hr16;generalize h'.set r16 (.cells (It.of (x.1,x.2)).cells.toArray cE)=h4 at *;have e4:=w'.trans u4;refine lL bZ.und bZ.und cE.info cE.size cE.bytes cE.zero rfl (by decide) (O.ext u4) S4 (by simp[It.cells,fI]) (by simp only[iF,mN,iP,kI];omega) ?_;intro v5 h5 G5 O5 u5 g5 _;have f5:dZ h G5:=λb hb=>by
   rcases g5 b hb with y|y
   ·exact fG b y
   ·exact e4.none y
  simp only[gi,cB,reduceIte,cJ,Nat.reduceAdd];refine⟨⟨i+1,v5,G5,by omega,rfl,?_,f5,(λb hb hm=>?_),(λb hb hm=>?_),(Ok'.ext u4).upd u5 dk,(Op'.ext u4).upd u5 dp,e4.fresh u5 fG⟩,by simp[fN,x10];omega⟩
  ·rw[zLR,hx,wB,wB];exact O5
  ·rcases g5 b hm with y|y
   ·exact dk b hb y
   ·exact(Ok'.ext u4).known b hb y
  ·rcases g5 b hm with y|y
   ·exact dp b hb y
   ·exact(Op'.ext u4).known b hb y
 ·have g1:((i:Int)<(L.length:Int))=False:=eq_false (by omega);have et:L.take i=L:=qX (by omega);rw[et] at O;simp only[lp,g1,cB,reduceIte,cJ,Nat.reduceAdd];exact hk h' v G O fG w' hf
def aW1(a:Int)(p:Pk):cC PG (build cK #[(0,.int .i64 a),(1,.agg p.cells.toArray)])=some (.agg (Nt.of (a,p)).cells.toArray):=by kernel_rfl
def aXE(x:Nt):jX PG (buildSlice cY 1 #[(0,.agg x.cells.toArray)])=some (.cells x.cells.toArray cK,λr=>pure (.slice (some ⟨r,0,none⟩) 1 1)):=by kernel_rfl
def aOO{h:PH}(s:Tx)(hs:s.length≤1000000){k:cF}
  (hk:∀h' v G,eJ h' cK 5 v (((fC 4 (0,s)).1.map Nt.of).map Nt.cells) G->dZ h G->cZ h h'->((fC 4 (0,s)).2.1=0->(fC 4 (0,s)).2.2.length≤s.length∧(fC 4 (0,s)).2.2=s.drop (s.length-(fC 4 (0,s)).2.2.length))->
   k (.tuple #[v,.int .i64 (if (fC 4 (0,s)).2.1=0 then((s.length-(fC 4 (0,s)).2.2.length:Nat):Int) else 0),.int .i64 (fC 4 (0,s)).2.1]) h'):bT PG xO #[.string (tx s)] h k:=by
 apply oQ.call;unfold oQ;refine aP5 s 4 hs λh1 vk vp Gk Gp Ok Op fk fp w hf=>?_;obtain⟨L,hL⟩:∃L,(fC 4 (0,s)).1=L:=⟨_,rfl⟩;have hlen:(fC 4 (0,s)).1.length≤255:=aIG 4 s;rw[show(fC ((4:Nat):Int) (0,s))=fC 4 (0,s) from rfl] at Ok Op hf ⊢;rw[hL] at Ok Op hk hlen;have lp:cC PG (Builtin.len_ #[gZ] aR #[vp])=some (.int .i64 (L.length:Int)):=by
  have:=Op.slR.len (t':=aR) gZ.und;rw[iF] at this;exact this
 simp only[cB,reduceIte,cJ,Nat.reduceAdd];obtain⟨nv,hnv⟩:∃nv:Value,nv= .int .i64 (if (fC 4 (0,s)).2.1=0 then((s.length-(fC 4 (0,s)).2.2.length:Nat):Int) else 0):=⟨_,rfl⟩;obtain⟨ev,hev⟩:∃ev:Value,ev= .int .i64 (fC 4 (0,s)).2.1:=⟨_,rfl⟩;rw[←hnv,←hev] at hk ⊢;refine⟨λvs h'=>∃(i:Nat) (v:Value) (G:List Nat),i≤L.length∧vs=[vk,vp,nv,ev,v,.int .i64 (i:Int)]∧eJ h' cK 5 v (((L.take i).map Nt.of).map Nt.cells) G∧dZ h G∧(∀b∈Gk,b∉G)∧(∀b∈Gp,b∉G)∧eJ h' aR 1 vk (L.map kc) Gk∧eJ h' bX 4 vp (L.map pc) Gp∧cZ h h',fN L.length 5,⟨0,.slice none 0 0,[],by omega,rfl,eJ.nil,(λb hb=>by cases hb),(λb hb hm=>by cases hm),(λb hb hm=>by cases hm),Ok,Op,w⟩,?_⟩;rintro ρ h' ⟨i,v,G,hi,hvs,O,fG,dk,dp,Ok',Op',w'⟩;simp only[hY,iZ,kP,and_true] at hvs;obtain⟨x5,x6,x7,x8,x9,x10⟩:=hvs;unfold aCg;rw[x5,x6,x7,x8,x9,x10];by_cases hlt:i<L.length
 ·have g1:((i:Int)<(L.length:Int))=True:=eq_true (by omega);have gi:=nP (i:=i) (by omega);obtain⟨x,hx⟩:∃x,L[i]? =some x:=⟨_,kO hlt⟩;obtain⟨a1,i1,l1⟩:=Ok'.slR.loadCell (t:=lT) (k:=.i64) (j:=(i:Int)) (x:=.int .i64 x.1) lT.und aR.info aR.size aR.und rfl (by omega) (by rw[wY,wW,hx];rfl);obtain⟨a2,i2,l2⟩:=Op'.slR.loadAgg (t:=gZ) (k:=.i64) (j:=(i:Int)) (r:=x.2.cells) gZ.und bX.info bX.size bX.und rfl (by omega) (by rw[wY,wW,hx];rfl);simp only[lp,g1,i1,l1,i2,l2,aW1,aXE,cB,reduceIte,cJ,Nat.reduceAdd];intro r16 hr16;refine gY ?_
  try rw[cO]
  have S4:hM (h'.set r16 (.cells (Nt.of (x.1,x.2)).cells.toArray cK)) 5 (.slice (some ⟨r16,0,none⟩) 1 1) [(Nt.of (x.1,x.2)).cells]:=(eJ.lit (e:=cK) (size:=5) (rows:=[(Nt.of (x.1,x.2)).cells]) (n:=1) (λr hr=>by simp only[iL] at hr;rw[hr];rfl) eD rfl (by decide) (by simp)).slR;have u4:cZ h' (h'.set r16 (.cells (Nt.of (x.1,x.2)).cells.toArray cK)):=cT.new hr16;generalize h'.set r16 (.cells (Nt.of (x.1,x.2)).cells.toArray cK)=h4 at *;have e4:=w'.trans u4;refine lL cY.und cY.und cK.info cK.size cK.bytes cK.zero rfl (by decide) (O.ext u4) S4 (by simp[Nt.cells,fI]) (by simp only[iF,mN,iP,kI];omega) ?_;intro v5 h5 G5 O5 u5 g5 _;have f5:dZ h G5:=λb hb=>by
   rcases g5 b hb with y|y
   ·exact fG b y
   ·exact e4.none y
  simp only[gi,cB,reduceIte,cJ,Nat.reduceAdd];refine⟨⟨i+1,v5,G5,by omega,rfl,?_,f5,(λb hb hm=>?_),(λb hb hm=>?_),(Ok'.ext u4).upd u5 dk,(Op'.ext u4).upd u5 dp,e4.fresh u5 fG⟩,by simp[fN,x10];omega⟩
  ·rw[zLR,hx,wB,wB];exact O5
  ·rcases g5 b hm with y|y
   ·exact dk b hb y
   ·exact(Ok'.ext u4).known b hb y
  ·rcases g5 b hm with y|y
   ·exact dp b hb y
   ·exact(Op'.ext u4).known b hb y
 ·have g1:((i:Int)<(L.length:Int))=False:=eq_false (by omega);have et:L.take i=L:=qX (by omega);rw[et] at O;simp only[lp,g1,cB,reduceIte,cJ,Nat.reduceAdd];exact hk h' v G O fG w' hf
def aOF{e:Int}{t:Tx}(he:e≠0):gP (e,t)=(Pl.zero,(e,t)):=by
 have h0:¬(65535<(0:Nat)):=by omega
 unfold gP;simp only[aF9 he,h0,if_false];rw[if_neg he]
def aG3{g e:Int}{t:Tx}(he:e≠0):fC g (e,t)=([],(e,t)):=by
 unfold fC;simp only[aF9 he];show(if e=0 then([]:List (Int×Pk)) else [],(e,t))=_;rw[if_neg he]
def aPO{e:Int}{t:Tx}(he:e≠0):aGh (e,t)=e:=by
 unfold aGh;rw[if_neg (λh=>he h.1)]
def aSS{e x:Int}{t:Tx}(he:e≠0):wG (e,t) x=(e,t):=by
 unfold wG;simp only;rw[if_neg he]
def aCT{s:Tx}{e:Int}{t:Tx}(h:(Rc.rd s).2=(e,t))(he:e≠0):gH s=(Rc.zero,e):=by
 have e1:vL s=(e,t):=by
  unfold vL;rw[h];split
  ·rfl
  ·exact aSS he
 unfold gH;rw[e1,aPO he,if_pos he]
def aI4{s t:Tx}(h:(Rc.rd s).2=((0:Int),t))(hp:(Rc.rd s).1.plain=false):gH s=(Rc.zero,5):=by
 have e1:vL s=((5:Int),t):=by
  unfold vL;rw[h,hp];rfl
 unfold gH;rw[e1,aPO (by decide),if_pos (by decide)]
def aNV{s t:Tx}(h:(Rc.rd s).2=((0:Int),t))(hp:(Rc.rd s).1.plain=true):gH s=if t≠[] then(Rc.zero,7) else((Rc.rd s).1,0):=by
 have e1:vL s=((0:Int),t):=by
  unfold vL;rw[h,hp];rfl
 unfold gH;rw[e1];by_cases c:t=[]
 ·have:aGh ((0:Int),t)=0:=by unfold aGh;rw[if_neg (λh=>h.2 c)]
  rw[this,if_neg (by simp),if_neg (by simpa using c)]
 ·have:aGh ((0:Int),t)=7:=by unfold aGh;rw[if_pos ⟨rfl,c⟩]
  rw[this,if_pos (by decide),if_pos c]
def aBu(t:Tx):Rc×Int:=
 if (gP (0,t)).2.1≠0 then(Rc.zero,(gP (0,t)).2.1)
 else if (gP (0,t.drop 16)).2.1≠0 then(Rc.zero,(gP (0,t.drop 16)).2.1)
 else if (fC 2 (0,t.drop 32)).2.1≠0 then(Rc.zero,(fC 2 (0,t.drop 32)).2.1)
 else if 40<(fC 2 (0,t.drop 32)).1.length then(Rc.zero,5)
 else if (fC 2 (0,t.drop 32)).2.2≠[] then(Rc.zero,7)
 else(⟨1,⟨(gP (0,t)).1,(gP (0,t.drop 16)).1,(fC 2 (0,t.drop 32)).1.map It.of⟩,0,Pl.zero,[]⟩,0)
def aIe{t:Tx}(h:(gP (0,t)).2.1=0):(gP (0,t)).2=((0:Int),t.drop 16)∧16≤t.length:=by
 rcases aNJ t with⟨-,-,e⟩|⟨-,-,-,e⟩|⟨c,-,e⟩
 ·rw[h] at e;cases e
 ·rw[h] at e;cases e
 ·rw[e];exact⟨rfl,c⟩
def rd1(t:Tx):Rc.rd (1::t)=(⟨1,⟨(gP (0,t)).1,(gP (gP (0,t)).2).1,(fC 2 (gP (gP (0,t)).2).2).1.map It.of⟩,0,Pl.zero,[]⟩,(fC 2 (gP (gP (0,t)).2).2).2):=by
 have e:fD (0,1::t) 1=(1,((0:Int),t)):=by
  rw[oP (t:=1::t) (c:=1) (by simp)];rfl
 unfold Rc.rd;rw[e];rfl
def rd2(t:Tx):Rc.rd (2::t)=(⟨2,Dm.zero,(fD (0,t) 1).1,(gP (fD (0,t) 1).2).1,(fC 4 (gP (fD (0,t) 1).2).2).1.map Nt.of⟩,(fC 4 (gP (fD (0,t) 1).2).2).2):=by
 have e:fD (0,2::t) 1=(2,((0:Int),t)):=by
  rw[oP (t:=2::t) (c:=1) (by simp)];rfl
 unfold Rc.rd;rw[e];rfl
def aK9(t:Tx):gH (1::t)=aBu t:=by
 have hr:=rd1 t;unfold aBu;by_cases c0:(gP (0,t)).2.1=0
 ·rw[if_neg (λx=>x c0)];rw[(aIe c0).1] at hr;by_cases c1:(gP (0,t.drop 16)).2.1=0
  ·rw[if_neg (λx=>x c1)];rw[(aIe c1).1,pR] at hr;by_cases c2:(fC 2 (0,t.drop 32)).2.1=0
   ·rw[if_neg (λx=>x c2)];have e2:(Rc.rd (1::t)).2=((0:Int),(fC 2 (0,t.drop 32)).2.2):=by
     rw[hr];exact Prod.ext c2 rfl
    by_cases c3:40<(fC 2 (0,t.drop 32)).1.length
    ·rw[if_pos c3];refine aI4 e2 ?_;rw[hr];unfold Rc.plain;simp only[if_true,iF];have:decide ((fC 2 (0,t.drop 32)).1.length≤40)=false:=decide_eq_false (by omega);rw[this,aIR]
    ·rw[if_neg c3];have hp:(Rc.rd (1::t)).1.plain=true:=by
      rw[hr];unfold Rc.plain;simp only[if_true,iF];have:decide ((fC 2 (0,t.drop 32)).1.length≤40)=true:=decide_eq_true (by omega);rw[this];rfl
     rw[aNV e2 hp,hr]
   ·rw[if_pos c2];refine aCT (t:=(fC 2 (0,t.drop 32)).2.2) ?_ c2;rw[hr]
  ·rw[if_pos c1];refine aCT (t:=(gP (0,t.drop 16)).2.2) ?_ c1;rw[hr];show(fC 2 ((gP (0,t.drop 16)).2.1,(gP (0,t.drop 16)).2.2)).2=_;rw[aG3 c1]
 ·rw[if_pos c0];refine aCT (t:=(gP (0,t)).2.2) ?_ c0;rw[hr];show(fC 2 (gP ((gP (0,t)).2.1,(gP (0,t)).2.2)).2).2=_;rw[aOF c0];show(fC 2 ((gP (0,t)).2.1,(gP (0,t)).2.2)).2=_;rw[aG3 c0]
def aES:Tx->Rc×Int
 | []=>(Rc.zero,6)
 | b::t=>
  if (gP (0,t)).2.1≠0 then(Rc.zero,(gP (0,t)).2.1)
  else if (fC 4 (0,t.drop 16)).2.1≠0 then(Rc.zero,(fC 4 (0,t.drop 16)).2.1)
  else if 1<b.toNat∨16<(fC 4 (0,t.drop 16)).1.length then(Rc.zero,5)
  else if (fC 4 (0,t.drop 16)).2.2≠[] then(Rc.zero,7)
  else(⟨2,Dm.zero,(b.toNat:Int),(gP (0,t)).1,(fC 4 (0,t.drop 16)).1.map Nt.of⟩,0)
def aLh(t:Tx):gH (2::t)=aES t:=by
 have hr:=rd2 t;cases t with
 | nil=>
  rw[aB0 (t:=[]) (c:=1) (by simp)] at hr;refine aCT (t:=[]) ?_ (by decide);rw[hr];show(fC 4 (gP ((6:Int),[])).2).2=_;rw[aOF (by decide)];show(fC 4 ((6:Int),[])).2=_;rw[aG3 (by decide)]
 | cons b t=>
  have eg:fD (0,b::t) 1=(b.toNat,((0:Int),t)):=by
   rw[oP (t:=b::t) (c:=1) (by simp)];simp[lC]
  rw[eg] at hr;simp only at hr;simp only[aES];by_cases c0:(gP (0,t)).2.1=0
  ·rw[if_neg (λx=>x c0)];rw[(aIe c0).1] at hr;by_cases c2:(fC 4 (0,t.drop 16)).2.1=0
   ·rw[if_neg (λx=>x c2)];have e2:(Rc.rd (2::b::t)).2=((0:Int),(fC 4 (0,t.drop 16)).2.2):=by
     rw[hr];exact Prod.ext c2 rfl
    have epl:(Rc.rd (2::b::t)).1.plain=((decide ((b.toNat:Int)=0)||decide ((b.toNat:Int)=1))&&decide ((fC 4 (0,t.drop 16)).1.length≤16)):=by
     rw[hr];unfold Rc.plain;rw[if_neg (by show ¬((2:Int)=1);decide),if_pos rfl];simp only[iF];rfl
    by_cases c3:1<b.toNat∨16<(fC 4 (0,t.drop 16)).1.length
    ·rw[if_pos c3];refine aI4 e2 ?_;rw[epl];rcases c3 with c3|c3
     ·have a1:decide ((b.toNat:Int)=0)=false:=decide_eq_false (by omega);have a2:decide ((b.toNat:Int)=1)=false:=decide_eq_false (by omega);rw[a1,a2];rfl
     ·have:decide ((fC 4 (0,t.drop 16)).1.length≤16)=false:=decide_eq_false (by omega);rw[this,aIR]
    ·rw[if_neg c3];have hp:(Rc.rd (2::b::t)).1.plain=true:=by
      rw[epl];have a1:(decide ((b.toNat:Int)=0)||decide ((b.toNat:Int)=1))=true:=by
       rw[aGj,decide_eq_true_iff,decide_eq_true_iff];omega
      have a2:decide ((fC 4 (0,t.drop 16)).1.length≤16)=true:=decide_eq_true (by omega);rw[a1,a2];rfl
     rw[aNV e2 hp,hr]
   ·rw[if_pos c2];refine aCT (t:=(fC 4 (0,t.drop 16)).2.2) ?_ c2;rw[hr]
  ·rw[if_pos c0];refine aCT (t:=(gP (0,t)).2.2) ?_ c0;rw[hr];show(fC 4 ((gP (0,t)).2.1,(gP (0,t)).2.2)).2=_;rw[aG3 c0]
def aNX:gH []=(Rc.zero,6):=by
 refine aCT (t:=[]) ?_ (by decide);unfold Rc.rd;rw[aB0 (t:=[]) (c:=1) (by simp)];rfl
def aLA{b:UInt8}{t:Tx}(h1:b≠1)(h2:b≠2):gH (b::t)=(Rc.zero,5):=by
 have eg:fD (0,b::t) 1=(b.toNat,((0:Int),t)):=by
  rw[oP (t:=b::t) (c:=1) (by simp)];simp[lC]
 have n1:¬b.toNat=1:=λe=>h1 (UInt8.toNat_inj.1 e);have n2:¬b.toNat=2:=λe=>h2 (UInt8.toNat_inj.1 e);have hr:Rc.rd (b::t)=(⟨(b.toNat:Int),Dm.zero,0,Pl.zero,[]⟩,((0:Int),t)):=by
  unfold Rc.rd;rw[eg];simp only;rw[if_neg n1,if_neg n2]
 refine aI4 (t:=t) (by rw[hr]) ?_;rw[hr];unfold Rc.plain;rw[if_neg (by simp only;omega),if_neg (by simp only;omega)]
def aHD{h:PH}{r:Nat}{x:Rc}{v w:Value}(B:Bx h r (x.cells v w)):cD PG h (loadAt bW (pT r 0))=some (x.v v w):=bW.agg B (by show 0+10≤10;decide)
def aEk{h h':PH}{h0:PH}{n:Nat}{v:Value}{rows:List (List Value)}{r:Nat}(S:hM h n v rows)(N:iM h0 v)(hr:h0 r≠none)(u:cT [r] h h'):hM h' n v rows:=S.upd u λa m c e hm=>by
 simp only[iL] at hm;exact hr (hm▸N a m c e)
def rcI(t:Tx):Nat->Rc
 | 0=>⟨1,Dm.zero,0,Pl.zero,[]⟩
 | 1=>⟨1,⟨(gP (0,t)).1,Pl.zero,[]⟩,0,Pl.zero,[]⟩
 | _=>⟨1,⟨(gP (0,t)).1,(gP (0,t.drop 16)).1,[]⟩,0,Pl.zero,[]⟩
def aL4(q:Pl):∀v∈q.cells,fI v=true:=by simp[Pl.cells,fI]
def aRz{h:PH}(t:Tx)(hs:t.length≤1000000){k:cF}
  (hk:∀h' vi,jV h' vi (aBu t).1.s.its->iM h vi->(aBu t).1.ns=[]->cZ h h'->k (.tuple #[(aBu t).1.v vi (.slice none 0 0),.int .i64 (aBu t).2]) h'):bT PG aA4 #[.string (tx t)] h k:=by
 apply yU.call;unfold yU;intro r1 hr1
 try rw[cO]
 have Z1:Bx (h.set r1 (.cells (dF PG bW) bW)) r1 (Rc.zero.cells (.slice none 0 0) (.slice none 0 0)):=bW.zbox;have u1:cZ h (h.set r1 (.cells (dF PG bW) bW)):=cT.new hr1;generalize h.set r1 (.cells (dF PG bW) bW)=h1 at *;have rb:cC PG (build bW #[(0,.int .i64 1)])=some ((rcI t 0).v (.slice none 0 0) (.slice none 0 0)):=by kernel_rfl
 simp only[rb,cB,reduceIte,cJ,Nat.reduceAdd];intro r4 hr4
 try rw[cO]
 refine bW.fill (vs:=(rcI t 0).cells (.slice none 0 0) (.slice none 0 0)) hr4 rfl (Rc.isC _ rfl rfl) λh2 B2 u2=>?_;have e2:=u1.trans u2;have n14:r1≠r4:=Z1.apart hr4;have f1:dZ h [r1]:=dZ.one hr1;have f4:dZ h [r4]:=dZ.one (u1.none hr4);have k1:h1 r1≠none:=Z1.known;have hDm:∀e:Int,(Rc.zero).ns=[]:=λ_=>rfl;have fin:∀{h':PH} (x:Rc) (e:Int) (vi:Value),aBu t=(x,e)->jV h' vi x.s.its->iM h1 vi->x.ns=[]->Bx h' r1 (Rc.zero.cells (.slice none 0 0) (.slice none 0 0))->cZ h h'->cM PG (cQ bW (pT r1 0) (x.v vi (.slice none 0 0))) h' λ_ h8=>bY (cD PG h8 (loadAt bW (pT r1 0))) λv9=>k (.tuple #[v9,.int .i64 e]) h8:=by
  intro h' x e vi hx S N hns B w;refine bW.put B (vs:=x.cells vi (.slice none 0 0)) (o:=0) rfl (by show 0+10≤10;decide) (Rc.isC _ S.isc rfl) λh3 B3 u3=>?_;have B3:Bx h3 r1 (x.cells vi (.slice none 0 0)):=B3;simp only[aHD B3,iH,zPP];have:=hk h3 vi (by rw[hx];exact aEk S N k1 u3) (N.of u1) (by rw[hx];exact hns) (w.fresh u3 f1);rw[hx] at this;exact this
 have bad:∀{h':PH} (e:Int),aBu t=(Rc.zero,e)->Bx h' r1 (Rc.zero.cells (.slice none 0 0) (.slice none 0 0))->cZ h h'->cM PG (cQ bW (pT r1 0) (Rc.zero.v (.slice none 0 0) (.slice none 0 0))) h' λ_ h8=>bY (cD PG h8 (loadAt bW (pT r1 0))) λv9=>k (.tuple #[v9,.int .i64 e]) h8:=
  λe he B w=>fin Rc.zero e (.slice none 0 0) he aDG iM.nil rfl B w
 refine⟨λvs h'=>∃i:Nat,i≤2∧16*i≤t.length∧vs=[.string (tx (t.drop (16*i))),pT r1 0,pT r4 0,.int .i64 (i:Int)]∧Bx h' r4 ((rcI t i).cells (.slice none 0 0) (.slice none 0 0))∧Bx h' r1 (Rc.zero.cells (.slice none 0 0) (.slice none 0 0))∧cZ h1 h'∧(1≤i->(gP (0,t)).2.1=0)∧(2≤i->(gP (0,t.drop 16)).2.1=0),fN 2 3,⟨0,by omega,by omega,rfl,B2,Z1.ext u2,u2,(λh=>by omega),(λh=>by omega)⟩,?_⟩;rintro ρ h' ⟨i,hi,h16,hvs,B,Z,w,p0,p1⟩;simp only[hY,iZ,kP,and_true] at hvs;obtain⟨x0,x2,x4,x5⟩:=hvs;unfold aED;rw[x0,x2,x4,x5];have w0:=u1.trans w;by_cases hlt:i<2
 ·have g:((i:Int)<2)=True:=eq_true (by omega);have gi:=nP (i:=i) (by omega);simp only[g,cB,reduceIte,cJ,Nat.reduceAdd];refine aJt (t.drop (16*i)) (by rw[jC];omega) λh3 u3=>?_;simp only[cB,reduceIte,cJ,Nat.reduceAdd];intro r16 hr16
  try rw[cO]
  refine cG.fill (vs:=(gP (0,t.drop (16*i))).1.cells) hr16 rfl (aL4 _) λh4 B4 u4=>?_;have e34:=u3.trans u4;by_cases c:(gP (0,t.drop (16*i))).2.1=0
  ·have q:((gP (0,t.drop (16*i))).2.1 !=0)=false:=by rw[c];rfl
   have hf:=(aIe c).2;rw[jC] at hf;have l4:cD PG h4 (loadAt cG (pT r16 0))=some (.agg (gP (0,t.drop (16*i))).1.cells.toArray):=aBz B4 rfl;have ixi:cC PG (indexAt cR (pT r4 1) (.int .i64 (i:Int)))=some (pT r4 (1+i*2)):=ixQ hlt;have c16:cC PG (Instr.sliceAt aT (.string (tx (t.drop (16*i)))) (some (.int .i64 16)) none none)=some (.string (tx (t.drop (16*(i+1))))):=by
    have:=kL (P:=PG) (t:=aT) (l:=t.drop (16*i)) (i:=16) (j:=(t.drop (16*i)).length) (lo:=some (.int .i64 16)) (hi:=none) aT.und (.inr ⟨_,rfl⟩) (.inl ⟨rfl,rfl⟩) (by rw[jC];omega) (mG _);rw[this,zLJ,pR,Nat.mul_succ]
   simp only[dY,q,c,if_true,l4,bW.f1,bR.f0,ixi,cB,reduceIte,cJ,Nat.reduceAdd];have i01:i=0∨i=1:=by omega
   refine cG.put (B.ext e34) (vs:=(gP (0,t.drop (16*i))).1.cells) (o:=1+i*2) rfl (by show 1+i*2+2≤10;omega) (aL4 _) λh5 B5 u5=>?_;have B5:Bx h5 r4 ((rcI t (i+1)).cells (.slice none 0 0) (.slice none 0 0)):=by
    rcases i01 with rfl|rfl
    ·exact B5
    ·exact B5
   simp only[c16,gi,cB,reduceIte,cJ,Nat.reduceAdd];refine⟨⟨i+1,by omega,by omega,rfl,B5,(Z.ext e34).upd u5 (by simpa using n14),(w.trans e34).fresh u5 (dZ.one hr4),λ_=>?_,λh2=>?_⟩,by simp[fN,x5];omega⟩
   ·rcases i01 with rfl|rfl
    ·exact c
    ·exact p0 (by omega)
   ·rcases i01 with rfl|rfl
    ·omega
    ·exact c
  ·have q:((gP (0,t.drop (16*i))).2.1 !=0)=true:=bne_iff_ne.2 c;simp only[dY,q,uS,cB,reduceIte,cJ,Nat.reduceAdd];refine bad _ ?_ (Z.ext e34) (w0.trans e34);have i01:i=0∨i=1:=by omega
   unfold aBu;rcases i01 with rfl|rfl
   ·exact if_pos (show(gP (0,t)).2.1≠0 from c)
   ·rw[if_neg (λx=>x (p0 (by omega)))];exact if_pos (show(gP (0,t.drop 16)).2.1≠0 from c)
 ·have g:((i:Int)<2)=False:=eq_false (by omega);obtain rfl:i=2:=by omega
  have hp0:=p0 (by omega);have hp1:=p1 (by omega);have dS:aBu t=if (fC 2 (0,t.drop 32)).2.1≠0 then(Rc.zero,(fC 2 (0,t.drop 32)).2.1)
    else if 40<(fC 2 (0,t.drop 32)).1.length then(Rc.zero,5)
    else if (fC 2 (0,t.drop 32)).2.2≠[] then(Rc.zero,7)
    else(⟨1,⟨(gP (0,t)).1,(gP (0,t.drop 16)).1,(fC 2 (0,t.drop 32)).1.map It.of⟩,0,Pl.zero,[]⟩,0):=by
   unfold aBu;rw[if_neg (λx=>x hp0),if_neg (λx=>x hp1)]
  simp only[g,cB,reduceIte,cJ,Nat.reduceAdd];refine aOZ (t.drop 32) (by rw[jC];omega) λh3 v G O3 fG u3 hf=>?_;have NV:iM h1 v:=(O3.newV fG).of w;have lv:cC PG (Builtin.len_ #[bZ] aR #[v])=some (.int .i64 ((fC 2 (0,t.drop 32)).1.length:Int)):=by
   have:=It.len O3.slR;rw[iF] at this;exact this
  obtain⟨L,hL⟩:∃L,fC 2 (0,t.drop 32)=L:=⟨_,rfl⟩;rw[hL] at dS O3 lv hf ⊢;by_cases c2:L.2.1=0
  ·have q2:(L.2.1 !=0)=false:=by rw[c2];rfl
   rw[if_neg (λx=>x c2)] at dS;obtain⟨hf1,hf2⟩:=hf c2;by_cases c3:40<L.1.length
   ·have g3:((40:Int)<(L.1.length:Int))=True:=eq_true (by omega);rw[if_pos c3] at dS;simp only[dY,q2,lv,g3,uS,cB,reduceIte,cJ,Nat.reduceAdd];exact bad 5 dS (Z.ext u3) (w0.trans u3)
   ·have g3:((40:Int)<(L.1.length:Int))=False:=eq_false (by omega);rw[if_neg c3] at dS;by_cases c4:L.2.2=[]
    ·have g4:((((t.drop 32).length-L.2.2.length:Nat):Int)<((t.drop 32).length:Int))=False:=eq_false (by rw[c4];simp);rw[if_neg (λx=>x c4)] at dS;simp only[dY,q2,lv,g3,c2,if_true,iO,g4,bW.f1,bR.f1,cB,reduceIte,cJ,Nat.reduceAdd];refine bZ.put (B.ext u3) (o:=5) (by show 5<10;decide) O3.slR.isc λh4 B4 u4=>?_;have B4:Bx h4 r4 (Rc.cells ⟨1,⟨(gP (0,t)).1,(gP (0,t.drop 16)).1,L.1.map It.of⟩,0,Pl.zero,[]⟩ v (.slice none 0 0)):=B4;simp only[aHD B4,cB,reduceIte,cJ,Nat.reduceAdd];have S4:jV h4 v (L.1.map It.of):=aEk O3.slR (O3.newV fG) (B.known) u4;exact fin _ 0 v dS S4 NV rfl ((Z.ext u3).upd u4 (by simpa using n14)) ((w0.trans u3).fresh u4 f4)
    ·have g4:((((t.drop 32).length-L.2.2.length:Nat):Int)<((t.drop 32).length:Int))=True:=by
      have:0<L.2.2.length:=aI8.2 c4;exact eq_true (by omega)
     rw[if_pos c4] at dS;simp only[dY,q2,lv,g3,c2,if_true,iO,g4,uS,cB,reduceIte,cJ,Nat.reduceAdd];exact bad 7 dS (Z.ext u3) (w0.trans u3)
  ·have q2:(L.2.1 !=0)=true:=bne_iff_ne.2 c2;rw[if_pos c2] at dS;simp only[dY,q2,uS,cB,reduceIte,cJ,Nat.reduceAdd];exact bad _ dS (Z.ext u3) (w0.trans u3)
def aW6(c:Int):cC PG (build bW #[(0,.int .i64 2),(2,.int .i64 c)])=some (Rc.v ⟨2,Dm.zero,c,Pl.zero,[]⟩ (.slice none 0 0) (.slice none 0 0)):=by kernel_rfl
def aRa{h:PH}(s:Tx)(hs:s.length≤1000000){k:cF}
  (hk:∀h' vn,yJ h' vn (aES s).1.ns->iM h vn->(aES s).1.s.its=[]->cZ h h'->k (.tuple #[(aES s).1.v (.slice none 0 0) vn,.int .i64 (aES s).2]) h'):bT PG aBg #[.string (tx s)] h k:=by
 apply aAb.call;unfold aAb;intro r1 hr1
 try rw[cO]
 have Z1:Bx (h.set r1 (.cells (dF PG bW) bW)) r1 (Rc.zero.cells (.slice none 0 0) (.slice none 0 0)):=bW.zbox;have u1:cZ h (h.set r1 (.cells (dF PG bW) bW)):=cT.new hr1;generalize h.set r1 (.cells (dF PG bW) bW)=h1 at *;have f1:dZ h [r1]:=dZ.one hr1;have k1:h1 r1≠none:=Z1.known;have fin:∀{h':PH} (x:Rc) (e:Int) (vn:Value),aES s=(x,e)->yJ h' vn x.ns->iM h1 vn->x.s.its=[]->Bx h' r1 (Rc.zero.cells (.slice none 0 0) (.slice none 0 0))->cZ h h'->cM PG (cQ bW (pT r1 0) (x.v (.slice none 0 0) vn)) h' λ_ h8=>bY (cD PG h8 (loadAt bW (pT r1 0))) λv9=>k (.tuple #[v9,.int .i64 e]) h8:=by
  intro h' x e vn hx S N hns B w;refine bW.put B (vs:=x.cells (.slice none 0 0) vn) (o:=0) rfl (by show 0+10≤10;decide) (Rc.isC _ rfl S.isc) λh3 B3 u3=>?_;have B3:Bx h3 r1 (x.cells (.slice none 0 0) vn):=B3;simp only[aHD B3,iH,zPP];have:=hk h3 vn (by rw[hx];exact aEk S N k1 u3) (N.of u1) (by rw[hx];exact hns) (w.fresh u3 f1);rw[hx] at this;exact this
 have bad:∀{h':PH} (e:Int),aES s=(Rc.zero,e)->Bx h' r1 (Rc.zero.cells (.slice none 0 0) (.slice none 0 0))->cZ h h'->cM PG (cQ bW (pT r1 0) (Rc.zero.v (.slice none 0 0) (.slice none 0 0))) h' λ_ h8=>bY (cD PG h8 (loadAt bW (pT r1 0))) λv9=>k (.tuple #[v9,.int .i64 e]) h8:=
  λe he B w=>fin Rc.zero e (.slice none 0 0) he aLI iM.nil rfl B w
 cases s with
 | nil=>
  have e0:cD PG h1 (fK .eql aT (.tmp 9) (.const (.string {data:=#[]})) (.string (tx [])) (.string {data:=#[]}))=some (.bool true):=by
   have:=aFB (t:=aT) (h:=h1) (x:=.tmp 9) (y:=.const (.string {data:=#[]})) (a:=[]) (b:=[]);exact this
  simp only[e0,uS,cB,reduceIte,cJ,Nat.reduceAdd];exact bad 6 rfl Z1 u1
 | cons b t=>
  have e0:cD PG h1 (fK .eql aT (.tmp 9) (.const (.string {data:=#[]})) (.string (tx (b::t))) (.string {data:=#[]}))=some (.bool false):=by
   have:=aFB (t:=aT) (h:=h1) (x:=.tmp 9) (y:=.const (.string {data:=#[]})) (a:=b::t) (b:=[]);exact this
  have i0:cC PG (Instr.index aT (.string (tx (b::t))) (.int .i64 0))=some (.int .u8 b.toNat):=nL (j:=0) aT.und rfl;have ll:(b::t).length=t.length+1:=rfl;have c1:cC PG (Instr.sliceAt aT (.string (tx (b::t))) (some (.int .i64 1)) none none)=some (.string (tx t)):=by
   have:=kL (P:=PG) (t:=aT) (l:=b::t) (i:=1) (j:=(b::t).length) (lo:=some (.int .i64 1)) (hi:=none) aT.und (.inr ⟨_,rfl⟩) (.inl ⟨rfl,rfl⟩) (by rw[ll];omega) (mG _);rw[this,zLJ];rfl
  simp only[e0,i0,aGS,aW6,cB,reduceIte,cJ,Nat.reduceAdd];intro r11 hr11
  try rw[cO]
  refine bW.fill (vs:=Rc.cells ⟨2,Dm.zero,(b.toNat:Int),Pl.zero,[]⟩ (.slice none 0 0) (.slice none 0 0)) hr11 rfl (Rc.isC _ rfl rfl) λh2 B2 u2=>?_;have e2:=u1.trans u2;have n1:r1≠r11:=Z1.apart hr11;have f11:dZ h [r11]:=dZ.one (u1.none hr11);simp only[c1,cB,reduceIte,cJ,Nat.reduceAdd];rw[ll] at hs;refine aJt t (by omega) λh3 u3=>?_;simp only[cB,reduceIte,cJ,Nat.reduceAdd];intro r21 hr21
  try rw[cO]
  refine cG.fill (vs:=(gP (0,t)).1.cells) hr21 rfl (aL4 _) λh4 B4 u4=>?_;have e34:=u3.trans u4;have Z4:=(Z1.ext u2).ext e34;have w4:=e2.trans e34;by_cases c:(gP (0,t)).2.1=0
  ·have q:((gP (0,t)).2.1 !=0)=false:=by rw[c];rfl
   have hf:=(aIe c).2;have w17:IntKind.i64.wrap ((1:Int)+16)=17:=by decide
   have c17:cC PG (Instr.sliceAt aT (.string (tx (b::t))) (some (.int .i64 17)) none none)=some (.string (tx (t.drop 16))):=by
    have:=kL (P:=PG) (t:=aT) (l:=b::t) (i:=17) (j:=(b::t).length) (lo:=some (.int .i64 17)) (hi:=none) aT.und (.inr ⟨_,rfl⟩) (.inl ⟨rfl,rfl⟩) (by rw[ll];omega) (mG _);rw[this,zLJ];rfl
   have dS:aES (b::t)=if (fC 4 (0,t.drop 16)).2.1≠0 then(Rc.zero,(fC 4 (0,t.drop 16)).2.1)
     else if 1<b.toNat∨16<(fC 4 (0,t.drop 16)).1.length then(Rc.zero,5)
     else if (fC 4 (0,t.drop 16)).2.2≠[] then(Rc.zero,7)
     else(⟨2,Dm.zero,(b.toNat:Int),(gP (0,t)).1,(fC 4 (0,t.drop 16)).1.map Nt.of⟩,0):=by
    simp only[aES];rw[if_neg (λx=>x c)]
   simp only[dY,q,c,if_true,w17,c17,cB,reduceIte,cJ,Nat.reduceAdd];refine aOO (t.drop 16) (by rw[jC];omega) λh5 v G O5 fG u5 hf5=>?_;have NV:iM h1 v:=(O5.newV fG).of (u2.trans e34);have lv:cC PG (Builtin.len_ #[cY] aR #[v])=some (.int .i64 ((fC 4 (0,t.drop 16)).1.length:Int)):=by
    have:=Nt.len O5.slR;rw[iF] at this;exact this
   obtain⟨L,hL⟩:∃L,fC 4 (0,t.drop 16)=L:=⟨_,rfl⟩;rw[hL] at dS O5 lv hf5 ⊢;have e5:=w4.trans u5;have B5:=(B2.ext e34).ext u5;have Z5:=Z4.ext u5;have lc:cX h5 ⟨r11,0+6,none⟩=some (.int .i64 (b.toNat:Int)):=B5.cell 6;have l21:cD PG h5 (loadAt cG (pT r21 0))=some (.agg (gP (0,t)).1.cells.toArray):=aBz (B4.ext u5) rfl;by_cases c2:L.2.1=0
   ·have q2:(L.2.1 !=0)=false:=by rw[c2];rfl
    rw[if_neg (λx=>x c2)] at dS;obtain⟨hf1,hf2⟩:=hf5 c2;have last:¬(1<b.toNat∨16<L.1.length)->(bY (cC PG (binOp BinOp.lss aR (.int .i64 (((t.drop 16).length-L.2.2.length:Nat):Int)) (.int .i64 ((t.drop 16).length:Int)))) λv62=>
      cN v62
      (cM PG (cQ bW (pT r1 0) (Rc.zero.v (.slice none 0 0) (.slice none 0 0))) h5 λv64 h65=>
      bY (cD PG h65 (loadAt bW (pT r1 0))) λv66=>
      k (Value.tuple #[v66,(Value.int IntKind.i64 7)]) h65)
      (cM PG (cQ cG (pT r11 7) (.agg (gP (0,t)).1.cells.toArray)) h5 λv69 h70=>
      cM PG (cQ cY (pT r11 9) v) h70 λv72 h73=>
      bY (cD PG h73 (loadAt bW (pT r11 0))) λv74=>
      cM PG (cQ bW (pT r1 0) v74) h73 λv75 h76=>
      bY (cD PG h76 (loadAt bW (pT r1 0))) λv77=>
      k (Value.tuple #[v77,(Value.int IntKind.i64 0)]) h76)):=by
     intro c3;rw[if_neg c3] at dS;by_cases c4:L.2.2=[]
     ·have g4:((((t.drop 16).length-L.2.2.length:Nat):Int)<((t.drop 16).length:Int))=False:=eq_false (by rw[c4];simp);rw[if_neg (λx=>x c4)] at dS;simp only[g4,cB,reduceIte,cJ,Nat.reduceAdd];refine cG.put B5 (vs:=(gP (0,t)).1.cells) (o:=7) rfl (by show 7+2≤10;decide) (aL4 _) λh6 B6 u6=>?_;refine cY.put B6 (o:=9) (by show 9<10;decide) O5.slR.isc λh7 B7 u7=>?_;have B7:Bx h7 r11 (Rc.cells ⟨2,Dm.zero,(b.toNat:Int),(gP (0,t)).1,L.1.map Nt.of⟩ (.slice none 0 0) v):=B7;have u67:=u6.trans u7;simp only[aHD B7,iH,zPP];have S7:yJ h7 v (L.1.map Nt.of):=aEk O5.slR (O5.newV fG) ((B2.ext e34).known) u67;exact fin _ 0 v dS S7 NV rfl (Z5.upd u67 (by simpa using n1)) (e5.fresh u67 f11)
     ·have g4:((((t.drop 16).length-L.2.2.length:Nat):Int)<((t.drop 16).length:Int))=True:=by
       have:0<L.2.2.length:=aI8.2 c4;exact eq_true (by omega)
      rw[if_pos c4] at dS;simp only[g4,cB,reduceIte,cJ,Nat.reduceAdd];exact bad 7 dS Z5 e5
    by_cases c3:1<b.toNat
    ·have g3:((1:Int)<(b.toNat:Int))=True:=eq_true (by omega);rw[if_pos (.inl c3)] at dS;simp only[dY,q2,bW.f2,aR.load,lc,g3,uS,cB,reduceIte,cJ,Nat.reduceAdd];exact bad 5 dS Z5 e5
    ·have g3:((1:Int)<(b.toNat:Int))=False:=eq_false (by omega);by_cases c5:16<L.1.length
     ·have g5:((16:Int)<(L.1.length:Int))=True:=eq_true (by omega);rw[if_pos (.inr c5)] at dS;simp only[dY,q2,bW.f2,aR.load,lc,g3,lv,g5,uS,cB,reduceIte,cJ,Nat.reduceAdd];exact bad 5 dS Z5 e5
     ·have g5:((16:Int)<(L.1.length:Int))=False:=eq_false (by omega);simp only[dY,q2,bW.f2,bW.f3,bW.f4,aR.load,lc,g3,lv,g5,c2,if_true,iO,uS,l21,cB,reduceIte,cJ,Nat.reduceAdd];have:=last (by omega);simp only[cB,reduceIte,cJ,Nat.reduceAdd] at this;exact this
   ·have q2:(L.2.1 !=0)=true:=bne_iff_ne.2 c2;rw[if_pos c2] at dS;simp only[dY,q2,uS,cB,reduceIte,cJ,Nat.reduceAdd];exact bad _ dS Z5 e5
  ·have q:((gP (0,t)).2.1 !=0)=true:=bne_iff_ne.2 c;simp only[dY,q,uS,cB,reduceIte,cJ,Nat.reduceAdd];exact bad _ (if_pos c) Z4 w4
def aSz{h:PH}(s:Tx)(hs:s.length≤1000000){k:cF}
  (hk:∀h' vi vn,jV h' vi (gH s).1.s.its->yJ h' vn (gH s).1.ns->iM h vi->iM h vn->cZ h h'->k (.tuple #[(gH s).1.v vi vn,.int .i64 (gH s).2]) h'):bT PG aAo #[.string (tx s)] h k:=by
 apply zT.call;unfold zT;intro r1 hr1
 try rw[cO]
 have Z1:Bx (h.set r1 (.cells (dF PG bW) bW)) r1 (Rc.zero.cells (.slice none 0 0) (.slice none 0 0)):=bW.zbox;have u1:cZ h (h.set r1 (.cells (dF PG bW) bW)):=cT.new hr1;generalize h.set r1 (.cells (dF PG bW) bW)=h1 at *;have k1:h1 r1≠none:=Z1.known;have fin:∀{h':PH} (x:Rc) (e:Int) (vi vn:Value),gH s=(x,e)->jV h' vi x.s.its->yJ h' vn x.ns->iM h1 vi->iM h1 vn->Bx h' r1 (Rc.zero.cells (.slice none 0 0) (.slice none 0 0))->cZ h h'->cM PG (cQ bW (pT r1 0) (x.v vi vn)) h' λ_ h8=>bY (cD PG h8 (loadAt bW (pT r1 0))) λv9=>k (.tuple #[v9,.int .i64 e]) h8:=by
  intro h' x e vi vn hx S S' N N' B w;refine bW.put B (vs:=x.cells vi vn) (o:=0) rfl (by show 0+10≤10;decide) (Rc.isC _ S.isc S'.isc) λh3 B3 u3=>?_;have B3:Bx h3 r1 (x.cells vi vn):=B3;simp only[aHD B3,iH,zPP];have:=hk h3 vi vn (by rw[hx];exact aEk S N k1 u3) (by rw[hx];exact aEk S' N' k1 u3) (N.of u1) (N'.of u1) (w.fresh u3 (dZ.one hr1));rw[hx] at this;exact this
 cases s with
 | nil=>
  have e0:cD PG h1 (fK .eql aT (.tmp 4) (.const (.string {data:=#[]})) (.string (tx [])) (.string {data:=#[]}))=some (.bool true):=by
   have:=aFB (t:=aT) (h:=h1) (x:=.tmp 4) (y:=.const (.string {data:=#[]})) (a:=[]) (b:=[]);exact this
  simp only[e0,uS,cB,reduceIte,cJ,Nat.reduceAdd];exact fin Rc.zero 6 _ _ aNX aDG aLI iM.nil iM.nil Z1 u1
 | cons b t=>
  have e0:cD PG h1 (fK .eql aT (.tmp 4) (.const (.string {data:=#[]})) (.string (tx (b::t))) (.string {data:=#[]}))=some (.bool false):=by
   have:=aFB (t:=aT) (h:=h1) (x:=.tmp 4) (y:=.const (.string {data:=#[]})) (a:=b::t) (b:=[]);exact this
  have i0:cC PG (Instr.index aT (.string (tx (b::t))) (.int .i64 0))=some (.int .u8 b.toNat):=nL (j:=0) aT.und rfl;have ll:(b::t).length=t.length+1:=rfl;have c1:cC PG (Instr.sliceAt aT (.string (tx (b::t))) (some (.int .i64 1)) none none)=some (.string (tx t)):=by
   have:=kL (P:=PG) (t:=aT) (l:=b::t) (i:=1) (j:=(b::t).length) (lo:=some (.int .i64 1)) (hi:=none) aT.und (.inr ⟨_,rfl⟩) (.inl ⟨rfl,rfl⟩) (by rw[ll];omega) (mG _);rw[this,zLJ];rfl
  rw[ll] at hs;by_cases h1':b=1
  ·subst h1';have q1:((((1:UInt8).toNat:Nat):Int)==1)=true:=rfl;simp only[e0,i0,fO,q1,c1,cB,reduceIte,cJ,Nat.reduceAdd];refine aRz t (by omega) λh2 vi S N hns u2=>?_;simp only[cB,reduceIte,cJ,Nat.reduceAdd];refine fin _ _ vi (.slice none 0 0) (aK9 t) S (by rw[hns];exact aLI) N iM.nil (Z1.ext u2) (u1.trans u2)
  ·have q1:((b.toNat:Int)==1)=false:=by
    rw[beq_eq_false_iff_ne];intro e;exact h1' (UInt8.toNat_inj.1 (by show b.toNat=1;omega))
   by_cases h2':b=2
   ·subst h2';have q1:((((2:UInt8).toNat:Nat):Int)==1)=false:=rfl;have q2:((((2:UInt8).toNat:Nat):Int)==2)=true:=rfl;simp only[e0,i0,fO,q1,q2,c1,cB,reduceIte,cJ,Nat.reduceAdd];refine aRa t (by omega) λh2 vn S N hns u2=>?_;simp only[cB,reduceIte,cJ,Nat.reduceAdd];refine fin _ _ (.slice none 0 0) vn (aLh t) (by rw[hns];exact aDG) S iM.nil N (Z1.ext u2) (u1.trans u2)
   ·have q2:((b.toNat:Int)==2)=false:=by
     rw[beq_eq_false_iff_ne];intro e;exact h2' (UInt8.toNat_inj.1 (by show b.toNat=2;omega))
    simp only[e0,i0,fO,q1,q2,uS,cB,reduceIte,cJ,Nat.reduceAdd];exact fin Rc.zero 5 _ _ (aLA h1' h2') aDG aLI iM.nil iM.nil Z1 u1
def aPd(s:Tx):(gH s).1.s.its.length≤255∧(gH s).1.ns.length≤255:=by
 cases s with
 | nil=>rw[aNX];exact⟨lD _,lD _⟩
 | cons b t=>
  by_cases h1:b=1
  ·subst h1;rw[aK9];unfold aBu;have h0:Rc.zero.s.its.length≤255∧Rc.zero.ns.length≤255:=⟨lD _,lD _⟩;split
   ·exact h0
   ·split
    ·exact h0
    ·split
     ·exact h0
     ·split
      ·exact h0
      ·split
       ·exact h0
       ·exact⟨by show((fC 2 (0,t.drop 32)).1.map It.of).length≤255;rw[iF];exact aIG 2 _,lD _⟩
  ·by_cases h2:b=2
   ·subst h2;rw[aLh];have h0:Rc.zero.s.its.length≤255∧Rc.zero.ns.length≤255:=⟨lD _,lD _⟩;cases t with
    | nil=>exact h0
    | cons b t=>
     simp only[aES];split
     ·exact h0
     ·split
      ·exact h0
      ·split
       ·exact h0
       ·split
        ·exact h0
        ·exact⟨lD _,by show((fC 4 (0,t.drop 16)).1.map Nt.of).length≤255;rw[iF];exact aIG 4 _⟩
   ·rw[aLA h1 h2];exact⟨lD _,lD _⟩
def aTz(R:Dm×Int):Dm×Int:=if R.2≠0 then(Dm.zero,R.2) else R
def aCo(room:Int):∀(l:List Tx) (st:Dm×Int),st.2≠0->l.foldl (mK room) st=st
 | [],st,_=>rfl
 | s::l,st,h=>by
  rw[zLt];have:mK room st s=st:=by unfold mK;rw[if_neg h]
  rw[this];exact aCo room l st h
def aIk{h:PH}{r:Nat}{x:Dm}{v:Value}(B:Bx h r (x.cells v)):cD PG h (loadAt bR (pT r 0))=some (x.v v):=bR.agg B (by show 0+5≤5;decide)
def aQt{h:PH}{room:Int}{x:Value}{l:List Tx}(S:hM h 1 x (l.map jJ))(hl:l.length≤100000)(hs:∀s∈l,s.length≤1000000){k:cF}
  (hk:∀h' v',jV h' v' (xL room l).1.its->iM h v'->cZ h h'->k (.tuple #[(xL room l).1.v v',.int .i64 (xL room l).2]) h'):bT PG nV #[.int .i64 room,x] h k:=by
 apply xX.call;unfold xX;have lx:=tP S;intro r1 hr1
 try rw[cO]
 have Z1:Bx (h.set r1 (.cells (dF PG bR) bR)) r1 (Dm.zero.cells (.slice none 0 0)):=bR.zbox;have u1:cZ h (h.set r1 (.cells (dF PG bR) bR)):=cT.new hr1;generalize h.set r1 (.cells (dF PG bR) bR)=h1 at *;simp only[pZ,cB,reduceIte,cJ,Nat.reduceAdd];intro r4 hr4
 try rw[cO]
 refine bR.fill (vs:=Dm.zero.cells (.slice none 0 0)) hr4 rfl (Dm.isC _ rfl) λh2 B2 u2=>?_;have e2:=u1.trans u2;have Z2:=Z1.ext u2;have n14:r1≠r4:=Z1.apart hr4;have k1:h2 r1≠none:=Z2.known;have k4:h2 r4≠none:=B2.known;have f1:dZ h [r1]:=dZ.one hr1;have f4:dZ h [r4]:=dZ.one (u1.none hr4);have fin:∀{h':PH} (y:Dm) (e:Int) (vi:Value),xL room l=(y,e)->jV h' vi y.its->iM h2 vi->(∃cs:List Value,cs.length=5∧Bx h' r1 cs)->cZ h h'->cM PG (cQ bR (pT r1 0) (y.v vi)) h' λ_ h8=>bY (cD PG h8 (loadAt bR (pT r1 0))) λv9=>k (.tuple #[v9,.int .i64 e]) h8:=by
  intro h' y e vi hy V N ⟨cs,hcs,B⟩ w;refine bR.put B (vs:=y.cells vi) (o:=0) rfl (by omega) (Dm.isC _ V.isc) λh3 B3 u3=>?_;rw[zLd,zLU,aBA (by omega),zLQ] at B3;simp only[aIk B3,iH,zPP];have:=hk h3 vi (by rw[hy];exact aEk V N k1 u3) (N.of e2) (w.fresh u3 f1);rw[hy] at this;exact this
 have bad:∀{h':PH} (e:Int),xL room l=(Dm.zero,e)->(∃cs:List Value,cs.length=5∧Bx h' r1 cs)->cZ h h'->cM PG (cQ bR (pT r1 0) (Dm.zero.v (.slice none 0 0))) h' λ_ h8=>bY (cD PG h8 (loadAt bR (pT r1 0))) λv9=>k (.tuple #[v9,.int .i64 e]) h8:=
  λe he B w=>fin Dm.zero e (.slice none 0 0) he aDG iM.nil B w
 cases l with
 | nil=>
  have q:((([]:List Tx).length:Int)==0)=true:=rfl;simp only[lx,fO,q,aIk B2,cB,reduceIte,cJ,Nat.reduceAdd];exact fin Dm.zero 3 (.slice none 0 0) rfl aDG iM.nil ⟨_,rfl,Z2⟩ e2
 | cons s0 l=>
  have q:(((s0::l).length:Int)==0)=false:=by rw[beq_eq_false_iff_ne,iP];omega
  simp only[lx,fO,q,cB,reduceIte,cJ,Nat.reduceAdd];have hT:xL room (s0::l)=aTz (l.foldl (mK room) (lQ room s0)):=rfl;obtain⟨T,hTT⟩:∃T,xL room (s0::l)=T:=⟨_,rfl⟩;rw[hTT] at hT;refine⟨λvs h'=>∃(i:Nat) (D:Dm) (v:Value),i≤(s0::l).length∧vs=[.int .i64 room,x,pT r1 0,pT r4 0,.int .i64 (i:Int)]∧Bx h' r4 (D.cells v)∧Bx h' r1 (Dm.zero.cells (.slice none 0 0))∧jV h' v D.its∧iM h2 v∧cZ h h'∧cT [r4] h2 h'∧(1≤i->OkD D room∧D.wf∧T=aTz (((s0::l).drop i).foldl (mK room) (D,0))),fN (s0::l).length 4,⟨0,Dm.zero,.slice none 0 0,by omega,rfl,B2,Z2,aDG,iM.nil,e2,cT.refl,λh=>by omega⟩,?_⟩;rintro ρ h' ⟨i,D,v,hi,hvs,B,Z,V,NV,w,w2,inv⟩;simp only[hY,iZ,kP,and_true] at hvs;obtain⟨x0,x1,x4,x6,x7⟩:=hvs;unfold aDB;rw[x0,x1,x4,x6,x7];by_cases hlt:i<(s0::l).length
  ·have g:((i:Int)<((s0::l).length:Int))=True:=eq_true (by omega);have gi:=nP (i:=i) (by omega);obtain⟨s,hx⟩:∃s,(s0::l)[i]? =some s:=⟨_,kO hlt⟩;have hsl:=hs s (wP hx);obtain⟨p,i1,i2⟩:=aFR (S.ext w) hx;have ed:(s0::l).drop i=s::(s0::l).drop (i+1):=by
    rw[aAy hlt];have:(s0::l)[i]=s:=by rw[kO hlt] at hx;simpa using hx
    rw[this]
   simp only[lx,g,i1,i2,cB,reduceIte,cJ,Nat.reduceAdd];refine aSz s hsl λh3 vi vn Si Sn Ni Nn u3=>?_;have hfew:=aPd s;have hwf:=aJM s;obtain⟨P,hP⟩:∃P,gH s=P:=⟨_,rfl⟩;rw[hP] at Si Sn hfew hwf ⊢;simp only[cB,reduceIte,cJ,Nat.reduceAdd];intro r24 hr24
   try rw[cO]
   refine bW.fill (vs:=P.1.cells vi vn) hr24 rfl (Rc.isC _ Si.isc Sn.isc) λh4 B4 u4=>?_;have e34:=u3.trans u4;have w4:=w.trans e34;have w24:=w2.trans e34.upd
   -- blocks known in h2 stay known
   have Nh:∀{u:Value},iM h' u->iM h2 u:=λN a n c e=>by
    cases eb:h2 a.block with
    | none=>rfl
    | some o=>
     have h0:=N a n c e;by_cases hb:a.block=r4
     ·rw[hb] at h0;exact absurd h0 B.known
     ·have:=w2 a.block o eb (by simpa using hb);rw[h0] at this;cases this
   have Zc:∃cs:List Value,cs.length=5∧Bx h4 r1 cs:=⟨_,rfl,Z.ext e34⟩;have est:i=0->T=aTz (((s0::l).drop 1).foldl (mK room) (lQ room s))∧s=s0:=λh0=>by
    subst h0;simp only[zLK,zL4] at hx;subst hx;exact⟨hT,rfl⟩
   by_cases c:P.2=0
   ·have q3:(P.2 !=0)=false:=by rw[c];rfl
    by_cases c0:i=0
    ·have q0:((i:Int)==0)=true:=by simp[c0]
     obtain⟨hT0,-⟩:=est c0;have ef:lQ room s=if P.1.k≠1 then(Dm.zero,5) else if chk P.1.s room≠0 then(Dm.zero,chk P.1.s room) else(P.1.s,0):=by
      unfold lQ;rw[hP,if_neg (λe=>e c)]
     have lk:cX h4 ⟨r24,0,none⟩=some (.int .i64 P.1.k):=B4.cell 0;have ls:cD PG h4 (loadAt bR (pT r24 (0+1)))=some (P.1.s.v vi):=bR.agg B4 (by show 0+1+5≤10;decide);by_cases c1:P.1.k=1
     ·have q1:(P.1.k !=1)=false:=by rw[c1];rfl
      rw[if_neg (λe=>e c1)] at ef;simp only[dY,q3,fO,q0,bW.f0,bW.f1,aR.load,lk,q1,ls,cB,reduceIte,cJ,Nat.reduceAdd];refine aII (Si.ext u4) (by omega) hwf.s λh5 u5=>?_;by_cases c2:chk P.1.s room=0
      ·have q2:(chk P.1.s room !=0)=false:=by rw[c2];rfl
       have ok:=aDS.1 c2;rw[if_neg (λe=>e c2)] at ef;have ls5:cD PG h5 (loadAt bR (pT r24 (0+1)))=some (P.1.s.v vi):=bR.agg (B4.ext u5) (by show 0+1+5≤10;decide);simp only[dY,q2,bW.f1,ls5,cB,reduceIte,cJ,Nat.reduceAdd];refine bR.put ((B.ext e34).ext u5) (vs:=P.1.s.cells vi) (o:=0) rfl (by show 0+5≤5;decide) (Dm.isC _ Si.isc) λh6 B6 u6=>?_;have B6:Bx h6 r4 (P.1.s.cells vi):=B6;simp only[sX,yN,gi,cB,reduceIte,cJ,Nat.reduceAdd];refine⟨⟨i+1,P.1.s,vi,by omega,rfl,B6,((Z.ext e34).ext u5).upd u6 (by simpa using n14),aEk ((Si.ext u4).ext u5) (Nh Ni) k4 u6,Nh Ni,(w4.trans u5).fresh u6 f4,(w24.trans u5.upd).trans u6,λ_=>⟨ok,hwf.s,?_⟩⟩,by have hh:=hlt;rw[iP] at hh;simp[fN,x7];omega⟩;rw[hT0,ef,c0]
      ·have q2:(chk P.1.s room !=0)=true:=bne_iff_ne.2 c2;rw[if_pos c2] at ef;simp only[dY,q2,pZ,cB,reduceIte,cJ,Nat.reduceAdd];refine bad _ ?_ ⟨_,rfl,(Z.ext e34).ext u5⟩ (w4.trans u5);rw[hTT,hT0,ef,aCo _ _ _ c2];exact if_pos c2
     ·have q1:(P.1.k !=1)=true:=bne_iff_ne.2 c1;rw[if_pos c1] at ef;simp only[dY,q3,fO,q0,bW.f0,aR.load,lk,q1,pZ,cB,reduceIte,cJ,Nat.reduceAdd];refine bad 5 ?_ Zc w4;rw[hTT,hT0,ef,aCo _ _ _ (by show(5:Int)≠0;decide)];rfl
    ·have q0:((i:Int)==0)=false:=by rw[beq_eq_false_iff_ne];omega
     obtain⟨ok,wf,hTi⟩:=inv (by omega);have hr2:=ok.r2;have hlen:=ok.len;rw[ed,zLt] at hTi;have er:mK room (D,0) s=lA D room P.1:=by
      unfold mK;rw[if_pos rfl,hP,if_pos c]
     rw[er] at hTi;simp only[dY,q3,fO,q0,aIk (B.ext e34),aHD B4,cB,reduceIte,cJ,Nat.reduceAdd];refine aUT (r:=P.1) (V.ext e34) wf (by omega) (Si.ext u4) (Sn.ext u4) hwf (by omega) (by omega) λh5 v' S5 N5 u5=>?_;have N5':iM h2 v':=by
      rcases N5 with N5|e
      ·exact Nh (N5.of e34)
      ·rw[e];exact Nh Ni
     have hg:=aFZ (d:=D) (room:=room) (r:=P.1);have hw:=aJ2 (d:=D) (room:=room) (r:=P.1);obtain⟨Q,hQ⟩:∃Q,lA D room P.1=Q:=⟨_,rfl⟩;rw[hQ] at S5 hTi hg hw ⊢;simp only[cB,reduceIte,cJ,Nat.reduceAdd];intro r63 hr63
     try rw[cO]
     refine bR.fill (vs:=Q.1.cells v') hr63 rfl (Dm.isC _ S5.isc) λh6 B6 u6=>?_;have e56:=u5.trans u6;by_cases c5:Q.2=0
     ·have q5:(Q.2 !=0)=false:=by rw[c5];rfl
      simp only[dY,q5,aIk B6,cB,reduceIte,cJ,Nat.reduceAdd];refine bR.put ((B.ext e34).ext e56) (vs:=Q.1.cells v') (o:=0) rfl (by show 0+5≤5;decide) (Dm.isC _ S5.isc) λh7 B7 u7=>?_;have B7:Bx h7 r4 (Q.1.cells v'):=B7;simp only[sX,yN,gi,cB,reduceIte,cJ,Nat.reduceAdd];refine⟨⟨i+1,Q.1,v',by omega,rfl,B7,((Z.ext e34).ext e56).upd u7 (by simpa using n14),aEk (S5.ext u6) N5' k4 u7,N5',(w4.trans e56).fresh u7 f4,(w24.trans e56.upd).trans u7,λ_=>⟨(hg c5).2.2.1,hw c5 wf hwf,?_⟩⟩,by have hh:=hlt;rw[iP] at hh;simp[fN,x7];omega⟩;rw[hTi];congr 2;exact Prod.ext rfl c5
     ·have q5:(Q.2 !=0)=true:=bne_iff_ne.2 c5;simp only[dY,q5,pZ,cB,reduceIte,cJ,Nat.reduceAdd];refine bad _ ?_ ⟨_,rfl,(Z.ext e34).ext e56⟩ (w4.trans e56);rw[hTT,hTi,aCo _ _ _ c5];exact if_pos c5
   ·have q3:(P.2 !=0)=true:=bne_iff_ne.2 c;simp only[dY,q3,pZ,cB,reduceIte,cJ,Nat.reduceAdd];refine bad _ ?_ Zc w4;rw[hTT];by_cases c0:i=0
    ·obtain⟨hT0,-⟩:=est c0;have ef:lQ room s=(Dm.zero,P.2):=by unfold lQ;rw[hP,if_pos c]
     rw[hT0,ef,aCo _ _ _ c];exact if_pos c
    ·obtain⟨-,-,hTi⟩:=inv (by omega);have er:mK room (D,0) s=(D,P.2):=by unfold mK;rw[if_pos rfl,hP,if_neg c]
     rw[hTi,ed,zLt,er,aCo _ _ _ c];exact if_pos c
  ·have g:((i:Int)<((s0::l).length:Int))=False:=eq_false (by omega);obtain⟨ok,wf,hTi⟩:=inv (by rw[iP] at hlt;omega);rw[aBA (by omega)] at hTi;have hTi:T=(D,0):=hTi;simp only[lx,g,aIk B,cB,reduceIte,cJ,Nat.reduceAdd];exact fin D 0 v (by rw[hTT,hTi]) V NV ⟨_,rfl,Z⟩ w
def aK6{size gen ser m:Nat}:∀(xs:List Tx) (k p:Nat) (t:Tx),(∀s∈xs,s.length≤m)->(iX size gen ser xs k p t).1.length≤t.length+xs.length*m
 | [],_,_,_,_=>lD _
 | x::xs,k,p,t,h=>by
  have hx:=h x (by simp);have hb:=(aLK size x).2;have hm:(xs.length+1)*m=xs.length*m+m:=Nat.succ_mul _ _;rw[aEV,iP];have ih:=λq=>aK6 (size:=size) (gen:=gen) (ser:=ser) (m:=m) xs (k+1) q (t++(fR size x).1.b) λs hs=>h s (by simp[hs]);generalize (if k=0 then(fR size x).1.parts else p)=q at *;split
  ·exact lD _
  ·split
   ·show(t++(fR size x).1.b).length≤_;rw[jO];omega
   ·have:=ih q;rw[jO] at this;omega
def aKH{size gen m:Nat}:∀(f:Nat) (xs:List Tx) (ser:Nat),(∀s∈xs,s.length≤m)->∀t∈(jU size gen f xs ser).1,t.length≤xs.length*m
 | 0,_,_,_,t,ht=>by cases ht
 | f+1,xs,ser,h,t,ht=>by
  unfold jU at ht;split at ht
  ·cases ht
  ·rcases iR.1 ht with rfl|ht
   ·have:=aK6 (size:=size) (gen:=gen) (ser:=ser) (m:=m) xs 0 0 [] h;simpa using this
   ·have:=aKH f (xs.drop (iX size gen ser xs 0 0 []).2) (ser+1) (λs hs=>h s (List.mem_of_mem_drop hs)) t ht;rw[jC] at this;exact zLE this (wA _ (by omega))
def aK4{d:Dk}(H:d.Ok)(h4:4≤d.sectors)(hs:d.sectors≤1000){hd:Hd}(hseg:hd.seg≤1)(slot:Nat):∀t∈(zN d hd slot).2,t.length≤1000000:=by
 intro t ht;have hz:=H.size.2;have hfit:=aAP d h4 hseg;have:=aKH (size:=d.size) (gen:=hd.gen) (m:=d.size) (d.segs+1) (d.secs (d.base hd.seg) d.segs) 0 (λs hs=>Nat.le_of_eq (aF1 H (by omega) s hs)) t ht;rw[Dk.secs_len] at this;have hsg:d.segs≤1000:=by unfold Dk.segs;omega
 have:d.segs*d.size≤1000*512:=Nat.mul_le_mul hsg hz;omega
def aNy{d:Dk}(H:d.Ok)(hs:d.sectors≤1000):∀t∈(fH d).2.1.2,t.length≤1000000:=by
 have nil:∀t∈([]:List Tx),t.length≤1000000:=λt ht=>by cases ht
 unfold fH;split
 ·exact nil
 ·rename_i h4;split
  ·exact nil
  ·split
   ·split
    ·exact nil
    ·have hp:=oL [(fQ d.size ⟨1,0⟩).1] H.fl 1;exact aK4 hp.1 (by rw[hp.2.2.1,d.fl_geo.2];omega) (by rw[hp.2.2.1,d.fl_geo.2];exact hs) (lD _) _
   ·exact aK4 H.fl (by rw[d.fl_geo.2];omega) (by rw[d.fl_geo.2];exact hs) (aHw _ _ _).1 _
def aLV{h:PH}{r a m:Nat}{d d2:Dk}{jp vp:JP}{e room:Int}{p q:Pl}{F:List Nat}(H:lF r a m d jp e d2 vp room p q h F)(wp:p.wf)(wq:q.wf)(hs:d.sectors≤1000)(hs2:d2.sectors≤1000)(hb:d.buf.length≤800000)(hb2:d2.buf.length≤800000){k:cF}
  (hk:∀h' F' jp' vp',lF r a m (iK d room p q).1 jp' (iK d room p q).2.2 (iK d2 room p q).1 vp' room p q h' F'->eN h F h' F'->aEB (iK d room p q) jp'->aEB (iK d2 room p q) vp'->k (.bool (decide ((iK d room p q).2.2=(iK d2 room p q).2.2))) h'):bT PG mM #[pT r 0] h k:=by
 obtain⟨Fa,Fm,eF,B,P,D,n⟩:=id H.here;obtain⟨Fd,Dd,-⟩:=DpA.disk D;refine aPQ H wp wq hs hs2 hb hb2 (λh v S hne k hk=>?_) hk;have hfew:=aIW Dd.ok;have hsg:d2.segs≤1000:=by unfold Dk.segs;omega
 exact aQt S (by omega) (aNy Dd.ok hs2) hk
def aJy{d:Dk}{w:Wl}{l:List Tx}(L:Log d w l)(hg:w.hd.gen<18446744073709551614){s:Dm}{room:Int}(ok:OkD s room)(wf:s.wf)(hp:dQ d.size (pU s).bs.length≤d.segs):
  ∃d' w',fS d w (kU s)=(d',w',0)∧aDr d' ⟨w',room,s⟩∧w'.hd.gen=w.hd.gen+1∧d'.size=d.size∧d'.sectors=d.sectors:=by
 rcases aKW L hg ok wf with h|h
 ·exact h
 ·obtain⟨d',w',e,-⟩:=aNo L (aHi (aFW ok)) hp hg;rw[aOW ok,e] at h;simp only[Prod.mk.injEq] at h;exact absurd h.2.2 (by decide)
def aSC{d:Dk}(H:aRe d)(h4:4≤d.sectors){room:Int}{p q:Pl}(wp:p.wf)(wq:q.wf)(hc:chk ⟨p,q,[]⟩ room=0)(hp:dQ d.size (pU ⟨p,q,[]⟩).bs.length≤d.segs):
  ∃d' w',iK d room p q=(d',⟨w',room,⟨p,q,[]⟩⟩,0)∧aDr d' ⟨w',room,⟨p,q,[]⟩⟩∧w'.hd.gen=2∧d'.size=d.size∧d'.sectors=d.sectors:=by
 obtain⟨d1,w1,e1,L,g1,z1,z2⟩:=aRP H h4;have es:kZ room ⟨p,q,[]⟩ []=(⟨p,q,[]⟩,0):=by unfold kZ;rw[if_pos rfl]
 obtain⟨d',w',e,I,g,y1,y2⟩:=aJy L (by omega) (aDS.1 hc) (s:=⟨p,q,[]⟩) ⟨wp,wq,by simp⟩ (by rw[z1,aHg z2];exact hp);refine⟨d',w',?_,I,by omega,y1.trans z1,y2.trans z2⟩;unfold iK;rw[if_neg (by simp[hc]),e1];simp only;rw[if_neg (by simp),es];simp only;rw[if_neg (by simp),e];simp only;rw[if_neg (by simp)]
def aMR{d:Dk}{j:Jn}(H:aDr d j)(hg:j.w.hd.gen<18446744073709551614){p q:Pl}(hc:chk ⟨p,q,[]⟩ j.room=0)(hp:dQ d.size (pU j.s).bs.length≤d.segs):
  ∃d' w',iK d j.room p q=(d',⟨w',j.room,j.s⟩,0)∧aDr d' ⟨w',j.room,j.s⟩∧w'.hd.gen=j.w.hd.gen+1∧d'.size=d.size∧d'.sectors=d.sectors:=by
 rcases aQ7 H hg hc with h|h
 ·exact h
 ·obtain⟨s0,rs,L,rg,wk⟩:=H.log;have eo:=aOS L;have es:kZ j.room ⟨p,q,[]⟩ ((pU s0::rs).map Rc.bs)=(j.s,0):=by
   unfold kZ;rw[if_neg (by simp),aOf rg rfl,wk];simp
  have L':Log d ⟨j.w.hd,j.w.slot,j.w.used,j.w.ser,false,false⟩ ((pU s0::rs).map Rc.bs):=⟨L.ok,L.arm,L.buf,L.four,L.g1,L.g2,L.seg,L.slot,L.head,L.other,L.used,L.fits,L.ser,L.recs,L.short,L.rest,L.all,rfl⟩;obtain⟨d',w',e,-⟩:=aJy L' hg H.ok H.wf hp;unfold iK at h;rw[if_neg (by simp[hc]),eo] at h;simp only at h;rw[if_neg (by simp),es] at h;simp only at h;rw[if_neg (by simp),e] at h;simp only at h;rw[if_neg (by simp)] at h;cases h
def aT5{d:Dk}{j:Jn}(H:aDr d j)(hg:j.w.hd.gen<18446744073709551614){ch:Int}{q:Pl}{ns:List Nt}(wf:(gM ch q ns).wf)(h0:(lA j.s j.room (gM ch q ns)).2=0)(hp:dQ d.size (pU (lA j.s j.room (gM ch q ns)).1).bs.length≤d.segs):
  ∃d' j',oT d j ch q ns=(d',j',0)∧aDr d' j'∧j'.w.hd.gen≤j.w.hd.gen+1∧j'.room=j.room∧d'.size=d.size∧d'.sectors=d.sectors∧j'.s=(lA j.s j.room (gM ch q ns)).1:=by
 obtain⟨d',j',e,eq,I,g,r,z1,z2,-,k⟩:=aUD H hg wf;rcases k h0 with⟨e0,es⟩|⟨e2,-⟩
 ·subst e0;exact⟨d',j',eq,I,g,r,z1,z2,es⟩
 ·exfalso;subst e2;obtain⟨-,hr,ho,-⟩:=aFZ h0;have hw:=aJ2 h0 H.wf wf;obtain⟨s0,rs,L,-,-⟩:=H.log;have eb:(gM ch q ns).bytes.1=(gM ch q ns).bs:=by
   rcases wV (gM ch q ns) with⟨-,b⟩|⟨a,-⟩
   ·rw[b]
   ·exact absurd hr a
  unfold oT at eq;rw[if_neg (by rw[H.broken];simp),if_neg (by simp[h0])] at eq;unfold qM at eq;rw[eb] at eq;cases hf:fits d j.w (gM ch q ns).bs.length with
  | true=>
   rw[hf,if_pos rfl] at eq;obtain⟨d1,w1,e1,-⟩:=aLl L H.ready (aHi hr) hf;rw[e1] at eq;simp only[Prod.mk.injEq] at eq;exact absurd eq.2.2 (by decide)
  | false=>
   rw[hf,if_neg (by simp)] at eq;obtain⟨d1,w1,e1,-⟩:=aJy L hg ho hw hp;rw[e1] at eq;simp only[Prod.mk.injEq] at eq;exact absurd eq.2.2 (by decide)
def aS1{size sectors:Nat}(ok:fU size)(h1:1≤sectors)(h2:sectors≤4096):aRe (Dk.new size sectors):=⟨Dk.new_ok ok h1 h2,rfl,rfl,λi hi=>by
 show(List.replicate sectors (kT size)).getD i []=kT size;have hi:i<sectors:=hi;rw[aD4,List.getElem?_replicate,if_pos hi];rfl⟩
def jS0:Dm:=⟨⟨5,0⟩,⟨5,0⟩,[]⟩
def jPk:Pk:=⟨0,1,9,⟨#[]⟩⟩
def jN:Nt:=⟨1,jPk⟩
def jS1:Dm:=⟨⟨6,1⟩,⟨5,0⟩,[⟨jPk,1⟩]⟩
def aQk:lA jS0 2 (gM 0 ⟨6,1⟩ [jN])=(jS1,0):=by decide +kernel
def aRg:chk jS0 2=0:=by decide +kernel
def aV8:dQ 64 (pU jS0).bs.length≤9:=by decide +kernel
def aVz:dQ 64 (pU jS1).bs.length≤9:=by decide +kernel
def aXy:(gM 0 ⟨6,1⟩ [jN]).wf:=⟨⟨Pl.wf_zero,Pl.wf_zero,by simp[gM,Dm.zero]⟩,⟨by decide,by decide⟩,by
 intro x hx;simp only[gM,iL] at hx;subst hx;exact⟨by decide,by decide,by decide,by decide⟩⟩
def aHE:Pl.wf ⟨5,0⟩:=⟨by decide,by decide⟩
def aVL:Pl.wf ⟨6,1⟩:=⟨by decide,by decide⟩
def aXQ:∃d1 w1 d2 j2 d3 w3 d4 w4,
  iK (Dk.new 64 20) 2 ⟨5,0⟩ ⟨5,0⟩=(d1,⟨w1,2,jS0⟩,0)∧oT d1 ⟨w1,2,jS0⟩ 0 ⟨6,1⟩ [jN]=(d2,j2,0)∧
  iK d2 2 ⟨5,0⟩ ⟨5,0⟩=(d3,⟨w3,2,jS1⟩,0)∧iK d1 2 ⟨5,0⟩ ⟨5,0⟩=(d4,⟨w4,2,jS0⟩,0)∧d1.sectors=20∧d2.sectors=20∧d1.buf=[]∧d2.buf=[]:=by
 have B:=aS1 (size:=64) (sectors:=20) (by decide) (by decide) (by decide);obtain⟨d1,w1,e1,I1,g1,z1,y1⟩:=aSC B (by decide) (room:=2) (p:=⟨5,0⟩) (q:=⟨5,0⟩) aHE aHE aRg aV8;have z1:d1.size=64:=z1;have y1:d1.sectors=20:=y1;have sg1:d1.segs=9:=by unfold Dk.segs;rw[y1]
 have e0:(lA jS0 2 (gM 0 ⟨6,1⟩ [jN])).2=0:=by rw[aQk]
 obtain⟨d2,j2,e2,I2,g2,r2,z2,y2,s2⟩:=aT5 I1 (by show w1.hd.gen<_;omega) (ch:=0) (q:=⟨6,1⟩) (ns:=[jN]) aXy e0 (by
  show dQ d1.size (pU (lA jS0 2 (gM 0 ⟨6,1⟩ [jN])).1).bs.length≤_;rw[aQk,z1,sg1];exact aVz)
 have s2:j2.s=jS1:=by
  have s2:j2.s=(lA jS0 2 (gM 0 ⟨6,1⟩ [jN])).1:=s2;rw[aQk] at s2;exact s2
 have g2:j2.w.hd.gen≤w1.hd.gen+1:=g2;have r2:j2.room=2:=r2;have sg2:d2.segs=9:=by unfold Dk.segs;rw[y2,y1]
 obtain⟨d3,w3,e3,-⟩:=aMR I2 (by omega) (p:=⟨5,0⟩) (q:=⟨5,0⟩) (by rw[r2];exact aRg) (by rw[s2,z2,z1,sg2];exact aVz);rw[r2,s2] at e3;obtain⟨d4,w4,e4,-⟩:=aMR I1 (by show w1.hd.gen<_;omega) (p:=⟨5,0⟩) (q:=⟨5,0⟩) aRg (by rw[z1,sg1];exact aV8);obtain⟨_,_,L1,-⟩:=I1.log;obtain⟨_,_,L2,-⟩:=I2.log;exact⟨d1,w1,d2,j2,d3,w3,d4,w4,e1,e2,e3,e4,y1,y2.trans y1,L1.buf,L2.buf⟩
structure aHq(h0 h:PH)(F:List Nat):Prop where
 ext:cZ h0 h
 fr:dZ h0 F
def aHq.step{h0 h h':PH}{F F':List Nat}(N:aHq h0 h F)(s:eN h F h' F'):aHq h0 h' F':=⟨N.ext.fresh s.upd N.fr,N.fr.grow N.ext s.grow⟩
def aHq.more{h0 h h':PH}{F:List Nat}(N:aHq h0 h F)(u:cZ h h'):aHq h0 h' F:=⟨N.ext.trans u,N.fr⟩
def aMe{h h':PH}{F F':List Nat}{r:Nat}{cs:List Value}(B:Bx h r cs)(n:r∉F)(s:eN h F h' F'):Bx h' r cs∧r∉F':=⟨B.upd s.upd n,λhm=>by
 rcases s.grow _ hm with hx|hx
 ·exact n hx
 ·exact B.known hx⟩
abbrev plv(q:Pl):Value:=.agg q.cells.toArray
abbrev pkv(p:Pk):Value:=.agg p.cells.toArray
structure JAc where
 (k n ch:Int)
 q:Pl
 l:List Nt
 w:List (Bool×Int)
abbrev JV:=JAc×Value×Value
def wrw(x:Bool×Int):List Value:=[.bool x.1,.int .i64 x.2]
def jrw(y:JV):List Value:=[.int .i64 y.1.k,.int .i64 y.1.n,.int .i64 y.1.ch,.int .u64 y.1.q.h,.int .i64 y.1.q.i,y.2.1,y.2.2]
abbrev CSl(h:PH)(v:Value)(l:List (Bool×Int)):Prop:=hM h 2 v (l.map wrw)
structure JAc.wf(x:JAc):Prop where
 n:x.n<9223372036854775808
 q:x.q.wf
 l:∀y∈x.l,y.p.wf
structure JAs(h:PH)(v:Value)(l:List JV):Prop where
 s:hM h 7 v (l.map jrw)
 e:∀y∈l,yJ h y.2.1 y.1.l∧CSl h y.2.2 y.1.w∧y.1.wf
def JAs.ext{h h':PH}{v:Value}{l:List JV}(H:JAs h v l)(u:cZ h h'):JAs h' v l:=⟨H.s.ext u,λy hy=>⟨(H.e y hy).1.ext u,(H.e y hy).2.1.ext u,(H.e y hy).2.2⟩⟩
structure JPt(h:PH)(b o:Nat)(y:JV):Prop where
 k:cX h ⟨b,o,none⟩=some (.int .i64 y.1.k)
 n:cX h ⟨b,o+1,none⟩=some (.int .i64 y.1.n)
 c:cX h ⟨b,o+2,none⟩=some (.int .i64 y.1.ch)
 q:cD PG h (loadAt cG (pT b (o+3)))=some (plv y.1.q)
 l:cX h ⟨b,o+5,none⟩=some y.2.1
 w:cX h ⟨b,o+6,none⟩=some y.2.2
def JAs.pt{h:PH}{v:Value}{l:List JV}(H:JAs h v l){j:Nat}{y:JV}(hy:l[j]? =some y):
  ∃b o,cC PG (indexAt gA v (.int .i64 (j:Int)))=some (pT b o)∧JPt h b o y:=by
 obtain⟨b,o,cs,e',fr,h1,hb,hle,hex⟩:=H.s.at gA.und dR.info dR.size (k:=.i64) (j:=(j:Int)) (r:=jrw y) (by omega) (by rw[wW,wY,hy];rfl);have hd:∀i n,i+n≤7->(cs.extract (o+i) (o+i+n)).toList=((jrw y).drop i).take n:=λi n hi=>by
  rw[←hex];simp only[zLD,zLx,aB4,zLy,pR,aIP];congr 1;omega
 have hc:∀i c,i<7->(jrw y)[i]? =some c->cX h ⟨b,o+i,none⟩=some c:=λi c hi e=>by
  have:=congrArg (λl:List Value=>l[0]?) (hd i 1 (by omega));simp only[zLD,zLx,aB4,aET,aJQ] at this;unfold cX;simp only[hb];rw[←e];simpa using this
 refine⟨b,o,h1,hc 0 _ (by decide) rfl,hc 1 _ (by decide) rfl,hc 2 _ (by decide) rfl,?_,hc 5 _ (by decide) rfl,hc 6 _ (by decide) rfl⟩;rw[cG.loadAgg hb (by omega)];congr 2;exact zLw (hd 3 2 (by decide))
def aPs{h:PH}{v:Value}{l:List JV}(H:JAs h v l):cC PG (Builtin.len_ #[gA] aR #[v])=some (.int .i64 l.length):=by
 have:=H.s.len (t':=aR) gA.und;rw[iF] at this;exact this
def aVo{h:PH}{v:Value}{l:List (Bool×Int)}(H:CSl h v l):cC PG (Builtin.len_ #[jG] aR #[v])=some (.int .i64 l.length):=by
 have:=H.len (t':=aR) jG.und;rw[iF] at this;exact this
end
section
open Go Go.RowKit Go.ChangeShapes
def cG.cells:PG.cellsOf cG=2:=by kernel_rfl
def cR.cells:PG.cellsOf cR=4:=by kernel_rfl
def rP.cells:PG.cellsOf rP=2:=by kernel_rfl
def dR.cells:PG.cellsOf dR=7:=by kernel_rfl
def cY.cells:PG.cellsOf cY=1:=by kernel_rfl
def jG.cells:PG.cellsOf jG=1:=by kernel_rfl
section
variable{H:Type}{enc:TypeId×Value->H}{w:World}{spare:Nat->Bool}{held:Bool}
def aJG{α:Type}{cells:α->List Value}{P:α->Prop}{t:TypeId}(hof:∀cs,Rd enc PG w spare held t cs->∃a,cs=cells a∧P a):∀{rows:List (List Value)},(∀r∈rows,Rd enc PG w spare held t r)->∃xs:List α,rows=xs.map cells∧∀x∈xs,P x
 | [],_=>⟨[],rfl,by simp⟩
 | r::rs,h=>by
  obtain⟨m,rfl,hm⟩:=hof r (h r (by simp));obtain⟨xs,rfl,hx⟩:=aJG hof (rows:=rs) (λx hx=>h x (by simp[hx]));exact⟨m::xs,rfl,λx hx'=>by rcases iR.1 hx' with rfl|h;exact hm;exact hx x h⟩
def Pk.rd{cs:List Value}(h:Rd enc PG w spare held bX cs):∃p:Pk,cs=p.cells∧p.wf:=by
 obtain⟨hl,hf⟩:=aGC bX.und h;rw[bX.cells] at hl
 match cs,hl with
 | [c0,c1,c2,c3],_=>
  have f0:Rd enc PG w spare held aR (([c0,c1,c2,c3].drop 0).take (PG.cellsOf aR)):=hf 0 _ rfl;rw[aR.cells] at f0;have f1:Rd enc PG w spare held cI (([c0,c1,c2,c3].drop 1).take (PG.cellsOf cI)):=hf 1 _ rfl;rw[cI.cells] at f1;have f2:Rd enc PG w spare held cI (([c0,c1,c2,c3].drop 2).take (PG.cellsOf cI)):=hf 2 _ rfl;rw[cI.cells] at f2;have f3:Rd enc PG w spare held aT (([c0,c1,c2,c3].drop 3).take (PG.cellsOf aT)):=hf 3 _ rfl;rw[aT.cells] at f3;obtain⟨n0,e0,-⟩:=aDK aR.und f0;obtain⟨n1,e1,w1⟩:=aDK cI.und f1;have w1:=aO4 w1;obtain⟨n2,e2,w2⟩:=aDK cI.und f2;have w2:=aO4 w2;obtain⟨n3,e3,-⟩:=aSb aT.und f3;simp only[zLa,zLb,zLc,zLd,kP,and_true] at e0 e1 e2 e3;subst e0 e1 e2 e3;exact⟨⟨n0,n1,n2,n3⟩,rfl,w1.1,by show n1<_;omega,w2.1,by show n2<_;omega⟩
def Nt.rd{cs:List Value}(h:Rd enc PG w spare held cK cs):∃p:Nt,cs=p.cells∧p.p.wf:=by
 obtain⟨hl,hf⟩:=aGC cK.und h;rw[cK.cells] at hl
 match cs,hl with
 | [c0,c1,c2,c3,c4],_=>
  have f0:Rd enc PG w spare held aR (([c0,c1,c2,c3,c4].drop 0).take (PG.cellsOf aR)):=hf 0 _ rfl;rw[aR.cells] at f0;have f1:Rd enc PG w spare held bX (([c0,c1,c2,c3,c4].drop 1).take (PG.cellsOf bX)):=hf 1 _ rfl;rw[bX.cells] at f1;obtain⟨n0,e0,-⟩:=aDK aR.und f0;obtain⟨n1,e1,w1⟩:=Pk.rd f1;simp only[zLa,zLb,zLc,zLd,kP,and_true,Pk.cells] at e0 e1;obtain⟨rfl,rfl,rfl,rfl⟩:=e1;subst e0;exact⟨⟨n0,n1⟩,rfl,w1⟩
def Nt.rds{rows:List (List Value)}(h:∀r∈rows,Rd enc PG w spare held cK r):∃xs:List Nt,rows=xs.map Nt.cells∧∀x∈xs,x.p.wf:=aJG (λ_=>Nt.rd) h
def Pl.rd{cs:List Value}(h:Rd enc PG w spare held cG cs):∃p:Pl,cs=p.cells∧p.wf:=by
 obtain⟨hl,hf⟩:=aGC cG.und h;rw[cG.cells] at hl
 match cs,hl with
 | [c0,c1],_=>
  have f0:Rd enc PG w spare held cI (([c0,c1].drop 0).take (PG.cellsOf cI)):=hf 0 _ rfl;rw[cI.cells] at f0;have f1:Rd enc PG w spare held aR (([c0,c1].drop 1).take (PG.cellsOf aR)):=hf 1 _ rfl;rw[aR.cells] at f1;obtain⟨n0,e0,w0⟩:=aDK cI.und f0;have w0:=aO4 w0;obtain⟨n1,e1,-⟩:=aDK aR.und f1;simp only[zLa,zLb,zLc,zLd,kP,and_true] at e0 e1;subst e0 e1;exact⟨⟨n0,n1⟩,rfl,w0.1,by show n0<_;omega⟩
def lJ.rd{cs:List Value}(h:Rd enc PG w spare held cR cs):∃p:Pl×Pl,cs=p.1.cells++p.2.cells∧p.1.wf∧p.2.wf:=by
 obtain⟨hl,hf⟩:=aTm cR.und h;rw[cR.cells] at hl
 match cs,hl with
 | [c0,c1,c2,c3],_=>
  have f0:Rd enc PG w spare held cG (([c0,c1,c2,c3].drop (0*PG.cellsOf cG)).take (PG.cellsOf cG)):=hf 0 (by decide);have f1:Rd enc PG w spare held cG (([c0,c1,c2,c3].drop (1*PG.cellsOf cG)).take (PG.cellsOf cG)):=hf 1 (by decide);rw[cG.cells] at f0 f1;obtain⟨p,e0,w0⟩:=Pl.rd f0;obtain⟨q,e1,w1⟩:=Pl.rd f1;simp only[Nat.zero_mul,Nat.one_mul,zLa,zLb,zLc,zLd,kP,and_true,Pl.cells] at e0 e1;obtain⟨rfl,rfl⟩:=e0;obtain⟨rfl,rfl⟩:=e1;exact⟨(p,q),rfl,w0,w1⟩
def aVf{r:Reach}{base:Nat}{v:Value}{d:DataW H}{p:List MemPlace}(hval:Value.okWide PG w r base cR v)(hd:DataW.Trod enc PG w 0 spare held cR v d p):
  ∃a b:Pl,v=lJ a b∧a.wf∧b.wf:=by
 have hu:PG.underlying cR=some (.array 2 cG):=cR.und;simp only[Value.okWide,hu] at hval;obtain⟨cs,rfl,_⟩:=hval;obtain⟨⟨a,b⟩,e,ha,hb⟩:=lJ.rd (aUB hd);refine⟨a,b,?_,ha,hb⟩;rw[lJ];congr 1;exact Array.toList_inj.1 e
def Wt.rd{cs:List Value}(h:Rd enc PG w spare held rP cs):∃p:Bool×Int,cs=wrw p∧True:=by
 obtain⟨hl,hf⟩:=aGC rP.und h;rw[rP.cells] at hl
 match cs,hl with
 | [c0,c1],_=>
  have f0:Rd enc PG w spare held iU (([c0,c1].drop 0).take (PG.cellsOf iU)):=hf 0 _ rfl;rw[iU.cells] at f0;have f1:Rd enc PG w spare held aR (([c0,c1].drop 1).take (PG.cellsOf aR)):=hf 1 _ rfl;rw[aR.cells] at f1;obtain⟨n0,e0⟩:=aVH iU.und f0;obtain⟨n1,e1,-⟩:=aDK aR.und f1;simp only[zLa,zLb,zLc,zLd,kP,and_true] at e0 e1;subst e0 e1;exact⟨(n0,n1),rfl,trivial⟩
def Wt.rds{rows:List (List Value)}(h:∀r∈rows,Rd enc PG w spare held rP r):∃xs:List (Bool×Int),rows=xs.map wrw∧∀x∈xs,True:=aJG (λ_=>Wt.rd) h
def JV.rd{cs:List Value}(h:Rd enc PG w spare held dR cs):∃p:JV,cs=jrw p∧yJ (aEf w) p.2.1 p.1.l∧CSl (aEf w) p.2.2 p.1.w∧p.1.wf:=by
 obtain⟨hl,hf⟩:=aGC dR.und h;rw[dR.cells] at hl
 match cs,hl with
 | [c0,c1,c2,c3,c4,c5,c6],_=>
  have f0:Rd enc PG w spare held aR (([c0,c1,c2,c3,c4,c5,c6].drop 0).take (PG.cellsOf aR)):=hf 0 _ rfl;rw[aR.cells] at f0;have f1:Rd enc PG w spare held aR (([c0,c1,c2,c3,c4,c5,c6].drop 1).take (PG.cellsOf aR)):=hf 1 _ rfl;rw[aR.cells] at f1;have f2:Rd enc PG w spare held aR (([c0,c1,c2,c3,c4,c5,c6].drop 2).take (PG.cellsOf aR)):=hf 2 _ rfl;rw[aR.cells] at f2;have f3:Rd enc PG w spare held cG (([c0,c1,c2,c3,c4,c5,c6].drop 3).take (PG.cellsOf cG)):=hf 3 _ rfl;rw[cG.cells] at f3;have f4:Rd enc PG w spare held cY (([c0,c1,c2,c3,c4,c5,c6].drop 5).take (PG.cellsOf cY)):=hf 4 _ rfl;rw[cY.cells] at f4;have f5:Rd enc PG w spare held jG (([c0,c1,c2,c3,c4,c5,c6].drop 6).take (PG.cellsOf jG)):=hf 5 _ rfl;rw[jG.cells] at f5;obtain⟨n0,e0,-⟩:=aDK aR.und f0;obtain⟨n1,e1,w1⟩:=aDK aR.und f1;have w1:=aWp w1;obtain⟨n2,e2,-⟩:=aDK aR.und f2;obtain⟨n3,e3,w3⟩:=Pl.rd f3;obtain⟨v4,rows4,e4,S4,hr4⟩:=aLH cY.und (by rw[cK.cells];decide) f4;obtain⟨n4,q4,w4⟩:=Nt.rds hr4;subst q4;rw[cK.cells] at S4;obtain⟨v5,rows5,e5,S5,hr5⟩:=aLH jG.und (by rw[rP.cells];decide) f5;obtain⟨n5,q5,w5⟩:=Wt.rds hr5;subst q5;rw[rP.cells] at S5;simp only[zLa,zLb,zLc,zLd,kP,and_true,Pl.cells] at e0 e1 e2 e3 e4 e5;obtain⟨rfl,rfl⟩:=e3;subst e0 e1 e2 e4 e5;exact⟨(⟨n0,n1,n2,n3,n4,n5⟩,_,_),rfl,S4,S5,⟨w1.2,w3,w4⟩⟩
def JV.rds{rows:List (List Value)}(h:∀r∈rows,Rd enc PG w spare held dR r):∃xs:List JV,rows=xs.map jrw∧∀y∈xs,yJ (aEf w) y.2.1 y.1.l∧CSl (aEf w) y.2.2 y.1.w∧y.1.wf:=aJG (λ_=>JV.rd) h
end
def JAs.of{h:PH}{v:Value}{rows:List (List Value)}(S:hM h 7 v rows)(e:∃xs:List JV,rows=xs.map jrw∧∀y∈xs,yJ h y.2.1 y.1.l∧CSl h y.2.2 y.1.w∧y.1.wf):∃L,JAs h v L:=by
 obtain⟨L,rfl,w⟩:=e;exact⟨L,S,w⟩
def aL5:List (String×DataW Unit):=[("unicode/utf8.acceptRanges",Rows.laid_unicode_utf8_acceptRanges),("unicode/utf8.first",Rows.laid_unicode_utf8_first)]
def kOf{W:World}(_:laidMetH Tryz.prog aL5 W):True:=trivial
end
section
open Go
def aQm{d:Dk}(H:d.Ok)(w:Wl)(s:Tx):(iG d w s).1.buf.length≤d.buf.length+106:=by
 have hp:=aBQ (fV d.size w.hd.gen w.ser s) d (d.base w.hd.seg+w.used);rw[jS] at hp;have h1:=aIC (n:=s.length) H.size;have ha:(yR d w s).1.buf.length≤d.buf.length+106:=by unfold yR;omega
 unfold iG
 repeat' split
 all_goals first|exact ha|(show d.buf.length≤_;omega)
def aNe{d:Dk}(H:d.Ok)(w:Wl)(s:Tx):(fS d w s).1.buf.length≤d.buf.length+107:=by
 have hp:=aBQ (fV d.size (gL w.hd).1.gen 0 s) d (d.base (gL w.hd).1.seg);rw[jS] at hp;have h1:=aIC (n:=s.length) H.size;have ha:(lX d (gL w.hd).1 s).1.buf.length≤d.buf.length+106:=by unfold lX;omega
 have hq:=aBQ [(fQ d.size (gL w.hd).1).1] (lX d (gL w.hd).1 s).1 (1-w.slot);simp only[iP,kI] at hq;unfold fS
 repeat' split
 all_goals first|(show d.buf.length≤_;omega)|(show(lX d (gL w.hd).1 s).1.buf.length≤_;omega)|(show(iQ (lX d (gL w.hd).1 s).1 (1-w.slot) [(fQ d.size (gL w.hd).1).1]).1.buf.length≤_;omega)
def aTw{d:Dk}(H:d.Ok)(j:Jn)(ch:Int)(q:Pl)(ns:List Nt):(oT d j ch q ns).1.buf.length≤d.buf.length+107:=by
 have h1:=aQm H j.w (gM ch q ns).bytes.1;have h2:=aNe H j.w (kU (lA j.s j.room (gM ch q ns)).1);have h3:(qM d j (gM ch q ns) (lA j.s j.room (gM ch q ns)).1).1.buf.length≤d.buf.length+107:=by
  unfold qM;split
  ·omega
  ·exact h2
 unfold oT
 repeat' split
 all_goals first|(show d.buf.length≤_;omega)|exact h3
def aTP{d:Dk}(H:d.Ok)(room:Int)(p q:Pl):(iK d room p q).1.buf.length≤d.buf.length+108:=by
 have h1:=aIL d;have h2:=aNe (aL6 H).1 (fH d).2.1.1 (kU (kZ room ⟨p,q,[]⟩ (fH d).2.1.2).1);unfold iK
 repeat' split
 all_goals first|(show d.buf.length≤_;omega)|(show(fH d).1.buf.length≤_;omega)|(show(fS (fH d).1 (fH d).2.1.1 (kU (kZ room ⟨p,q,[]⟩ (fH d).2.1.2).1)).1.buf.length≤_;omega)
def aXd{h:PH}{d:Nat}(q q':Pl):cD PG h (Op.equalIn (d+1+1) cG (plv q) (plv q'))=some (decide (q=q')):=by
 rw[aAS cG.und (by kernel_rfl) (λf=>match f.offset with|0=>q.h==q'.h|_=>q.i==q'.i)]
 ·congr 1;rw[xQ];obtain⟨a,b⟩:=q;obtain⟨a',b'⟩:=q';simp
 ·intro f hf;simp only[iR,zLg,or_false] at hf;rcases hf with rfl|rfl
  ·exact⟨by decide,_,_,iE cI.und rfl rfl,iE cI.und rfl rfl,qH cI.und⟩
  ·exact⟨by decide,_,_,iE aR.und rfl rfl,iE aR.und rfl rfl,qH aR.und⟩
def aWK{h:PH}{x y:Operand}(q q':Pl):cD PG h (fK .eql cG x y (plv q) (plv q'))=some (.bool (decide (q=q'))):=aIJ (by kernel_rfl) (aXd (d:=9998) q q')
def aW3{h:PH}{d:Nat}(m m':Pk):cD PG h (Op.equalIn (d+1+1) bX (pkv m) (pkv m'))=some (decide (m=m')):=by
 have:cD PG h (Op.equalIn (d+1+1) bX (pkv m) (pkv m'))=some (m.f==m'.f&&(m.s==m'.s&&(m.t==m'.t&&(m.d==m'.d&&true)))):=by
  refine(aAS bX.und (by kernel_rfl) (λf=>match f.offset with|0=>m.f==m'.f|1=>m.s==m'.s|2=>m.t==m'.t|_=>m.d==m'.d) ?_);intro f hf;simp only[iR,zLg,or_false] at hf;rcases hf with rfl|rfl|rfl|rfl
  ·exact⟨by decide,_,_,iE aR.und rfl rfl,iE aR.und rfl rfl,qH aR.und⟩
  ·exact⟨by decide,_,_,iE cI.und rfl rfl,iE cI.und rfl rfl,qH cI.und⟩
  ·exact⟨by decide,_,_,iE cI.und rfl rfl,iE cI.und rfl rfl,qH cI.und⟩
  ·exact⟨by decide,_,_,iE aT.und rfl rfl,iE aT.und rfl rfl,aK3 aT.und⟩
 rw[this,aNf];congr 1;rw[xQ];obtain⟨a,b,c,e⟩:=m;obtain⟨a',b',c',e'⟩:=m';simp
def aWh{h:PH}{x y:Operand}(m m':Pk):cD PG h (fK .eql bX x y (pkv m) (pkv m'))=some (.bool (decide (m=m'))):=aIJ (by kernel_rfl) (aW3 (d:=9998) m m')
def aXm:cC PG (build cG #[(0,(Value.int IntKind.u64 5))])=some (plv ⟨5,0⟩):=by kernel_rfl
def aXO:cC PG (build cR #[(0,plv ⟨5,0⟩),(1,plv ⟨5,0⟩)])=some (lJ ⟨5,0⟩ ⟨5,0⟩):=by kernel_rfl
def aUY:cC PG (build cG #[(0,(Value.int IntKind.u64 6)),(1,(Value.int IntKind.i64 1))])=some (plv ⟨6,1⟩):=by kernel_rfl
def aXF:cC PG (build bX #[(1,(Value.int IntKind.u64 1)),(2,(Value.int IntKind.u64 9))])=some (pkv jPk):=by kernel_rfl
def aXk:cC PG (build cK #[(0,(Value.int IntKind.i64 1)),(1,pkv jPk)])=some (.agg jN.cells.toArray):=by kernel_rfl
def aWb:jX PG (buildSlice cY 1 #[(0,.agg jN.cells.toArray)])=some (.cells jN.cells.toArray cK,λr=>pure (.slice (some ⟨r,0,none⟩) 1 1)):=by kernel_rfl
def aOb{h:PH}{x y:Operand}{r:Nat}:cD PG h (fK .eql oO x y (pT r 0) (.pointer none))=some (.bool false):=wT oO.und
def aWt{h:PH}{v:Value}{l:List It}(S:jV h v l){j:Nat}{x:It}(hx:l[j]? =some x):∃b o,cC PG (indexAt bZ v (.int .i64 (j:Int)))=some (pT b o)∧cD PG h (loadAt bX (pT b o))=some (pkv x.p):=by
 obtain⟨b,o,cs,e',fr,h1,hb,hle,hex⟩:=S.at bZ.und cE.info cE.size (k:=.i64) (j:=(j:Int)) (r:=x.cells) (by omega) (by rw[wW,wY,hx];rfl);refine⟨b,o,h1,?_⟩;rw[bX.loadAgg hb (by omega)];congr 2;apply zLw;have:=congrArg (λl:List Value=>l.take 4) hex;simp only[zLD,zLx,aB4,aIP] at this ⊢;exact this
def lF.scan{r a m w j:Nat}{d d2:Dk}{x:Jn}{vp:JP}{e room:Int}{p q:Pl}{h:PH}{F:List Nat}(H:lF r a m d (some (w,j,x)) e d2 vp room p q h F){vn:Value}{ns:List Nt}(ch:Int)(qs:Pl)(hq:qs.wf)(N:yJ h vn ns)(hn:∀y∈ns,y.p.wf)(hb:d.buf.length≤900000){k:cF}
  (hk:∀h' F',lF r a m (oT d x ch qs ns).1 (some (w,j,(oT d x ch qs ns).2.1)) e d2 vp room p q h' F'->eN h F h' F'->k (.int .i64 (oT d x ch qs ns).2.2) h'):bT PG pN #[pT j 0,.int .i64 ch,.agg qs.cells.toArray,vn] h k:=by
 obtain⟨Fa,Fm,rfl,B,P,D,n1,n2,n3⟩:=H.here;have P:wS a w j d x h Fa:=P;refine aTc P ch qs hq N hn hb λh1 F1 P1 s1=>?_;obtain⟨B1,D1,m1,m3⟩:=lF.prog (d:=d) (d':=d) (jp':=vp) (e':=e) B D n1 n2 n3 s1;exact hk h1 (r::(F1++Fm)) ⟨⟨F1,Fm,rfl,B1,P1,D1,m1,n2,m3⟩⟩ (eN.app [r] (eN.appR Fm s1))
structure aXZ(r a m:Nat)(jp:JP)(e:Int)(vp:JP)(room:Int)(p q:Pl)(h:PH):Prop where
 d:cX h ⟨r,0,none⟩=some (pT a 0)
 j:cX h ⟨r,0+1,none⟩=some (aD2 jp)
 e:cX h ⟨r,0+2,none⟩=some (.int .i64 e)
 m:cX h ⟨r,0+3,none⟩=some (pT m 0)
 v:cX h ⟨r,0+4,none⟩=some (aD2 vp)
def lF.b{r a m:Nat}{d d2:Dk}{jp vp:JP}{e room:Int}{p q:Pl}{h:PH}{F:List Nat}(H:lF r a m d jp e d2 vp room p q h F):aXZ r a m jp e vp room p q h:=by
 obtain⟨_,_,_,B,_⟩:=H.here;exact⟨B.cell 0,B.cell 1,B.cell 2,B.cell 3,B.cell 4⟩
def lF.state{r a m w j:Nat}{d d2:Dk}{x:Jn}{vp:JP}{e room:Int}{p q:Pl}{h:PH}{F:List Nat}(H:lF r a m d (some (w,j,x)) e d2 vp room p q h F){k:cF}(hk:∀h' v,jV h' v x.s.its->iM h v->cZ h h'->k (x.s.v v) h'):bT PG mV #[pT j 0] h k:=by
 obtain⟨_,_,_,_,P,_⟩:=H.here;have P:wS a w j d x h _:=P;exact aTq P hk
def lF.halted{r a m w j:Nat}{d d2:Dk}{x:Jn}{vp:JP}{e room:Int}{p q:Pl}{h:PH}{F:List Nat}(H:lF r a m d (some (w,j,x)) e d2 vp room p q h F){k:cF}(hk:k (.bool x.w.broken) h):bT PG lE #[pT j 0] h k:=by
 obtain⟨_,_,_,_,P,_⟩:=H.here;have P:wS a w j d x h _:=P;exact wS.halted P hk
def aRi{h:PH}{k:cF}(hk:∀h',cZ h h'->k (.bool true) h'):bT PG aAs #[] h k:=by
 apply qR.call;unfold qR;obtain⟨d1,w1,d2,j2,d3,w3,d4,w4,e1,e2,e3,e4,y1,y2,q1,q2⟩:=aXQ;simp only[aXm,aXO,cB,reduceIte,cJ,Nat.reduceAdd];refine aNk 64 20 (by decide) (by decide) (by decide) 2 ⟨5,0⟩ ⟨5,0⟩ λh1 r a m F1 P1 f1 u1=>?_;have N1:aHq h h1 F1:=⟨u1,f1⟩;simp only[aOb,cB,reduceIte,cJ,Nat.reduceAdd];refine aLV P1 aHE aHE (by decide) (by decide) (by decide) (by decide) λh2 F2 jp vp P2 s2 o2 v2=>?_;rw[e1] at P2 o2 v2 ⊢;have N2:=N1.step s2;obtain⟨w,j,rfl⟩:=o2.1 rfl;obtain⟨wv,jv,rfl⟩:=v2.1 rfl;have b2:=P2.b;simp only[decide_true,cS.f1,dX.load,b2.j,aOk,aMz,aXF,cB,reduceIte,cJ,Nat.reduceAdd];intro r41 hr41
 try rw[cO]
 refine bX.fill (vs:=jPk.cells) hr41 rfl (Pk.isC _) λh3 B3 u3=>?_;have n3:r41∉F2:=λhm=>P2.known r41 hm hr41;have P3:=P2.ext u3;have N3:=N2.more u3;have b3:=P3.b;have l3:cD PG h3 (loadAt bX (pT r41 0))=some (pkv jPk):=bX.agg B3 (by show 0+4≤4;decide);simp only[cS.f1,dX.load,b3.j,aUY,l3,aXk,aWb,cB,reduceIte,cJ,Nat.reduceAdd];intro r51 hr51;refine gY ?_
 try rw[cO]
 have u4:cZ h3 (h3.set r51 (.cells jN.cells.toArray cK)):=cT.new hr51;have S4:yJ (h3.set r51 (.cells jN.cells.toArray cK)) (.slice (some ⟨r51,0,none⟩) 1 1) [jN]:=(eJ.lit (n:=1) (Nt.rows _) eD (by simp) (by decide) (by simp)).slR;generalize h3.set r51 (.cells jN.cells.toArray cK)=h4 at *;have P4:=P3.ext u4;have N4:=N3.more u4;refine P4.scan 0 ⟨6,1⟩ aVL S4 (λy hy=>?_) (by rw[q1];decide) λh5 F5 P5 s5=>?_
 ·simp only[iL] at hy;subst hy;exact⟨by decide,by decide,by decide,by decide⟩
 rw[e2] at P5 ⊢;have P5:lF r a m d2 (some (w,j,j2)) 0 d1 (some (wv,jv,(⟨w1,2,jS0⟩:Jn))) 2 ⟨5,0⟩ ⟨5,0⟩ h5 F5:=P5;have N5:=N4.step s5;obtain⟨B5,n5⟩:=aMe (B3.ext u4) n3 s5;refine aLV P5 aHE aHE (by rw[y2];decide) (by rw[y1];decide) (by rw[q2];decide) (by rw[q1];decide) λh6 F6 jp' vp' P6 s6 o6 v6=>?_;rw[e3,e4] at P6 ⊢;rw[e3] at o6;rw[e4] at v6;have N6:=N5.step s6;obtain⟨B6,n6⟩:=aMe B5 n5 s6;obtain⟨w',j',rfl⟩:=o6.1 rfl;have b6:=P6.b;simp only[decide_true,cS.f1,dX.load,b6.j,aOk,aMz,cB,reduceIte,cJ,Nat.reduceAdd];refine P6.state λh7 v S7 nv u7=>?_;have S7:jV h7 v [⟨jPk,1⟩]:=S7;simp only[cB,reduceIte,cJ,Nat.reduceAdd];intro r85 hr85
 try rw[cO]
 refine bR.fill (vs:=jS1.cells v) hr85 rfl (Dm.isC _ S7.isc) λh8 B8 u8=>?_;have B8p:=(B6.ext u7).ext u8;have l8:cD PG h8 (loadAt bX (pT r41 0))=some (pkv jPk):=bX.agg B8p (by show 0+4≤4;decide);have c4:cX h8 ⟨r85,0+4,none⟩=some v:=B8.cell 4;have lv:cC PG (Builtin.len_ #[bZ] aR #[v])=some (.int .i64 1):=S7.len (t':=aR) bZ.und;obtain⟨b,o,i1,i2⟩:=aWt (S7.ext u8) (j:=0) rfl;have i1:cC PG (indexAt bZ v (.int .i64 0))=some (pT b o):=i1;have i2:cD PG h8 (loadAt bX (pT b o))=some (pkv jPk):=i2;have x0:cC PG (indexAt cR (pT r85 0) (.int .i64 0))=some (pT r85 0):=by kernel_rfl
 have l0:cD PG h8 (loadAt cG (pT r85 0))=some (plv ⟨6,1⟩):=cG.agg B8 (by show 0+2≤5;decide);have q3:((0:Int)==0)=true:=rfl;have q4:((1:Int)==1)=true:=rfl;simp only[fO,q3,q4,bR.f0,bR.f1,bZ.load,c4,lv,i1,cE.f0,i2,l8,aWh,decide_true,x0,l0,aUY,aWK,cB,reduceIte,cJ,Nat.reduceAdd];exact hk h8 ((N6.ext.trans u7).trans u8)
structure aXt(size sectors:Int)(L:List JV):Prop where
 s1:64≤size
 s2:size≤128
 n1:1≤sectors
 n2:sectors≤60
 len:L.length≤30
 each:∀y∈L,y.1.l.length≤40∧y.1.w.length≤100
def aVc{h:PH}{v:Value}{l:List Nt}(S:yJ h v l):cC PG (Builtin.len_ #[cY] aR #[v])=some (.int .i64 l.length):=by
 have:=S.len (t':=aR) cY.und;rw[iF] at this;exact this
def aXI{h:PH}{v:Value}{l:List Nt}(S:yJ h v l){j:Nat}{x:Nt}(hx:l[j]? =some x):∃b o,cC PG (indexAt cY v (.int .i64 (j:Int)))=some (pT b o)∧cX h ⟨b,o+4,none⟩=some (.string x.p.d):=by
 obtain⟨b,o,h1,h2,-⟩:=S.fields cY.und cK.info cK.size (k:=.i64) (j:=j) (r:=x.cells) (by rw[wW,hx];rfl);exact⟨b,o,h1,h2 4 _ rfl⟩
def aT1{h:PH}{v:Value}{L:List JV}(A:JAs h v L)(size sectors:Int){k:cF}(hk:∀b,(b=true->aXt size sectors L)->k (.bool b) h):bT PG aB5 #[.int .i64 size,.int .i64 sectors,v] h k:=by
 apply tH.call;unfold tH;have no:k (.bool false) h:=hk false λe=>by cases e
 have ll:=aPs A;by_cases c1:size<64
 ·have g1:(size<64)=True:=eq_true c1;simp only[g1,cB,reduceIte,cJ,Nat.reduceAdd];exact no
 have g1:(size<64)=False:=eq_false c1;by_cases c2:128<size
 ·have g2:((128:Int)<size)=True:=eq_true c2;simp only[g1,g2,cB,reduceIte,cJ,Nat.reduceAdd];exact no
 have g2:((128:Int)<size)=False:=eq_false c2;by_cases c3:sectors<1
 ·have g3:(sectors<1)=True:=eq_true c3;simp only[g1,g2,g3,cB,reduceIte,cJ,Nat.reduceAdd];exact no
 have g3:(sectors<1)=False:=eq_false c3;by_cases c4:60<sectors
 ·have g4:((60:Int)<sectors)=True:=eq_true c4;simp only[g1,g2,g3,g4,cB,reduceIte,cJ,Nat.reduceAdd];exact no
 have g4:((60:Int)<sectors)=False:=eq_false c4;by_cases c5:30<L.length
 ·have g5:((30:Int)<(L.length:Int))=True:=eq_true (by omega);simp only[g1,g2,g3,g4,ll,g5,cB,reduceIte,cJ,Nat.reduceAdd];exact no
 have g5:((30:Int)<(L.length:Int))=False:=eq_false (by omega);simp only[g1,g2,g3,g4,ll,g5,cB,reduceIte,cJ,Nat.reduceAdd];refine⟨λvs h'=>∃i:Nat,i≤L.length∧vs=[v,.int .i64 (i:Int)]∧h'=h∧∀y∈L.take i,y.1.l.length≤40∧y.1.w.length≤100,fN L.length 1,⟨0,by omega,rfl,rfl,by simp⟩,?_⟩;rintro ρ h' ⟨i,hi,hvs,rfl,hy⟩;simp only[hY,iZ,kP,and_true] at hvs;obtain⟨v0,v1⟩:=hvs;unfold aFF;rw[v0,v1];by_cases hlt:i<L.length
 ·have g6:((i:Int)<(L.length:Int))=True:=eq_true (by omega);have gi:=nP (i:=i) (by omega);obtain⟨y,hx⟩:∃x,L[i]? =some x:=⟨_,kO hlt⟩;obtain⟨b,o,i1,P⟩:=A.pt hx;obtain⟨NS,CS,wf⟩:=A.e y (wP hx);have ln:=aVc NS;have lc:=aVo CS;by_cases d1:40<y.1.l.length
  ·have k1:((40:Int)<(y.1.l.length:Int))=True:=eq_true (by omega);simp only[ll,g6,i1,dR.f4,cY.load,P.l,ln,k1,cB,reduceIte,cJ,Nat.reduceAdd];exact no
  have k1:((40:Int)<(y.1.l.length:Int))=False:=eq_false (by omega);by_cases d2:100<y.1.w.length
  ·have k2:((100:Int)<(y.1.w.length:Int))=True:=eq_true (by omega);simp only[ll,g6,i1,dR.f4,dR.f5,cY.load,jG.load,P.l,P.w,ln,lc,k1,k2,cB,reduceIte,cJ,Nat.reduceAdd];exact no
  have k2:((100:Int)<(y.1.w.length:Int))=False:=eq_false (by omega);simp only[ll,g6,i1,dR.f4,dR.f5,cY.load,jG.load,P.l,P.w,ln,lc,k1,k2,cB,reduceIte,cJ,Nat.reduceAdd];refine⟨λvs h2=>∃m:Nat,m≤y.1.l.length∧vs=[v,.int .i64 (i:Int),.int .i64 (m:Int)]∧h2=h',fN y.1.l.length 2,⟨0,by omega,rfl,rfl⟩,?_⟩;rintro ρ2 h2 ⟨m,hm,hvs2,rfl⟩;simp only[hY,iZ,kP,and_true] at hvs2;obtain⟨w0,w1,w2⟩:=hvs2;unfold aEX;rw[w0,w1,w2];by_cases hlm:m<y.1.l.length
  ·have k3:((m:Int)<(y.1.l.length:Int))=True:=eq_true (by omega);have gm:=nP (i:=m) (by omega);obtain⟨z,hz⟩:∃x,y.1.l[m]? =some x:=⟨_,kO hlm⟩;obtain⟨b',o',j1,j2⟩:=aXI NS hz;have lp:cC PG (Builtin.len_ #[aT] aR #[.string z.p.d])=some (.int .i64 (z.p.d.size:Int)):=tR aT.und;by_cases y1:300<z.p.d.size
   ·have k4:((300:Int)<(z.p.d.size:Int))=True:=eq_true (by omega);simp only[i1,dR.f4,cY.load,P.l,ln,k3,j1,cK.f1,bX.f3,Nat.add_assoc,Nat.reduceAdd,aT.load,j2,lp,k4,cB,reduceIte,cJ,Nat.reduceAdd];exact no
   have k4:((300:Int)<(z.p.d.size:Int))=False:=eq_false (by omega);simp only[i1,dR.f4,cY.load,P.l,ln,k3,j1,cK.f1,bX.f3,Nat.add_assoc,Nat.reduceAdd,aT.load,j2,lp,k4,gm,cB,reduceIte,cJ,Nat.reduceAdd];exact⟨⟨m+1,by omega,rfl,by first|rfl|trivial⟩,by simp[fN,w2];omega⟩
  ·have k3:((m:Int)<(y.1.l.length:Int))=False:=eq_false (by omega);simp only[i1,dR.f4,cY.load,P.l,ln,k3,gi,cB,reduceIte,cJ,Nat.reduceAdd];refine⟨⟨i+1,by omega,rfl,by first|rfl|trivial,λz hz=>?_⟩,by simp[fN,v1];omega⟩;rw[zLR,hx] at hz;rcases xN.1 hz with hz|hz
   ·exact hy z hz
   ·simp only[Option.toList_some,iL] at hz;subst hz;exact⟨by omega,by omega⟩
 ·have g6:((i:Int)<(L.length:Int))=False:=eq_false (by omega);rw[qX (by omega)] at hy;simp only[ll,g6,cB,reduceIte,cJ,Nat.reduceAdd];exact hk true λ_=>⟨by omega,by omega,by omega,by omega,by omega,hy⟩
def wX.swap{a w:Nat}{d:Dk}{x:Wl}{h:PH}{F:List Nat}(H:wX a w d x h F):∃Fd,oD a d h Fd∧(∀b∈Fd,b∈F)∧∀d' h' Fd',oD a d' h' Fd'->eN h Fd h' Fd'->d'.sectors=d.sectors->∃F',wX a w d' x h' F'∧eN h F h' F':=by
 obtain⟨Fd,rfl,B,D,n⟩:=H.here;refine⟨Fd,D,λb hb=>aMo _ hb,λd' h' Fd' D' s e=>?_⟩;obtain⟨B',n'⟩:=B.step s n;exact⟨w::Fd',⟨⟨Fd',rfl,B',D',n'⟩,H.ok.to D'.ok e,H.ser,H.gen⟩,eN.app [w] s⟩
def wS.swap{a w j:Nat}{d:Dk}{x:Jn}{h:PH}{F:List Nat}(H:wS a w j d x h F):∃Fd,oD a d h Fd∧(∀b∈Fd,b∈F)∧∀d' h' Fd',oD a d' h' Fd'->eN h Fd h' Fd'->d'.sectors=d.sectors->∃F',wS a w j d' x h' F'∧eN h F h' F':=by
 obtain⟨Fw,iv,rfl,B,W,S,n1,n2,n3⟩:=H.here;obtain⟨Fd,D,hF,sw⟩:=W.swap;refine⟨Fd,D,λb hb=>by simp[hF b hb],λd' h' Fd' D' s e=>?_⟩;obtain⟨Fw',W',s'⟩:=sw d' h' Fd' D' s e;obtain⟨B',n1'⟩:=B.step s' n1;obtain⟨S',n3'⟩:=aFY S s' n3;exact⟨j::(oY iv x.s.its.length++Fw'),⟨⟨Fw',iv,rfl,B',W',S',n1',n2,n3'⟩,H.ok,H.wf⟩,eN.app [j] (eN.app _ s')⟩
def PrA.swap{a:Nat}{d:Dk}{jp:JP}{h:PH}{F:List Nat}(H:PrA a d jp h F):∃Fd,oD a d h Fd∧(∀b∈Fd,b∈F)∧∀d' h' Fd',oD a d' h' Fd'->eN h Fd h' Fd'->d'.sectors=d.sectors->∃F',PrA a d' jp h' F'∧eN h F h' F':=by
 cases jp with
 | none=>exact⟨F,H,λb hb=>hb,λd' h' Fd' D' s _=>⟨Fd',D',s⟩⟩
 | some t=>obtain⟨w,j,x⟩:=t;exact wS.swap H
def lF.swapP{r a m:Nat}{d d2:Dk}{jp vp:JP}{e room:Int}{p q:Pl}{h:PH}{F:List Nat}(H:lF r a m d jp e d2 vp room p q h F):∃Fd,oD a d h Fd∧(∀b∈Fd,b∈F)∧∀d' h' Fd',oD a d' h' Fd'->eN h Fd h' Fd'->d'.sectors=d.sectors->∃F',lF r a m d' jp e d2 vp room p q h' F'∧eN h F h' F':=by
 obtain⟨Fa,Fm,rfl,B,P,D,n1,n2,n3⟩:=H.here;obtain⟨Fd,Dk,hF,sw⟩:=P.swap;refine⟨Fd,Dk,λb hb=>by simp[hF b hb],λd' h' Fd' D' s eq=>?_⟩;obtain⟨Fa',P',s'⟩:=sw d' h' Fd' D' s eq;obtain⟨B1,D1,m1,m3⟩:=lF.prog (d:=d) (d':=d) (jp':=vp) (e':=e) B D n1 n2 n3 s';exact⟨r::(Fa'++Fm),⟨⟨Fa',Fm,rfl,B1,P',D1,m1,n2,m3⟩⟩,eN.app [r] (eN.appR Fm s')⟩
def aMF{h:PH}{x y:Operand}(a b:Bool):cD PG h (fK .neq iU x y (.bool a) (.bool b))=some (.bool (a !=b)):=by
 cases a<;>cases b<;>kernel_rfl
def yT{h:PH}{r w j:Nat}{x:Jn}(c:cX h ⟨r,0+1,none⟩=some (aD2 (some (w,j,x)))):cD PG h (loadAt dX (pT r (0+1)))=some (pT j 0):=by rw[dX.load,c];rfl
def aFc{h:PH}{r a:Nat}(c:cX h ⟨r,0,none⟩=some (pT a 0)):cD PG h (loadAt fL (pT r 0))=some (pT a 0):=by rw[fL.load,c]
def iM.notin{h:PH}{v:Value}{m:Nat}{F:List Nat}(n:iM h v)(k:∀b∈F,h b≠none):∀b∈oY v m,b∉F:=λb hb hm=>by
 obtain⟨-,a,c,e,rfl,rfl⟩:=oY.mem hb;exact k _ hm (n a c e rfl)
def aPG{h0 h:PH}{r a m w j i:Nat}{d d2:Dk}{x:Jn}{vp:JP}{e room:Int}{p q:Pl}{F:List Nat}{v:Value}{L:List JV}{y:JV}(P:lF r a m d (some (w,j,x)) e d2 vp room p q h F)(N:aHq h0 h F)(A:JAs h0 v L)(hx:L[i]? =some y)(hi:i<1000)(hs:d.sectors≤1000)(hb:d.buf.length≤800000){k:cF}{n23:gB}
  (next:∀h' F' d' x',lF r a m d' (some (w,j,x')) e d2 vp room p q h' F'->aHq h0 h' F'->d'.sectors=d.sectors->d'.buf.length≤d.buf.length+107->n23 [v,pT r 0,.int .i64 ((i+1:Nat):Int)] h'):
  oS k n23 v (pT r 0) (.int .i64 (i:Int)) h:=by
 unfold oS;have A1:=A.ext N.ext;obtain⟨b,o,i1,Q⟩:=A1.pt hx;have gi:=nP (i:=i) (by omega);by_cases k0:y.1.k=0
 ·have q0:(y.1.k !=0)=false:=by rw[k0];rfl
  obtain⟨-,-,wf⟩:=A.e y (wP hx);have b0:=P.b;simp only[i1,dR.f0,aR.load,Q.k,dY,q0,cS.f0,cS.f1,yT b0.j,aFc b0.d,cB,reduceIte,cJ,Nat.reduceAdd];refine P.state λh1 v1 S1 nv1 u1=>?_;have P1:=P.ext u1;have N1:=N.more u1;have b1:=P1.b;simp only[yT b1.j,aFc b1.d,true_and,cB,reduceIte,cJ,Nat.reduceAdd];refine P1.halted ?_;simp only[aFc b1.d,true_and,cB,reduceIte,cJ,Nat.reduceAdd];obtain⟨Fd,D1,-,-⟩:=P1.swapP;refine aNs D1 hs λh2 u2=>?_;have P2:=P1.ext u2;have N2:=N1.more u2;have b2:=P2.b;simp only[aFc b2.d,true_and,cB,reduceIte,cJ,Nat.reduceAdd];obtain⟨Fd2,D2,-,-⟩:=P2.swapP;refine aKw D2 ?_;intro r67 hr67
  try rw[cO]
  refine bR.fill (vs:=x.s.cells v1) hr67 rfl (Dm.isC _ S1.isc) λh3 B3 u3=>?_;have P3:=P2.ext u3;have N3:=N2.more u3;have b3:=P3.b;have A3:=A.ext N3.ext;obtain⟨b',o',i1',Q3⟩:=A3.pt hx;rw[i1] at i1';cases i1';have NS:=(A3.e y (wP hx)).1;simp only[cS.f1,yT b3.j,i1,dR.f2,dR.f3,dR.f4,aR.load,cY.load,Q3.c,Q3.q,Q3.l,cB,reduceIte,cJ,Nat.reduceAdd];have nr:r67∉F:=λhm=>P2.known r67 hm hr67;have S3:jV h3 v1 x.s.its:=(S1.ext u2).ext u3;have nS:∀b∈oY v1 x.s.its.length,b∉F:=iM.notin nv1 P.known;have hlen:x.s.its.length≤1000000:=by
   obtain⟨_,_,_,_,Pj,_⟩:=P.here;have Pj:wS a w j d x h _:=Pj;have:=Pj.ok.len;have:=Pj.ok.r2;omega
  refine P3.scan y.1.ch y.1.q wf.q NS wf.l (by omega) λh4 F4 P4 s4=>?_;have N4:=N3.step s4;have b4:=P4.b;obtain⟨B4,n4⟩:=aMe B3 nr s4;obtain⟨S4,nS4⟩:=aFY S3 s4 nS;have hd:=D1.ok;obtain⟨hh1,hh2,hh3⟩:=aS4 (j:=x) hd y.1.ch y.1.q y.1.l;have hsec:=(aTx (j:=x) hd y.1.ch y.1.q y.1.l).2.2;have hbuf:=aTw hd x y.1.ch y.1.q y.1.l;obtain⟨Z,hZ⟩:∃Z,oT d x y.1.ch y.1.q y.1.l=Z:=⟨_,rfl⟩;rw[hZ] at P4 hh1 hh2 hh3 hsec hbuf ⊢;obtain⟨d',x',e'⟩:=Z;have hh2:e'≠0->x'.s=x.s:=hh2;have hh3:x'.w.broken=decide (e'=13∨e'=14):=hh3;have P4:lF r a m d' (some (w,j,x')) e d2 vp room p q h4 F4:=P4
  -- what is behind the first test
  have rest:∀h5,cZ h4 h5->mO k n23 v (pT r 0) (.int .i64 (i:Int)) h5:=λh5 u5=>by
   simp only[mO,sP,gi,cB,reduceIte,cJ,Nat.reduceAdd];exact next h5 F4 d' x' (P4.ext u5) (N4.more u5) hsec hbuf
  cases hb0:x.w.broken with
  | true=>
   have e:=hh1 hb0;simp only[Prod.mk.injEq] at e;obtain⟨rfl,rfl,rfl⟩:=e;have f14:((14:Int) !=14)=false:=rfl;have n0:((14:Int) !=0)=true:=rfl;have e13:((14:Int)==13)=false:=rfl;have e14:((14:Int)==14)=true:=rfl;have hh3:x'.w.broken=true:=hb0;obtain⟨Fd4,D4,-,-⟩:=P4.swapP;simp only[dY,f14,cS.f0,aFc b4.d,cB,reduceIte,cJ,Nat.reduceAdd];refine aNs D4 hs λh5 u5=>?_;obtain⟨Fd5,D5,-,-⟩:=(P4.ext u5).swapP;simp only[aJJ,decide_true,Bool.not_true,cS.f0,aFc (P4.ext u5).b.d,cB,reduceIte,cJ,Nat.reduceAdd];refine aKw D5 ?_;simp only[dY,bne_self_eq_false,cB,reduceIte,cJ,Nat.reduceAdd];have l5:cD PG h5 (loadAt bR (pT r67 0))=some (x'.s.v v1):=bR.agg (B4.ext u5) (by show 0+5≤5;decide);simp only[dY,n0,cS.f1,yT (P4.ext u5).b.j,l5,cB,reduceIte,cJ,Nat.reduceAdd];refine(P4.ext u5).state λh6 v6 S6 nv6 u6=>?_;have l6:cD PG h6 (loadAt bR (pT r67 0))=some (x'.s.v v1):=bR.agg ((B4.ext u5).ext u6) (by show 0+5≤5;decide);have u46:=cT.trans u5 u6;simp only[l6,eq_self,true_and,implies_true,cB,reduceIte,cJ,Nat.reduceAdd];refine aEw S6 (S4.ext u46) hlen λh7 u7=>?_;have u47:=u46.trans u7;simp only[decide_true,fO,e13,e14,cS.f1,yT (P4.ext u47).b.j,cB,reduceIte,cJ,Nat.reduceAdd];refine(P4.ext u47).halted ?_;simp only[fO,e13,e14,hh3,aMF,eq_self,true_and,implies_true,cB,reduceIte,cJ,Nat.reduceAdd];exact rest h7 u47
  | false=>
   simp only[cB,reduceIte,cJ,Nat.reduceAdd];by_cases c0:e'=0
   ·subst c0;have n0:((0:Int) !=0)=false:=rfl;have e13:((0:Int)==13)=false:=rfl;have e14:((0:Int)==14)=false:=rfl;have hh3:x'.w.broken=false:=by rw[hh3];rfl
    simp only[dY,n0,fO,e13,e14,cS.f1,yT (P4.ext cT.refl).b.j,cB,reduceIte,cJ,Nat.reduceAdd];refine⟨λz=>absurd z (by decide),?_⟩;refine(P4.ext cT.refl).halted ?_;simp only[fO,e13,e14,hh3,aMF,eq_self,true_and,implies_true,cB,reduceIte,cJ,Nat.reduceAdd];exact rest h4 cT.refl
   ·have n0:(e' !=0)=true:=bne_iff_ne.2 c0;have es:=hh2 c0;by_cases c1:e'=13
    ·subst c1;have e13:((13:Int)==13)=true:=rfl;have hh3:x'.w.broken=true:=by rw[hh3];rfl
     have l5:cD PG h4 (loadAt bR (pT r67 0))=some (x.s.v v1):=bR.agg (B4.ext cT.refl) (by show 0+5≤5;decide);simp only[dY,n0,cS.f1,yT (P4.ext cT.refl).b.j,l5,cB,reduceIte,cJ,Nat.reduceAdd];refine(P4.ext cT.refl).state λh6 v6 S6 nv6 u6=>?_;have l6:cD PG h6 (loadAt bR (pT r67 0))=some (x.s.v v1):=bR.agg ((B4.ext cT.refl).ext u6) (by show 0+5≤5;decide);rw[es] at S6;have u46:=cT.trans cT.refl u6;simp only[l6,es,eq_self,true_and,implies_true,cB,reduceIte,cJ,Nat.reduceAdd];refine aEw S6 (S4.ext u46) hlen λh7 u7=>?_;have u47:=u46.trans u7;simp only[decide_true,fO,e13,cS.f1,yT (P4.ext u47).b.j,cB,reduceIte,cJ,Nat.reduceAdd];refine(P4.ext u47).halted ?_;simp only[fO,e13,hh3,aMF,eq_self,true_and,implies_true,cB,reduceIte,cJ,Nat.reduceAdd];exact⟨λz=>absurd z (by decide),rest h7 u47⟩
    ·have e13:(e'==13)=false:=beq_eq_false_iff_ne.2 c1;by_cases c2:e'=14
     ·subst c2;have e14:((14:Int)==14)=true:=rfl;have hh3:x'.w.broken=true:=by rw[hh3];rfl
      have l5:cD PG h4 (loadAt bR (pT r67 0))=some (x.s.v v1):=bR.agg (B4.ext cT.refl) (by show 0+5≤5;decide);simp only[dY,n0,cS.f1,yT (P4.ext cT.refl).b.j,l5,cB,reduceIte,cJ,Nat.reduceAdd];refine(P4.ext cT.refl).state λh6 v6 S6 nv6 u6=>?_;have l6:cD PG h6 (loadAt bR (pT r67 0))=some (x.s.v v1):=bR.agg ((B4.ext cT.refl).ext u6) (by show 0+5≤5;decide);rw[es] at S6;have u46:=cT.trans cT.refl u6;simp only[l6,es,eq_self,true_and,implies_true,cB,reduceIte,cJ,Nat.reduceAdd];refine aEw S6 (S4.ext u46) hlen λh7 u7=>?_;have u47:=u46.trans u7;simp only[decide_true,fO,e13,e14,cS.f1,yT (P4.ext u47).b.j,cB,reduceIte,cJ,Nat.reduceAdd];refine(P4.ext u47).halted ?_;simp only[fO,e13,e14,hh3,aMF,eq_self,true_and,implies_true,cB,reduceIte,cJ,Nat.reduceAdd];exact rest h7 u47
     ·have e14:(e'==14)=false:=beq_eq_false_iff_ne.2 c2;have hh3:x'.w.broken=false:=by rw[hh3,decide_eq_false_iff_not];exact λz=>z.elim c1 c2
      have l5:cD PG h4 (loadAt bR (pT r67 0))=some (x.s.v v1):=bR.agg (B4.ext cT.refl) (by show 0+5≤5;decide);simp only[dY,n0,cS.f1,yT (P4.ext cT.refl).b.j,l5,cB,reduceIte,cJ,Nat.reduceAdd];refine(P4.ext cT.refl).state λh6 v6 S6 nv6 u6=>?_;have l6:cD PG h6 (loadAt bR (pT r67 0))=some (x.s.v v1):=bR.agg ((B4.ext cT.refl).ext u6) (by show 0+5≤5;decide);rw[es] at S6;have u46:=cT.trans cT.refl u6;simp only[l6,es,eq_self,true_and,implies_true,cB,reduceIte,cJ,Nat.reduceAdd];refine aEw S6 (S4.ext u46) hlen λh7 u7=>?_;have u47:=u46.trans u7;simp only[decide_true,fO,e13,e14,cS.f1,yT (P4.ext u47).b.j,cB,reduceIte,cJ,Nat.reduceAdd];refine(P4.ext u47).halted ?_;simp only[fO,e13,e14,hh3,aMF,eq_self,true_and,implies_true,cB,reduceIte,cJ,Nat.reduceAdd];exact rest h7 u47
 ·have q0:(y.1.k !=0)=true:=bne_iff_ne.2 k0;simp only[i1,dR.f0,aR.load,Q.k,dY,q0,mO,sP,gi,cB,reduceIte,cJ,Nat.reduceAdd];exact next h F d x P N rfl (by omega)
def aLw{h:PH}{v:Value}{L:List JV}(A:JAs h v L)(size sectors room:Int){p q:Pl}(wp:p.wf)(wq:q.wf){k:cF}(hk:∀h',cZ h h'->k (.bool true) h'):bT PG tN #[.int .i64 size,.int .i64 sectors,.int .i64 room,lJ p q,v] h k:=by
 apply mJ.call;unfold mJ;intro r1 hr1
 try rw[cO]
 have u1:cZ h (h.set r1 (.cells (Value.cells (lJ p q)) cR)):=cT.new hr1;have B1:Bx (h.set r1 (.cells (Value.cells (lJ p q)) cR)) r1 (p.cells++q.cells):=Bx.new;generalize h.set r1 (.cells (Value.cells (lJ p q)) cR)=h1 at *;refine aRi λh2 u2=>?_;have u12:=u1.trans u2;simp only[cB,reduceIte,cJ,Nat.reduceAdd];refine aT1 (A.ext u12) size sectors λb few=>?_;cases b with
 | false=>
  simp only[cB,reduceIte,cJ,Nat.reduceAdd];exact hk h2 u12
 | true=>
  have fw:=few rfl;obtain⟨s,rfl⟩:∃s:Nat,size=(s:Int):=⟨size.toNat,by have:=fw.s1;omega⟩;obtain⟨n,rfl⟩:∃n:Nat,sectors=(n:Int):=⟨sectors.toNat,by have:=fw.n1;omega⟩;have f1:=fw.s1;have f2:=fw.s2;have f3:=fw.n1;have f4:=fw.n2;have f5:=fw.len;have l1:cD PG h2 (loadAt cR (pT r1 0))=some (lJ p q):=cR.agg (B1.ext u2) (by show 0+4≤4;decide);simp only[l1,cB,reduceIte,cJ,Nat.reduceAdd];refine aNk s n ⟨by omega,by omega⟩ (by omega) (by omega) room p q λh3 r a m F3 P3 f3' u3=>?_;have N3:aHq h h3 F3:=⟨u12.trans u3,λb hb=>u12.none (f3' b hb)⟩;simp only[aOb,cB,reduceIte,cJ,Nat.reduceAdd];refine aLV P3 wp wq (by show n≤1000;omega) (by show n≤1000;omega) (lD _) (lD _) λh4 F4 jp vp P4 s4 o4 v4=>?_;have N4:=N3.step s4;have b4:=P4.b;obtain⟨bok,-,bsec,-⟩:=aT6 (Dk.new_ok (size:=s) (sectors:=n) ⟨by omega,by omega⟩ (by omega) (by omega)) room p q;have bbuf:=aTP (Dk.new_ok (size:=s) (sectors:=n) ⟨by omega,by omega⟩ (by omega) (by omega)) room p q;obtain⟨Z,hZ⟩:∃Z,iK (Dk.new s n) room p q=Z:=⟨_,rfl⟩;rw[hZ] at P4 o4 b4 bsec bbuf;by_cases c:Z.2.2=0
  ·obtain⟨w,j,rfl⟩:=o4.1 c;simp only[cS.f1,dX.load,b4.j,aOk,aMz,cB,reduceIte,cJ,Nat.reduceAdd];have bsec:Z.1.sectors=n:=bsec;have bbuf:Z.1.buf.length≤0+108:=bbuf;refine⟨λvs h'=>∃(i:Nat) (d:Dk) (x:Jn) (F:List Nat),i≤L.length∧vs=[v,pT r 0,.int .i64 (i:Int)]∧lF r a m d (some (w,j,x)) Z.2.2 Z.1 vp room p q h' F∧aHq h h' F∧d.sectors=n∧d.buf.length≤108+107*i,fN L.length 2,⟨0,Z.1,Z.2.1,F4,by omega,rfl,P4,N4,bsec,by omega⟩,?_⟩;rintro ρ h' ⟨i,d,x,F,hi,hvs,P,N,hs,hb⟩;simp only[hY,iZ,kP,and_true] at hvs;obtain⟨x0,x1,x2⟩:=hvs;unfold aAV;rw[x0,x1,x2];have Ai:=A.ext N.ext;have ll:=aPs Ai;by_cases hlt:i<L.length
   ·have g:((i:Int)<(L.length:Int))=True:=eq_true (by omega);obtain⟨y,hy⟩:∃y,L[i]? =some y:=⟨_,kO hlt⟩;obtain⟨b,o,i1,Q⟩:=Ai.pt hy;obtain⟨-,-,wf⟩:=A.e y (wP hy);have bp:=P.b;by_cases k1:y.1.k=1
    ·have q1:(y.1.k==1)=true:=by rw[k1];rfl
     simp only[ll,g,i1,dR.f0,dR.f1,aR.load,Q.k,Q.n,fO,q1,cS.f0,aFc bp.d,cB,reduceIte,cJ,Nat.reduceAdd];obtain⟨Fd,D,hF,sw⟩:=P.swapP;refine aWq D y.1.n wf.n λh5 D5 u5=>?_;obtain⟨F5,P5,s5⟩:=sw _ h5 Fd D5 ⟨u5,λb hb=>.inl hb⟩ rfl;refine aPG P5 (N.step s5) A hy (by omega) (by show d.sectors≤1000;omega) (by show d.buf.length≤800000;omega) λh6 F6 d6 x6 P6 N6 e6 b6=>?_;have e6:d6.sectors=d.sectors:=e6;have b6:d6.buf.length≤d.buf.length+107:=b6;exact⟨⟨i+1,d6,x6,F6,by omega,rfl,P6,N6,by omega,by omega⟩,by simp[fN,x2];omega⟩
    ·have q1:(y.1.k==1)=false:=beq_eq_false_iff_ne.2 k1;simp only[ll,g,i1,dR.f0,aR.load,Q.k,fO,q1,cB,reduceIte,cJ,Nat.reduceAdd];refine aPG P N A hy (by omega) (by omega) (by omega) λh6 F6 d6 x6 P6 N6 e6 b6=>?_;exact⟨⟨i+1,d6,x6,F6,by omega,rfl,P6,N6,by omega,by omega⟩,by simp[fN,x2];omega⟩
   ·have g:((i:Int)<(L.length:Int))=False:=eq_false (by omega);simp only[ll,g,cB,reduceIte,cJ,Nat.reduceAdd];exact hk h' N.ext
  ·have e:=o4.2 c;subst e;have n0:(Z.2.2 !=0)=true:=bne_iff_ne.2 c;simp only[cS.f1,cS.f2,dX.load,dH.load,b4.j,b4.e,aOk,Option.isNone_none,dY,n0,cB,reduceIte,cJ,Nat.reduceAdd];exact hk h4 N4.ext
end
section
open Go
def aLR{h:PH}(_:True)(a b c:Int){p q:Pl}{v:Value}{rows:List (List Value)}(S:hM h 7 v rows)(wp:p.wf)(wq:q.wf)(e:∃xs:List JV,rows=xs.map jrw∧∀y∈xs,yJ h y.2.1 y.1.l∧CSl h y.2.2 y.1.w∧y.1.wf){k:cF}(hk:∀h',cZ h h'->k (.bool true) h'):
  bT PG tN #[.int .i64 a,.int .i64 b,.int .i64 c,lJ p q,v] h k:=by
 obtain⟨L,A⟩:=JAs.of S e;exact aLw A a b c wp wq hk
end
end Go.Proofs.YtiohehjhlghikaaGreatDoor
namespace Go.Proofs.YtiohehjhlghikaaGreatDoor.journalHalts
open Go Go.ChangeShapes Go.WideShapes Go.ChangeAt Go.WideMaps Go.WideElems Go.RowKit
theorem own:ownKnob Tryz.prog.godebug=none:=by kernel_rfl
theorem lifted(os:Os)(started:os.Started)(H:Type)(enc:TypeId×Value->H):
  ReturnsInHanded {} Tryz.checked os 5 .any (λw args=>(Rows.journalHaltsSpec.pre enc Tryz.prog Tryz.f5 [] false w args∧laidMetH Tryz.prog aL5 w)∧sizedMet enc Tryz.prog Tryz.f5 (OpenSpec.ofChange Rows.journalHaltsSpec) false w args)
   (Rows.journalHaltsSpec.post enc Tryz.prog Tryz.f5 false true false false):=by
 refine returnsInHanded_of_change_and (C:=Tryz.checked) (X:=λw _=>laidMetH Tryz.prog aL5 w) (λ_ _ _ hh h=>h.of_heap hh) own started (by kernel_rfl) Tryz.func5
  (ChangeSpec.witness_shaped (enc:=enc) (C:=Tryz.checked) (os:=os) (X:=λw _=>laidMetH Tryz.prog aL5 w) false (World.laidAll Tryz.prog os aL5) #[.int .i64 0,.int .i64 0,.int .i64 0,.agg #[.int .u64 0,.int .i64 0,.int .u64 0,.int .i64 0],.slice none 0 0] 8 (World.laidAll_os _ _ _) (World.shaped_of_ZipB (by kernel_rfl) (by kernel_rfl)) (by kernel_rfl) (by kernel_rfl) (by kernel_rfl) (by rw[MakeChecks.laidMetH_plain _ _ _ (by kernel_rfl)];exact laidMet_laidAll _ (by kernel_rfl) (by kernel_rfl))) ?_
 intro W base args ds gs before hval0 hW _ _ hL _;have hval:∀(j:Nat) t v,Tryz.f5.params[j]? =some t->args[j]? =some v->Value.okWide Tryz.prog W .any base t v:=hval0;have hW':=hW;obtain⟨p,q,hA0,hV,rfl,hfz,hnd⟩:=hW;have hA:DataW.TrodAll enc Tryz.prog W 0 (λ_=>true) true Tryz.f5.params.toList args.toList ds p:=hA0;rw[Tryz.params5] at hA hval;obtain⟨v0,vs0,d0,ds0,p0,q0,hargs,rfl,rfl,h0,r0⟩:=trodAll_cons hA;obtain⟨v1,vs1,d1,ds1,p1,q1,rfl,rfl,rfl,h1,r1⟩:=trodAll_cons r0;obtain⟨v2,vs2,d2,ds2,p2,q2,rfl,rfl,rfl,h2,r2⟩:=trodAll_cons r1;obtain⟨v3,vs3,d3,ds3,p3,q3,rfl,rfl,rfl,h3,r3⟩:=trodAll_cons r2;obtain⟨v4,vs4,d4,ds4,p4,q4,rfl,rfl,rfl,h4,r4⟩:=trodAll_cons r3;obtain⟨rfl,rfl,rfl⟩:=trodAll_nil r4;obtain rfl:args= #[v0,v1,v2,v3,v4]:=by cases args;simp_all
 obtain⟨rfl,rfl⟩:=trodVars_none hV;obtain⟨a0,rfl,rfl,rfl,w0⟩:=open_int Tryz.underlying3 (hval 0 3 v0 rfl rfl) h0;obtain⟨a1,rfl,rfl,rfl,w1⟩:=open_int Tryz.underlying3 (hval 1 3 v1 rfl rfl) h1;obtain⟨a2,rfl,rfl,rfl,w2⟩:=open_int Tryz.underlying3 (hval 2 3 v2 rfl rfl) h2;obtain⟨x3,y3,rfl,m3,n3⟩:=aVf (hval 3 25 v3 rfl rfl) h3;obtain⟨rows4,s4,o4⟩:=aVJ gA.und (by rw[dR.cells];decide) (hval 4 _ v4 rfl rfl) h4;rw[dR.cells] at s4;have e4:=JV.rds o4;refine(aRI (aLR (kOf hL) a0 a1 a2 s4 m3 n3 e4 λh' hx=>⟨rfl,hx⟩)).mono λe W' ⟨he,hk⟩=>?_;subst he;exact⟨_,rfl,aPJ aWT aWU (by rw[Tryz.params5];decide +kernel) Tryz.underlying4 (by kernel_rfl) rfl hW' hk rfl rfl rfl⟩
theorem over:Rows.journalHaltsRow.holds Tryz.pinned (OpenSpec.ofChange Rows.journalHaltsSpec):=
 OpenClaim.holds_of_wide 5 Tryz.f5 rfl rfl rfl rfl rfl rfl rfl ⟨rfl,rfl,rfl,rfl,rfl⟩ rfl rfl rfl rfl rfl (by kernel_rfl) Tryz.func5 (by kernel_rfl)
  (of_decide_eq_true (by kernel_rfl)) (by unfold Func.isWrapper;first|(rw[if_pos (by decide +kernel)];kernel_rfl)|(rw[if_neg (by decide +kernel)];exact⟨rfl,rfl⟩))
  (λos started H enc _=>lifted os started H enc)
theorem proved:Rows.JournalHaltsCardSaid:=
 Claim7.holds_tied_plain_at .later [] [.data,.pinned] true (true,"0c8c7a63d2a285e71e8bcbfa8c35b77b58cfcfe86579a48db0f3727ae4e3fcf4") false
  over (λ_ h=>by cases h) (by kernel_rfl) (λ_ h=>by cases h) journalHalts_row_tie rfl ⟨rfl,rfl⟩ (by kernel_rfl) rfl
  (λf fn hf hfn=>by
   obtain rfl:f=5:=Option.some.inj ((show Tryz.prog.funcNamed Rows.journalHaltsRow.func=some 5 by kernel_rfl).symm.trans hf) |>.symm;obtain rfl:fn=Tryz.f5:=(Option.some.inj (Tryz.func5.symm.trans hfn)).symm;exact⟨by kernel_rfl,λj t ht=>by
    have hall:(Tryz.f5.params.toList.all λu=>!Tryz.prog.wantsStandIn u)=true:=by kernel_rfl
    have hm:t∈Tryz.f5.params.toList:=by simpa using Array.mem_of_getElem? ht
    exact(show Tryz.prog.wantsStandIn t=false by simpa using aJD.1 hall t hm)⟩)
  (by kernel_rfl)
#print axioms proved
end Go.Proofs.YtiohehjhlghikaaGreatDoor.journalHalts
