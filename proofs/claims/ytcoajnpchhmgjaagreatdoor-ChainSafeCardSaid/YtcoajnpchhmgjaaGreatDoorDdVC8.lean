/- chain: the card of ChainSafe: no packet is both received and timed out. -/
import Derived.Test.YtcoajnpchhmgjaaGreatDoorDdVC7
set_option linter.unusedSimpArgs false
set_option linter.unusedVariables false
set_option linter.unusedSectionVars false
set_option maxRecDepth 100000
open Go.Instr (loadAt fieldAt indexAt extract buildSlice build)
namespace Go.Proofs.YtcoajnpchhmgjaaGreatDoor
open Go
theorem aHK{h:PH}(p:Pk)(hs0:0≤p.s)(ht0:0≤p.t){k:eJ}(hk:∀h',fE h h'->k (.bool p.right) h'):cR PG oT #[.agg p.cells.toArray] h k:=by
 apply aBL.call
 unfold aBL
 intro r hr
 rw[eY]
 have u:fE h (h.set r (.cells (Value.cells (.agg p.cells.toArray)) bR)):=eW.new hr
 have b:Bx (h.set r (.cells (Value.cells (.agg p.cells.toArray)) bR)) r p.cells:=Bx.new
 generalize h.set r (.cells (Value.cells (.agg p.cells.toArray)) bR)=h1 at *
 have c0:fH h1 ⟨r,0,none⟩=some (.int .i64 p.f):=b.cell 0
 have c1:fH h1 ⟨r,0+1,none⟩=some (.int .u64 p.s):=b.cell 1
 have c2:fH h1 ⟨r,0+2,none⟩=some (.int .u64 p.t):=b.cell 2
 have c3:fH h1 ⟨r,0+3,none⟩=some (.string p.d):=b.cell 3
 have hk:=hk h1 u
 unfold Pk.right at hk
 have hf:(p.f=0∨p.f=1)∨(p.f<0∨1<p.f):=by omega
 rcases hf with hf|hf
 ·have g1:(0≤p.f)=True:=by apply eq_true;omega
  have g2:(p.f≤1)=True:=by apply eq_true;omega
  have go:bT PG h1 (loadAt dR (pT r 0))=some (.int .i64 p.f):=by rw[dR.load,c0]
  have first:∀X:Prop,X->X:=λ_ x=>x
  by_cases h3:p.s=0
  ·have e3:((0:Int)<p.s)=False:=by apply eq_false;omega
   have e3':(p.s≠0)=False:=by simp[h3]
   simp only[g1,g2,e3',decide_false,wU,aFZ,eK,reduceIte] at hk
   rcases hf with hf|hf
   ·have d0:(p.f==0)=true:=by simp[hf]
    simp only[bR.f0,bR.f1,bR.f2,bR.f3,dR.load,dT.load,cT.load,c0,d0,c1,e3,eK,reduceIte]
    exact hk
   ·have d0:(p.f==0)=false:=by simp[hf]
    have d1:(p.f==1)=true:=by simp[hf]
    simp only[bR.f0,bR.f1,bR.f2,bR.f3,dR.load,dT.load,cT.load,c0,d0,d1,c1,e3,eK,reduceIte]
    exact hk
  ·have e3:((0:Int)<p.s)=True:=by apply eq_true;omega
   have e3':(p.s≠0)=True:=by simp[h3]
   by_cases h4:p.t=0
   ·have e4:((0:Int)<p.t)=False:=by apply eq_false;omega
    have e4':(p.t≠0)=False:=by simp[h4]
    simp only[g1,g2,e3',e4',decide_false,wU,aFZ,eK,reduceIte] at hk
    rcases hf with hf|hf
    ·have d0:(p.f==0)=true:=by simp[hf]
     simp only[bR.f0,bR.f1,bR.f2,bR.f3,dR.load,dT.load,cT.load,c0,d0,c1,e3,c2,e4,eK,reduceIte]
     exact hk
    ·have d0:(p.f==0)=false:=by simp[hf]
     have d1:(p.f==1)=true:=by simp[hf]
     simp only[bR.f0,bR.f1,bR.f2,bR.f3,dR.load,dT.load,cT.load,c0,d0,d1,c1,e3,c2,e4,eK,reduceIte]
     exact hk
   ·have e4:((0:Int)<p.t)=True:=by apply eq_true;omega
    have e4':(p.t≠0)=True:=by simp[h4]
    have e5:decide ((p.d.size:Int)≤64)=decide (p.d.size≤64):=by
     rw[zLl];simp only[decide_eq_true_eq];omega
    simp only[g1,g2,e3',e4',Bool.and_self,zLo,eK,reduceIte] at hk
    rcases hf with hf|hf
    ·have d0:(p.f==0)=true:=by simp[hf]
     simp only[bR.f0,bR.f1,bR.f2,bR.f3,dR.load,dT.load,cT.load,c0,d0,c1,e3,c2,e4,c3,mW cT.und,e5,eK,reduceIte]
     exact hk
    ·have d0:(p.f==0)=false:=by simp[hf]
     have d1:(p.f==1)=true:=by simp[hf]
     simp only[bR.f0,bR.f1,bR.f2,bR.f3,dR.load,dT.load,cT.load,c0,d0,d1,c1,e3,c2,e4,c3,mW cT.und,e5,eK,reduceIte]
     exact hk
 ·have d0:(p.f==0)=false:=by simp;omega
  have d1:(p.f==1)=false:=by simp;omega
  have g:(decide (0≤p.f)&&decide (p.f≤1))=false:=by
   rw[Bool.and_eq_false_iff];simp only[decide_eq_false_iff_not];omega
  simp only[g,wU] at hk
  simp only[bR.f0,dR.load,c0,d0,d1,eK,reduceIte]
  exact hk
def tW(p:Pk):List Tx:=if p.right then [p.bs] else []
def aFb(p:Pk):List Tx:=if p.right then [[97,99,107]++p.bs] else []
theorem aJq{h:PH}{b m:Nat}{A:List Tx}{K:List Nat}(H:Bk b m A K h){p:Pk}(w:p.wf){k:eJ}(hk:∀h',Bk b m (tW p++A) K h'->eW [b,m] h h'->k (.string (tx (rB p))) h'):
  cR PG pL #[pT b 0,p.v] h k:=by
 apply vW.call
 unfold vW
 intro r1 hr1
 try rw[eY]
 have u1:fE h (h.set r1 (.cells (Value.cells p.v) bR)):=eW.new hr1
 have B1:Bx (h.set r1 (.cells (Value.cells p.v) bR)) r1 p.cells:=Bx.new
 generalize h.set r1 (.cells (Value.cells p.v) bR)=h1 at *
 have lp:∀{h':PH},fE h1 h'->bT PG h' (loadAt bR (pT r1 0))=some (.agg p.cells.toArray):=λu=>(B1.ext u).pk rfl
 simp only[lp eW.refl,eK,reduceIte,eX,Nat.reduceAdd]
 refine aHK p w.1 w.2.2.1 λh2 u2=>?_
 unfold tW rB aHZ at hk
 cases hr:p.right with
 | false=>
  simp only[hr,zLr,if_false,yB] at hk
  simp only[aBH,eK,reduceIte,eX,Nat.reduceAdd]
  exact hk h2 (H.ext (u1.trans u2)) (u1.trans u2).upd
 | true=>
  simp only[hr,if_true] at hk
  simp only[lp u2,eK,reduceIte,eX,Nat.reduceAdd]
  refine aM3 w hr λh3 u3=>?_
  have e3:=(u1.trans u2).trans u3
  have hb:=aL4 hr
  refine aLa (H.ext e3) (by omega) λh4 B4 u4=>?_
  exact hk h4 B4 (e3.upd.trans u4)
theorem aMK{h:PH}{b m:Nat}{A:List Tx}{K:List Nat}(H:Bk b m A K h){p:Pk}(w:p.wf){k:eJ}(hk:∀h',Bk b m (aFb p++A) K h'->eW [b,m] h h'->k (.string (tx (aAv p))) h'):
  cR PG xI #[pT b 0,p.v] h k:=by
 apply aAh.call
 unfold aAh
 intro r1 hr1
 try rw[eY]
 have u1:fE h (h.set r1 (.cells (Value.cells p.v) bR)):=eW.new hr1
 have B1:Bx (h.set r1 (.cells (Value.cells p.v) bR)) r1 p.cells:=Bx.new
 generalize h.set r1 (.cells (Value.cells p.v) bR)=h1 at *
 have lp:∀{h':PH},fE h1 h'->bT PG h' (loadAt bR (pT r1 0))=some (.agg p.cells.toArray):=λu=>(B1.ext u).pk rfl
 simp only[lp eW.refl,eK,reduceIte,eX,Nat.reduceAdd]
 refine aHK p w.1 w.2.2.1 λh2 u2=>?_
 unfold aFb aAv aHZ at hk
 cases hr:p.right with
 | false=>
  simp only[hr,zLr,if_false,yB] at hk
  simp only[aBH,eK,reduceIte,eX,Nat.reduceAdd]
  exact hk h2 (H.ext (u1.trans u2)) (u1.trans u2).upd
 | true=>
  simp only[hr,if_true] at hk
  simp only[lp u2,eK,reduceIte,eX,Nat.reduceAdd]
  refine aM3 w hr λh3 u3=>?_
  have e3:=(u1.trans u2).trans u3
  have hb:=aL4 hr
  have qa:({data:=#[97,99,107]}:ByteArray)=tx [97,99,107]:=rfl
  have s1:aT PG (binOp .add cT (.string (tx [97,99,107])) (.string (tx p.bs)))=some (.string (tx ([97,99,107]++p.bs))):=mR (by simp;omega)
  simp only[qa,s1,eK,reduceIte,eX,Nat.reduceAdd]
  refine aLa (H.ext e3) (by simp;omega) λh4 B4 u4=>?_
  exact hk h4 B4 (e3.upd.trans u4)
structure Ch.DOk(s:Ch):Prop where
 id:s.id=0∨s.id=1
 seq:s.seq<18446744073709551616
 rk:∃hs,wE hs s.cl
 few:s.cl.length≤4096
 pos:∀y∈zH s.cl,0≤y∧y<18446744073709551616
def rM(b m:Nat)(A:List Tx)(K:List Nat):mO:=λh F=>F=b::m::K∧Bk b m A K h
theorem rM.good(b m:Nat)(A:List Tx)(K:List Nat):mU (rM b m A K):=⟨λ⟨e,H⟩ x hx=>H.known x (e▸hx),λ⟨e,H⟩ u hK=>⟨e,H.upd u (λx hx=>hK x (e▸hx))⟩⟩
def rsA(sp:Nat)(s:St):mO:=λh F=>∃G,vH h sp s G∧F=sp::G
theorem rsA.good(sp:Nat)(s:St):mU (rsA sp s):=⟨λ⟨G,H,e⟩ x hx=>H.known x (e▸hx),λ⟨G,H,e⟩ u hK=>⟨G,H.upd u (hK _ (by rw[e];simp)) (λg hg=>hK g (by rw[e];simp[hg])),e⟩⟩
def krA(cp:Nat)(l:List jN):mO:=λh F=>xW h cp l F
theorem krA.good(cp:Nat)(l:List jN):mU (krA cp l):=⟨λH=>xW.known H,λH u hK=>xW.upd H u hK⟩
def noA(w:Value)(n:Nat):mO:=λh F=>∃ns:List Nt,gU h iO 5 w (ns.map Nt.cells) F∧ns.length≤n
theorem noA.good(w:Value)(n:Nat):mU (noA w n):=⟨λ⟨_,O,_⟩=>O.known,λ⟨ns,O,l⟩ u hK=>⟨ns,O.upd u hK,l⟩⟩
def boA(v:Value)(n:Nat):mO:=λh F=>∃rows:List (List Value),gU h fS 1 v rows F∧rows.length≤n∧∀r∈rows,∀u∈r,iF u=true
theorem boA.good(v:Value)(n:Nat):mU (boA v n):=⟨λ⟨_,O,_⟩=>O.known,λ⟨ns,O,l⟩ u hK=>⟨ns,O.upd u hK,l⟩⟩
def Ch.dcells(s:Ch)(b sp cp:Nat)(bv nv:Value):List Value:=[pT b 0,.int .i64 s.id,pT sp 0,pT cp 0,.int .u64 (s.seq:Int),bv,nv]
def nZ(c:Nat)(cs:List Value)(sp:Nat)(st:St)(cp:Nat)(cl:List jN)(bv nv:Value)(n:Nat):mO:=gF (rH c cs) (gF (rsA sp st) (gF (krA cp cl) (gF (boA bv n) (noA nv n))))
def DC(c b:Nat)(s:Ch)(n:Nat):mO:=λh F=>∃sp cp bv nv,nZ c (s.dcells b sp cp bv nv) sp s.st cp s.cl bv nv n h F
theorem nZ.good{c:Nat}{cs:List Value}{sp:Nat}{st:St}{cp:Nat}{cl:List jN}{bv nv:Value}{n:Nat}:mU (nZ c cs sp st cp cl bv nv n):=(rH.good _ _).star ((rsA.good _ _).star ((krA.good _ _).star ((boA.good _ _).star (noA.good _ _))))
theorem DC.good(c b:Nat)(s:Ch)(n:Nat):mU (DC c b s n):=⟨λ⟨_,_,_,_,H⟩=>nZ.good.known H,λ⟨a,b,c,d,H⟩ u hK=>⟨a,b,c,d,nZ.good.upd H u hK⟩⟩
section
variable{c:Nat}{cs:List Value}{sp:Nat}{st:St}{cp:Nat}{cl:List jN}{bv nv:Value}{n:Nat}{h:PH}{F:List Nat}(H:nZ c cs sp st cp cl bv nv n h F)
include H
theorem nZ.fBox:vX h F (rH c cs) (λX=>gF X (gF (rsA sp st) (gF (krA cp cl) (gF (boA bv n) (noA nv n))))):=gF.left ((rsA.good _ _).star ((krA.good _ _).star ((boA.good _ _).star (noA.good _ _)))) H
theorem nZ.fSt:vX h F (rsA sp st) (λX=>gF (rH c cs) (gF X (gF (krA cp cl) (gF (boA bv n) (noA nv n))))):=(gF.right (rH.good _ _) H).comp λ_ H=>gF.left ((krA.good _ _).star ((boA.good _ _).star (noA.good _ _))) H
theorem nZ.fCl:vX h F (krA cp cl) (λX=>gF (rH c cs) (gF (rsA sp st) (gF X (gF (boA bv n) (noA nv n))))):=(gF.right (rH.good _ _) H).comp λ_ H=>(gF.right (rsA.good _ _) H).comp λ_ H=>gF.left ((boA.good _ _).star (noA.good _ _)) H
theorem nZ.fTwo:vX h F (gF (boA bv n) (noA nv n)) (λX=>gF (rH c cs) (gF (rsA sp st) (gF (krA cp cl) X))):=(gF.right (rH.good _ _) H).comp λ_ H=>(gF.right (rsA.good _ _) H).comp λ_ H=>gF.right (krA.good _ _) H
theorem nZ.cell:Bx h c cs:=by
 obtain⟨Fa,⟨-,B⟩,-,-⟩:=nZ.fBox H
 exact B
theorem nZ.okst:st.Ok:=by
 obtain⟨Fs,⟨G,S,-⟩,-,-⟩:=nZ.fSt H
 exact S.ok
end
section
variable{h:PH}{c:Nat}{s:Ch}{b sp cp:Nat}{bv nv:Value}(B:Bx h c (s.dcells b sp cp bv nv))
include B
theorem dl0:bT PG h (loadAt iL (pT c 0))=some (pT b 0):=by rw[iL.load,B.cell];rfl
theorem dl1:bT PG h (loadAt dR (pT c 1))=some (.int .i64 s.id):=by rw[dR.load,B.cell];rfl
theorem dl2:bT PG h (loadAt iA (pT c 2))=some (pT sp 0):=by rw[iA.load,B.cell];rfl
theorem dl3:bT PG h (loadAt kO (pT c 3))=some (pT cp 0):=by rw[kO.load,B.cell];rfl
theorem dl4:bT PG h (loadAt dT (pT c 4))=some (.int .u64 (s.seq:Int)):=by rw[dT.load,B.cell];rfl
theorem dl5:bT PG h (loadAt gV (pT c 5))=some bv:=by rw[gV.load,B.cell];rfl
theorem dl6:bT PG h (loadAt fS (pT c 6))=some nv:=by rw[fS.load,B.cell];rfl
end
theorem aWw(k:Int)(p:Pk):aT PG (build iO #[(0,.int .i64 k),(1,.agg p.cells.toArray)])=some (.agg (Nt.cells ⟨k,p⟩).toArray):=by kernel_rfl
theorem aXK:iP PG (buildSlice fS 0 #[])=some (.cells #[] iO,λr=>pure (.slice (some ⟨r,0,none⟩) 0 0)):=by kernel_rfl
theorem aPC{h:PH}{c b:Nat}{s:Ch}{n:Nat}{F:List Nat}(H:DC c b s n h F)(m:Nat)(hm:m≤10){k:eJ}(hk:k (.bool (decide (s.st.now.length+m≤4096))) h):cR PG sC #[pT c 0,.int .i64 (m:Int)] h k:=by
 apply vN.call
 unfold vN
 obtain⟨sp,cp,bv,nv,P⟩:=H
 have hfew:=P.okst.few
 obtain⟨Fs,⟨G,S,-⟩,-,-⟩:=P.fSt
 obtain⟨nv',bv',bl,h1,h2,-⟩:=S.here
 have l0:bT PG h (loadAt eM (pT sp 0))=some nv':=by rw[eM.load];simp[fH,h1]
 have ll:=h2.len (t':=dR) eM.und
 rw[kQ] at ll
 have w:IntKind.i64.wrap ((s.st.now.length:Int)+(m:Int))=((s.st.now.length+m:Nat):Int):=by rw[gD (by omega) (by omega)];omega
 have d:decide (((s.st.now.length+m:Nat):Int)≤4096)=decide (s.st.now.length+m≤4096):=by
  rw[zLl];simp only[decide_eq_true_eq];omega
 simp only[eV.f2,fN.f0,iG,dl2 P.cell,l0,ll,w,d,eK,reduceIte,eX,Nat.reduceAdd]
 exact hk
theorem aJk{h:PH}{c b:Nat}{s:Ch}{n:Nat}{F:List Nat}(H:DC c b s n h F)(hn:n≤10000)(kind:Int)(p:Pk){k:eJ}(hk:∀h' F',DC c b s (n+1) h' F'->jZ h F h' F'->k (.tuple #[]) h'):
  cR PG nU #[pT c 0,.int .i64 kind,p.v] h k:=by
 apply pI.call
 unfold pI
 obtain⟨sp,cp,bv,nv,P⟩:=H
 intro r1 hr1
 try rw[eY]
 have u1:fE h (h.set r1 (.cells (Value.cells p.v) bR)):=eW.new hr1
 have B1:Bx (h.set r1 (.cells (Value.cells p.v) bR)) r1 p.cells:=Bx.new
 generalize h.set r1 (.cells (Value.cells p.v) bR)=h1 at *
 have P1:=nZ.good.ext P u1
 have lp:∀{h':PH},fE h1 h'->bT PG h' (loadAt bR (pT r1 0))=some (.agg p.cells.toArray):=λu=>(B1.ext u).pk rfl
 obtain⟨Ft,⟨Fb,Fn,rfl,⟨rows,Ob,lb,cb⟩,⟨ns,On,ln⟩,hd⟩,hFt,back⟩:=P1.fTwo
 simp only[eV.f6,iG,dl6 P1.cell,lp eW.refl,aWw,aXK,eK,reduceIte,eX,Nat.reduceAdd]
 intro r8 hr8
 refine iK ?_
 try rw[eY]
 have u2:fE h1 (h1.set r8 (.cells #[] iO)):=eW.new hr8
 have O2:gU (h1.set r8 (.cells #[] iO)) iO 5 (.slice (some ⟨r8,0,none⟩) 0 0) (([]:List Nt).map Nt.cells) [r8]:=gU.lit (n:=0) (Nt.rows []) fP (by simp) (by decide) rfl
 generalize h1.set r8 (.cells #[] iO)=h2 at *
 refine kU fS.und fS.und iO.info iO.size iO.bytes iO.zero rfl (by decide) O2 (On.ext u2).slR (Nt.isC _) (by simp only[kQ,zLK];omega) ?_
 intro v3 h3 F3 O3 u3 k3 _
 rw[kF,yB] at O3
 have e13:fE h1 h3:=u2.fresh u3 (gQ.one hr8)
 have f3:gQ h1 F3:=λx hx=>by
  rcases k3 x hx with hx|hx
  ·simp only[iQ] at hx;subst hx;exact hr8
  ·exact u2.none hx
 refine⟨lp e13,?_⟩
 simp only[aTH,eK,reduceIte,eX,Nat.reduceAdd]
 intro r14 hr14
 refine iK ?_
 try rw[eY]
 have u4:fE h3 (h3.set r14 (.cells (Nt.cells ⟨kind,p⟩).toArray iO (0,0))):=eW.new hr14
 have S4:iR (h3.set r14 (.cells (Nt.cells ⟨kind,p⟩).toArray iO (0,0))) 5 (.slice (some ⟨r14,0,none⟩) 1 1) ([(⟨kind,p⟩:Nt)].map Nt.cells):=(gU.lit (n:=1) (Nt.rows [⟨kind,p⟩]) fP (by simp) (by decide) (by simp)).slR
 generalize h3.set r14 (.cells (Nt.cells ⟨kind,p⟩).toArray iO (0,0))=h4 at *
 refine kU fS.und fS.und iO.info iO.size iO.bytes iO.zero rfl (by decide) (O3.ext u4) S4 (Nt.isC _) (by simp only[kQ,zLQ];omega) ?_
 intro v5 h5 F5 O5 u5 k5 _
 rw[←rL] at O5
 have e15:fE h1 h5:=(e13.trans u4).fresh u5 f3
 have f5:gQ h1 F5:=f3.grow (e13.trans u4) k5
 have N5:noA v5 (n+1) h5 F5:=⟨ns++[⟨kind,p⟩],O5,by simp;omega⟩
 have W5:gF (boA bv (n+1)) (noA v5 (n+1)) h5 (Fb++F5):=gF.mk ⟨rows,Ob.ext e15,by omega,cb⟩ N5 (λx hx hx5=>Ob.known x hx (f5 x hx5))
 obtain⟨F6,P6,s6⟩:=back _ h5 _ W5 ⟨e15.upd,λx hx=>by
  rcases kR.1 hx with hx|hx
  ·exact .inl (by simp[hx])
  ·exact .inr (f5 x hx)⟩
 have P6:nZ c (s.dcells b sp cp bv nv) sp s.st cp s.cl bv v5 (n+1) h5 F6:=P6
 obtain⟨Fx,⟨rfl,X6⟩,hFx,back2⟩:=P6.fBox
 refine fS.put X6 (o:=6) (by show 6<7;decide) O5.slR.isc λh7 X7 u7=>?_
 have X7:Bx h7 c (s.dcells b sp cp bv v5):=X7
 obtain⟨F8,P8,s8⟩:=back2 (rH c (s.dcells b sp cp bv v5)) h7 [c] ⟨rfl,X7⟩ ⟨u7,λx hx=>.inl hx⟩
 refine hk h7 F8 ⟨sp,cp,bv,v5,P8⟩ ?_
 exact((jZ.ext u1).trans s6).trans s8
theorem aNm{a b c d:Tx}(h:sF a b=sF c d)(hb:b.length=d.length):a=c∧b=d:=by
 unfold sF at h
 simp only[mQ,true_and] at h
 exact List.append_inj' h hb
theorem aLZ{n m:Nat}(hn:n<18446744073709551616)(hm:m<18446744073709551616)(h:be n 8=be m 8):n=m:=by
 have:=congrArg val h
 rw[aKU,aKU,aCI (show n<256^8 by omega),aCI (show m<256^8 by omega)] at this
 exact this
theorem aO8{n m:Nat}{d e:Tx}(hn:n<18446744073709551616)(hm:m<18446744073709551616)(h:aGu n d=aGu m e):n=m∧d=e:=by
 unfold aGu at h
 simp only[mQ,true_and] at h
 obtain⟨h1,h2⟩:=List.append_inj h (by rw[jQ,jQ])
 exact⟨aLZ hn hm h1,h2⟩
theorem aW3{n m:Nat}(hn:n<256)(hm:m<256)(h:UInt8.ofNat (n%256)=UInt8.ofNat (m%256)):n=m:=by
 have:=congrArg UInt8.toNat h
 simp at this
 omega
theorem aSR{p q:Pr}(hk:q.k.length≤16)(hv:q.v.length≤64)(h:aAn p=aAn q):p=q:=by
 unfold aAn at h
 simp only[mQ,true_and] at h
 obtain⟨h1,h2⟩:=h
 have hl:=congrArg List.length h2
 simp only[lH,wT] at hl
 have hkl:p.k.length=q.k.length:=aW3 (by omega) (by omega) h1
 obtain⟨e1,e2⟩:=List.append_inj h2 hkl
 simp only[mQ] at e2
 obtain⟨pk,pv⟩:=p
 obtain⟨qk,qv⟩:=q
 simp only at e1 e2
 rw[e1,e2.2]
theorem aXL{p:Pr}{i n:Nat}{path:List Tx}(h2:2≤n)(hi:i<fV n):pJ p i n path=pQ (sF (pJ p i (fV n) path) (path.getD (iT i n-1) [])):=by
 rw[pJ,dif_pos h2,if_pos hi];rfl
theorem aXg{p:Pr}{i n:Nat}{path:List Tx}(h2:2≤n)(hi:¬i<fV n):pJ p i n path=pQ (sF (path.getD (iT i n-1) []) (pJ p (i-fV n) (n-fV n) path)):=by
 rw[pJ,dif_pos h2,if_neg hi];rfl
theorem aXb{p:Pr}{i n:Nat}{path:List Tx}(h2:¬2≤n):pJ p i n path=pQ (aAn p):=by
 rw[pJ,dif_neg h2];rfl
theorem aUj{p:Pr}{i n:Nat}{path:List Tx}(h2:2≤n)(hi:i<fV n):upA p i n path=sF (pJ p i (fV n) path) (path.getD (iT i n-1) [])::upA p i (fV n) path:=by
 rw[upA,dif_pos h2,if_pos hi]
theorem aUt{p:Pr}{i n:Nat}{path:List Tx}(h2:2≤n)(hi:¬i<fV n):upA p i n path=sF (path.getD (iT i n-1) []) (pJ p (i-fV n) (n-fV n) path)::upA p (i-fV n) (n-fV n) path:=by
 rw[upA,dif_pos h2,if_neg hi]
theorem aXj{p:Pr}{i n:Nat}{path:List Tx}(h2:¬2≤n):upA p i n path=[aAn p]:=by
 rw[upA,dif_neg h2]
theorem aVE(n:Nat)(p:Pr)(i:Nat)(path:List Tx):∃t∈upA p i n path,pQ t=pJ p i n path∧(if 2≤n then(if i<fV n then t=sF (pJ p i (fV n) path) (path.getD (iT i n-1) []) else t=sF (path.getD (iT i n-1) []) (pJ p (i-fV n) (n-fV n) path)) else t=aAn p):=by
 by_cases h2:2≤n
 ·by_cases hi:i<fV n
  ·exact⟨_,by rw[aUj h2 hi];exact aIJ,(aXL h2 hi).symm,by rw[if_pos h2,if_pos hi]⟩
  ·exact⟨_,by rw[aUt h2 hi];exact aIJ,(aXg h2 hi).symm,by rw[if_pos h2,if_neg hi]⟩
 ·exact⟨_,by rw[aXj h2];exact aIJ,(aXb h2).symm,by rw[if_neg h2]⟩
theorem aPq{l:List Pr}(h2:2≤l.length):aAT l=sF (mH (l.take (fV l.length))) (mH (l.drop (fV l.length)))::(aAT (l.drop (fV l.length))++aAT (l.take (fV l.length))):=by
 rw[aAT,dif_pos h2]
theorem aWh{l:List Pr}(h2:¬2≤l.length):aAT l=[aAn (l.headD ⟨[],[]⟩)]:=by
 rw[aAT,dif_neg h2]
theorem aXA{l:List Pr}(h2:2≤l.length):mH l=pQ (sF (mH (l.take (fV l.length))) (mH (l.drop (fV l.length)))):=by
 rw[mH,dif_pos h2];rfl
theorem aWW{l:List Pr}(h2:¬2≤l.length):mH l=pQ (aAn (l.headD ⟨[],[]⟩)):=by
 rw[mH,dif_neg h2];rfl
theorem aTx(l:List Pr):∃t∈aAT l,pQ t=mH l∧(if 2≤l.length then t=sF (mH (l.take (fV l.length))) (mH (l.drop (fV l.length))) else t=aAn (l.headD ⟨[],[]⟩)):=by
 by_cases h2:2≤l.length
 ·exact⟨_,by rw[aPq h2];exact aIJ,(aXA h2).symm,by rw[if_pos h2]⟩
 ·exact⟨_,by rw[aWh h2];exact aIJ,(aWW h2).symm,by rw[if_neg h2]⟩
theorem aUU{p:Pr}{i n:Nat}{path:List Tx}(h2:2≤n)(hi:i<fV n):∀t∈upA p i (fV n) path,t∈upA p i n path:=λt ht=>by
 rw[aUj h2 hi]
 exact aJw _ ht
theorem aSJ{p:Pr}{i n:Nat}{path:List Tx}(h2:2≤n)(hi:¬i<fV n):∀t∈upA p (i-fV n) (n-fV n) path,t∈upA p i n path:=λt ht=>by
 rw[aUt h2 hi]
 exact aJw _ ht
theorem aSS{l:List Pr}(h2:2≤l.length):∀t∈aAT (l.take (fV l.length)),t∈aAT l:=λt ht=>by
 rw[aPq h2]
 simp[ht]
theorem aRG{l:List Pr}(h2:2≤l.length):∀t∈aAT (l.drop (fV l.length)),t∈aAT l:=λt ht=>by
 rw[aPq h2]
 simp[ht]
theorem aTW:∀(n:Nat) {l:List Pr} {p:Pr} {i:Nat} {path:List Tx},l.length=n->1≤n->i<n->(∀q∈l,q.k.length≤16∧q.v.length≤64)->iT i n≤path.length->(∀d∈path,d.length=32)->∀{A:List Tx},aCN A->(∀t∈upA p i n path,t∈A)->(∀t∈aAT l,t∈A)->pJ p i n path=mH l->l[i]? =some p:=by
 intro n
 induction n using Nat.strongRecOn with
 | ind n ih=>
  intro l p i path hl h1 hi hsm hdp hall A U hu hd e
  obtain⟨t,ht,et,ct⟩:=aVE n p i path
  obtain⟨s,hs,es,cs⟩:=aTx l
  have ets:t=s:=U t (hu t ht) s (hd s hs) (by rw[et,es,e])
  by_cases h2:2≤n
  ·obtain⟨m1,m2⟩:=mK h2
   have h2l:2≤l.length:=by omega
   rw[if_pos h2] at ct
   rw[if_pos h2l] at cs
   have hg:(path.getD (iT i n-1) []).length=32:=by
    have h3:1≤iT i n:=by rw[iT,dif_pos h2];split<;>omega
    rw[aAN,nM (by omega)]
    exact hall _ (aKc _)
   have hdep:iT i n=if i<fV n then 1+iT i (fV n) else 1+iT (i-fV n) (n-fV n):=by rw[iT,dif_pos h2]
   rw[hl] at cs
   by_cases hc:i<fV n
   ·rw[if_pos hc] at ct hdep
    rw[ct,cs] at ets
    obtain⟨e1,-⟩:=aNm ets (by rw[hg,uM])
    have:=ih (fV n) m2 (l:=l.take (fV n)) (p:=p) (i:=i) (path:=path) (by rw[vZ];omega) m1 hc (λq hq=>hsm q (aJ8 hq)) (by omega) hall U (λt ht=>hu t (aUU h2 hc t ht)) (λt ht=>hd t (aSS h2l t (by rw[hl];exact ht))) e1
    rw[aGj,if_pos hc] at this
    exact this
   ·rw[if_neg hc] at ct hdep
    rw[ct,cs] at ets
    obtain⟨-,e1⟩:=aNm ets (by rw[aGk,uM])
    have:=ih (n-fV n) (by omega) (l:=l.drop (fV n)) (p:=p) (i:=i-fV n) (path:=path) (by rw[wL];omega) (by omega) (by omega) (λq hq=>hsm q (aKo hq)) (by omega) hall U (λt ht=>hu t (aSJ h2 hc t ht)) (λt ht=>hd t (aRG h2l t (by rw[hl];exact ht))) e1
    rw[aJ7] at this
    rw[←this]
    congr 1
    omega
  ·rw[if_neg h2] at ct
   rw[if_neg (by omega)] at cs
   obtain⟨q,rfl⟩:=List.length_eq_one_iff.1 (show l.length=1 by omega)
   have i0:i=0:=by omega
   subst i0
   rw[ct,cs] at ets
   obtain⟨y1,y2⟩:=hsm q (by simp)
   have:=aSR (p:=p) (q:=q) y1 y2 ets
   rw[this];rfl
theorem aPu{f:Lf}{b:List Pr}(M:MOk b){A:List Tx}(U:aCN A)(ha:∀t∈aGJ f,t∈A)(hb:∀t∈xG b,t∈A)(h:oM f=some (lO b)):f.n=(b.length:Int)∧0≤f.i∧f.i<f.n∧b[f.i.toNat]? =some f.p:=by
 by_cases H:OkC f
 case neg=>rw[aOI H] at h;cases h
 rw[aOD H] at h
 simp only[zL5] at h
 have hn1:=H.n1
 have hn2:=H.n2
 have hi1:=H.i1
 have hi2:=H.i2
 have hml:=M.len
 have ht:aGu f.n.toNat (aKT f)=aGu b.length (if b=[] then [] else mH b):=U _ (ha _ (by unfold aGJ;simp)) _ (hb _ (by unfold xG;simp)) h
 obtain⟨e1,e2⟩:=aO8 (by omega) (by omega) ht
 have hne:b≠[]:=λe=>by rw[e] at e1;simp at e1;omega
 rw[if_neg hne] at e2
 refine⟨by omega,hi1,hi2,?_⟩
 unfold aKT at e2
 refine aTW f.n.toNat e1.symm (by omega) (by omega) (λq hq=>⟨M.k q hq,M.v q hq⟩) (by rw[H.len];exact sL _) H.all U (λt ht=>ha t (by unfold aGJ;exact aJw _ ht)) (λt ht=>hb t (by unfold xG;rw[if_neg hne,if_neg hne];exact aJw _ ht)) e2
theorem aLe:∀{l:List Lf} {f:Lf},f∈l->(oM f).isSome=true->∀t∈aGJ f,t∈wO l
 | g::l,f,hf,hs,t,ht=>by
  rw[wO]
  rcases jG.1 hf with rfl|hf
  ·rw[if_pos hs];simp[ht]
  ·have:=aLe hf hs t ht
   simp[this]
theorem aKm{l:List Lf}{b:List Pr}(M:MOk b){A:List Tx}(U:aCN A)(ha:∀t∈wO l,t∈A)(hb:∀t∈xG b,t∈A)(h:nN (lO b) l=true):∀f∈l,f.n=(b.length:Int)∧0≤f.i∧f.i<f.n∧b[f.i.toNat]? =some f.p:=λf hf=>by
 unfold nN at h
 rw[aCB] at h
 have hc:=h f hf
 simp only[beq_iff_eq] at hc
 exact aPu M U (λt ht=>ha t (aLe hf (by rw[hc];rfl) t ht)) hb hc
theorem aSB{b:List Pr}(M:MOk b){s k v:Tx}{A:List Tx}(U:aCN A)(ha:∀t∈aFv s,t∈A)(hb:∀t∈xG b,t∈A)(h:aAM (lO b) s k v=true):(⟨k,v⟩:Pr)∈b:=by
 rw[aQR] at h
 simp only[zF,beq_iff_eq,Bool.not_eq_true'] at h
 obtain⟨⟨⟨h1,h2⟩,h3⟩,h4⟩:=h
 unfold aFv at ha
 match hl:(jM s).1.lv,h3 with
 | [f],h3=>
  rw[hl] at h4 ha
  have hp:f.p=⟨k,v⟩:=by simpa[aGM] using h3
  rw[if_pos ⟨h1,h2,rfl⟩] at ha
  obtain⟨-,-,-,y⟩:=aKm M U ha hb h4 f (by simp)
  rw[←hp]
  exact uJ y
 | [],h3=>simp[aGM] at h3
 | _::_::_,h3=>simp[aGM] at h3
theorem aOX{b:List Pr}(U:rG b){i j:Nat}{p q:Pr}(hi:b[i]? =some p)(hj:b[j]? =some q)(h:p.k<q.k):i<j:=by
 rcases Nat.lt_trichotomy i j with c|c|c
 ·exact c
 ·subst c
  rw[hi] at hj
  cases hj
  exact absurd h (zLY _)
 ·obtain⟨x1,x2⟩:=zLx.1 hi
  obtain⟨y1,y2⟩:=zLx.1 hj
  have:=List.pairwise_iff_getElem.1 U j i y1 x1 c
  rw[x2,y2] at this
  exact absurd h (List.lt_asymm this)
theorem aPt{b:List Pr}(M:MOk b){s k:Tx}{A:List Tx}(U:aCN A)(ha:∀t∈aHp s k,t∈A)(hb:∀t∈xG b,t∈A)(h:aAU (lO b) s k=true):∀q∈b,q.k≠k:=by
 rw[aN0] at h
 simp only[zF,beq_iff_eq,decide_eq_true_eq] at h
 obtain⟨⟨⟨⟨⟨h1,h2⟩,h3⟩,h4⟩,h5⟩,h6⟩:=h
 unfold aHp at ha
 rw[if_pos ⟨h1,h2,h3,h4⟩] at ha
 have hcl:=aKm M U (λt ht=>ha t (zLj _ ht)) hb h5
 intro q hq ek
 obtain⟨j,hj⟩:=List.mem_iff_getElem?.1 hq
 have hjl:=(zLx.1 hj).1
 have hml:=M.len
 generalize hL:(jM s).1.lv=L at *
 match L,h6 with
 | [],h6=>
  have e:lO b=lO []:=by simpa[aAQ] using h6
  rw[if_pos rfl] at ha
  have ht:aGu b.length (if b=[] then [] else mH b)=aGu 0 []:=U _ (hb _ (by unfold xG;simp)) _ (ha _ (by unfold xG;simp)) e
  obtain⟨e1,-⟩:=aO8 (by omega) (by decide) ht
  omega
 | [f],h6=>
  obtain⟨y1,y2,y3,y4⟩:=hcl f (by simp)
  simp only[aAQ,Bool.or_eq_true,zF,beq_iff_eq,decide_eq_true_eq] at h6
  rcases h6 with⟨z1,z2⟩|⟨z1,z2⟩
  ·have:=aOX M.up hj y4 (by rw[ek];exact z2)
   omega
  ·rw[gD (by omega) (by omega)] at z1
   have:=aOX M.up y4 hj (by rw[ek];exact z2)
   omega
 | f::g::r,h6=>
  obtain⟨y1,y2,y3,y4⟩:=hcl f (by simp)
  obtain⟨w1,w2,w3,w4⟩:=hcl g (by simp)
  simp only[aAQ,zF,beq_iff_eq,decide_eq_true_eq] at h6
  obtain⟨⟨⟨z1,z2⟩,z3⟩,z4⟩:=h6
  rw[gD (by omega) (by omega)] at z2
  have a1:=aOX M.up y4 hj (by rw[ek];exact z3)
  have a2:=aOX M.up hj w4 (by rw[ek];exact z4)
  omega
theorem aUR{p q:Pk}(hp:p.right=true)(hq:q.right=true){A:List Tx}(U:aCN A)(ha:∀t∈aFb p,t∈A)(hb:∀t∈aFb q,t∈A)(h:aAv p=aAv q):p.bs=q.bs:=by
 unfold aFb at ha hb
 unfold aAv aHZ at h
 rw[if_pos hp] at ha
 rw[if_pos hq] at hb
 simp only[hp,hq,if_true] at h
 have:=U _ (ha _ (by simp)) _ (hb _ (by simp)) h
 exact List.append_cancel_left this
theorem DC.mono{c b:Nat}{s:Ch}{n n':Nat}{h:PH}{F:List Nat}(H:DC c b s n h F)(hn:n≤n'):DC c b s n' h F:=by
 obtain⟨sp,cp,bv,nv,Fx,Fr,rfl,hx,⟨F1,F2,rfl,h1,⟨F3,F4,rfl,h3,⟨F5,F6,rfl,⟨rows,r1,r2,r3⟩,⟨ns,n1,n2⟩,d5⟩,d3⟩,d1⟩,dx⟩:=H
 exact⟨sp,cp,bv,nv,Fx,_,rfl,hx,⟨F1,_,rfl,h1,⟨F3,_,rfl,h3,⟨F5,F6,rfl,⟨rows,r1,by omega,r3⟩,⟨ns,n1,by omega⟩,d5⟩,d3⟩,d1⟩,dx⟩
theorem aGm{b m:Nat}{A A':List Tx}{K:List Nat}{X:mO}(g:mU X){h h':PH}{F:List Nat}(H:gF (rM b m A K) X h F)(B:Bk b m A' K h')(u:eW [b,m] h h'):gF (rM b m A' K) X h' F∧jZ h F h' F:=by
 obtain⟨Fa,Fb,rfl,⟨rfl,-⟩,HX,hd⟩:=H
 refine⟨⟨_,Fb,rfl,⟨rfl,B⟩,g.upd HX u (λx hx hm=>?_),hd⟩,⟨u.mono λx hx=>.inl ?_,λx hx=>.inl hx⟩⟩
 ·simp only[jG,mD,or_false] at hm
  rcases hm with rfl|rfl
  ·exact hd _ (by simp) hx
  ·exact hd _ (by simp) hx
 ·simp only[jG,mD,or_false] at hx
  rcases hx with rfl|rfl<;>simp
theorem aM6{h:PH}{c b:Nat}{s:Ch}{n:Nat}{F:List Nat}{sp cp:Nat}{bv nv:Value}(P:nZ c (s.dcells b sp cp bv nv) sp s.st cp s.cl bv nv n h F){k v:Tx}(h1:1≤k.length)(h2:k.length≤16)(h3:v.length≤64)(hr:¬(jI s.st.now k=none∧4096≤s.st.now.length)){kk:eJ}
  (hk:∀h' F',nZ c ((s.put k v).dcells b sp cp bv nv) sp (s.put k v).st cp (s.put k v).cl bv nv n h' F'->jZ h F h' F'->kk (.int .i64 0) h'):cR PG oG #[pT sp 0,.string (tx k),.string (tx v)] h kk:=by
 obtain⟨Fs,⟨G,S,rfl⟩,hFs,back⟩:=P.fSt
 have es:aCU s.st k v=({s.st with now:=oV s.st.now ⟨k,v⟩},0):=by
  unfold aCU
  rw[if_neg (by omega),if_neg hr]
 refine aVc S k v λh5 G5 S5 u5 g5=>?_
 rw[es] at S5 ⊢
 obtain⟨F6,P6,s6⟩:=back (rsA sp {s.st with now:=oV s.st.now ⟨k,v⟩}) h5 (sp::G5) ⟨G5,S5,rfl⟩ ⟨u5.mono λx hx=>.inl (by simp only[iQ] at hx;simp[hx]),λx hx=>by
  rcases jG.1 hx with rfl|hx
  ·exact .inl (by simp)
  ·rcases g5 x hx with hx|hx
   ·exact .inl (by simp[hx])
   ·exact .inr hx⟩
 exact hk h5 F6 P6 s6
theorem aQb{h:PH}{c b:Nat}{s:Ch}{n:Nat}{F:List Nat}{sp cp:Nat}{bv nv:Value}(P:nZ c (s.dcells b sp cp bv nv) sp s.st cp s.cl bv nv n h F){k:Tx}(hr:(jI s.st.now k).isSome=true){kk:eJ}
  (hk:∀h' F',nZ c ((s.del k).dcells b sp cp bv nv) sp (s.del k).st cp (s.del k).cl bv nv n h' F'->jZ h F h' F'->kk (.int .i64 0) h'):cR PG oR #[pT sp 0,.string (tx k)] h kk:=by
 obtain⟨Fs,⟨G,S,rfl⟩,hFs,back⟩:=P.fSt
 have es:aEp s.st k=({s.st with now:=zR s.st.now k},0):=by
  unfold aEp
  rw[if_neg (λh=>by rw[h] at hr;cases hr)]
 refine aVs S k λh5 G5 S5 u5 g5=>?_
 rw[es] at S5 ⊢
 obtain⟨F6,P6,s6⟩:=back (rsA sp {s.st with now:=zR s.st.now k}) h5 (sp::G5) ⟨G5,S5,rfl⟩ ⟨u5.mono λx hx=>.inl (by simp only[iQ] at hx;simp[hx]),λx hx=>by
  rcases jG.1 hx with rfl|hx
  ·exact .inl (by simp)
  ·rcases g5 x hx with hx|hx
   ·exact .inl (by simp[hx])
   ·exact .inr hx⟩
 exact hk h5 F6 P6 s6
theorem aUV(s:Ch)(d:Tx)(t:Nat):sJ s d t=if s.st.height=18446744073709551615 then 12 else if ¬s.seq<18446744073709551615 then 12 else if (lJ s d t).right=false then 1 else if ¬aI8 s.cl<(t:Int) then 10 else if ¬s.st.now.length+1≤4096 then 2 else 0:=by
 unfold sJ pZ
 by_cases c0:s.st.height=18446744073709551615
 ·rw[if_pos c0,if_pos c0]
 ·rw[if_neg c0,if_neg c0]
  by_cases c1:s.seq<18446744073709551615<;>cases hr:(lJ s d t).right<;>by_cases c2:aI8 s.cl<(t:Int)<;>by_cases c3:s.st.now.length+1≤4096<;>simp[zG,c1,hr,c2,c3]
theorem aT7{h:PH}{c b m:Nat}{s:Ch}{n:Nat}{A:List Tx}{K F:List Nat}(H:gF (rM b m A K) (DC c b s n) h F)(w:s.DOk)(hn:n≤10000)(d:Tx)(hd:d.length≤1000000){t:Nat}(ht:t<18446744073709551616){k:eJ}
  (hbad:sJ s d t≠0->∀h',gF (rM b m A K) (DC c b s n) h' F->jZ h F h' F->k (.tuple #[Pk.v default,.int .i64 (sJ s d t)]) h')
  (hok:sJ s d t=0->∀h' F',gF (rM b m (tW (lJ s d t)++A) K) (DC c b (s.sent (lJ s d t)) (n+1)) h' F'->jZ h F h' F'->k (.tuple #[(lJ s d t).v,.int .i64 0]) h'):
  cR PG yZ #[pT c 0,.string (tx d),.int .u64 (t:Int)] h k:=by
 apply pE.call
 unfold pE
 have gW:mU (gF (rM b m A K) (DC c b s n)):=(rM.good _ _ _ _).star (DC.good _ _ _ _)
 obtain⟨Fb,Fd,eF,⟨efb,HB⟩,Hd,hdis⟩:=id H
 obtain⟨sp,cp,bv,nv,P⟩:=id Hd
 obtain⟨hs,R⟩:=w.rk
 have hlat:=aNZ R
 have hsq:=w.seq
 intro r1 hr1
 try rw[eY]
 have u1:fE h (h.set r1 (.cells (fY PG bR) bR)):=eW.new hr1
 have X1:Bx (h.set r1 (.cells (fY PG bR) bR)) r1 (Pk.cells default):=bR.zbox
 generalize h.set r1 (.cells (fY PG bR) bR)=h1 at *
 have P1:=nZ.good.ext P u1
 simp only[eV.f1,eV.f4,iG,dl1 P1.cell,dl4 P1.cell,aUo,eK,reduceIte,eX,Nat.reduceAdd]
 have ep:(Pk.v ⟨s.id,(s.seq:Int),(t:Int),tx d⟩)=(lJ s d t).v:=rfl
 rw[ep]
 obtain⟨p,hp⟩:∃p,p=lJ s d t:=⟨_,rfl⟩
 have pwf:p.wf:=by rw[hp];exact⟨by show(0:Int)≤(s.seq:Int);omega,by show(s.seq:Int)<_;omega,by show(0:Int)≤(t:Int);omega,by show(t:Int)<_;omega⟩
 intro r10 hr10
 try rw[eY]
 have n110:r1≠r10:=X1.apart hr10
 rw[←hp]
 refine bR.fill (vs:=p.cells) hr10 rfl (Pk.isC _) λh2 X2 u2=>?_
 have e2:=u1.trans u2
 have P2:=nZ.good.ext P e2
 have Y2:=X1.ext u2
 have W2:=gW.ext H e2
 have nr1:r1∉F:=λhm=>gW.known H _ hm hr1
 have lp:∀{h':PH},fE h2 h'->bT PG h' (loadAt bR (pT r10 0))=some p.v:=λu=>(X2.ext u).pk rfl
 obtain⟨Fs2,⟨G2,S2,-⟩,-,-⟩:=P2.fSt
 -- what is refused
 have no:∀{h3:PH} (e:Int),fE h2 h3->sJ s d t=e->e≠0->aR (aT PG (build bR #[])) λv40=>eZ PG (fQ bR (pT r1 0) v40) h3 λv41 h42=>aR (bT PG h42 (loadAt bR (pT r1 0))) λv43=>k (Value.tuple #[v43,(Value.int IntKind.i64 e)]) h42:=fun {h3} e u3 he hne=>by
  simp only[Pk.zb,eK,reduceIte,eX,Nat.reduceAdd]
  refine bR.put (Y2.ext u3) (o:=0) (vs:=Pk.cells default) rfl (by show 0+4≤4;decide) (Pk.isC _) λh4 Y4 u4=>?_
  have Y4:Bx h4 r1 (Pk.cells default):=Y4
  have l4:bT PG h4 (loadAt bR (pT r1 0))=some (Pk.v default):=Y4.pk rfl
  simp only[l4,eK,reduceIte,eX,Nat.reduceAdd]
  have:=hbad (by rw[he];exact hne) h4 (gW.upd (gW.ext W2 u3) u4 (λx hx=>by simp only[iQ];rintro rfl;exact nr1 hx)) ⟨((e2.trans u3).upd (F:=F)).then u4 (λx hx=>by simp only[iQ] at hx;subst hx;exact .inr hr1),λx hx=>.inl hx⟩
  rw[he] at this
  exact this
 have hse:=aUV s d t
 simp only[eV.f2,iG,dl2 P2.cell,eK,reduceIte,eX,Nat.reduceAdd]
 refine aCx S2 ?_
 by_cases c0:s.st.height=18446744073709551615
 ·have q:((s.st.height:Int)==18446744073709551615)=true:=by rw[c0];rfl
  rw[if_pos c0] at hse
  simp only[jO,q,eK,reduceIte,eX,Nat.reduceAdd]
  have:=no 12 eW.refl hse (by decide)
  try simp only[eK,reduceIte,eX,Nat.reduceAdd] at this
  exact this
 have q:((s.st.height:Int)==18446744073709551615)=false:=by rw[beq_eq_false_iff_ne];omega
 rw[if_neg c0] at hse
 by_cases c1:s.seq<18446744073709551615
 case neg=>
  have q1:((s.seq:Int)==18446744073709551615)=true:=by rw[beq_iff_eq];omega
  rw[if_pos c1] at hse
  simp only[jO,q,q1,eV.f4,iG,dl4 P2.cell,eK,reduceIte,eX,Nat.reduceAdd]
  have:=no 12 eW.refl hse (by decide)
  try simp only[eK,reduceIte,eX,Nat.reduceAdd] at this
  exact this
 have q1:((s.seq:Int)==18446744073709551615)=false:=by rw[beq_eq_false_iff_ne];omega
 rw[if_neg (by simpa using c1)] at hse
 simp only[jO,q,q1,eV.f4,iG,dl4 P2.cell,lp eW.refl,eK,reduceIte,eX,Nat.reduceAdd]
 refine aHK p pwf.1 pwf.2.2.1 λh3 u3=>?_
 have P3:=nZ.good.ext P2 u3
 rw[←hp] at hse
 cases hr:p.right with
 | false=>
  rw[if_pos hr] at hse
  simp only[eK,reduceIte,eX,Nat.reduceAdd]
  have:=no 1 u3 hse (by decide)
  try simp only[eK,reduceIte,eX,Nat.reduceAdd] at this
  exact this
 | true=>
  rw[if_neg (by rw[hr];decide)] at hse
  obtain⟨Fc,KR,-,-⟩:=P3.fCl
  simp only[eV.f3,iG,dl3 P3.cell,eK,reduceIte,eX,Nat.reduceAdd]
  refine aRQ KR (by have:=w.few;omega) R (λy hy=>(w.pos y hy).1) ?_
  by_cases c2:aI8 s.cl<(t:Int)
  case neg=>
   have q2:((t:Int)≤aJx hs)=True:=eq_true (by rw[←hlat];omega)
   rw[if_pos c2] at hse
   simp only[q2,eK,reduceIte,eX,Nat.reduceAdd]
   have:=no 10 u3 hse (by decide)
   try simp only[eK,reduceIte,eX,Nat.reduceAdd] at this
   exact this
  have q2:((t:Int)≤aJx hs)=False:=eq_false (by rw[←hlat];omega)
  rw[if_neg (by simpa using c2)] at hse
  simp only[q2,eK,reduceIte,eX,Nat.reduceAdd]
  refine aPC (s:=s) (n:=n) (b:=b) ⟨sp,cp,bv,nv,P3⟩ 1 (by decide) ?_
  by_cases c3:s.st.now.length+1≤4096
  case neg=>
   have q3:=decide_eq_false c3
   rw[if_pos c3] at hse
   simp only[q3,eK,reduceIte,eX,Nat.reduceAdd]
   have:=no 2 u3 hse (by decide)
   try simp only[eK,reduceIte,eX,Nat.reduceAdd] at this
   exact this
  have q3:=decide_eq_true c3
  rw[if_neg (by simpa using c3)] at hse
  have hok:=hok hse
  rw[←hp] at hok
  have ls:∀{h':PH},fE h2 h'->bT PG h' (loadAt dT (pT r10 1))=some (.int .u64 (s.seq:Int)):=λu=>by rw[dT.load,(X2.ext u).cell,hp];rfl
  have q99:({data:=#[99]}:ByteArray)=tx [99]:=rfl
  simp only[q3,eV.f0,eV.f2,bR.f1,iG,dl0 P3.cell,dl2 P3.cell,ls u3,lp u3,q99,eK,reduceIte,eX,Nat.reduceAdd]
  refine aAF (c:=99) (n:=s.seq) (by omega) λh4 u4=>?_
  have u34:=u3.trans u4
  have P4:=nZ.good.ext P3 u4
  refine⟨lp u34,dl0 P4.cell,dl2 P4.cell,?_⟩
  refine aJq (HB.ext (e2.trans u34)) pwf λh5 B5 u5=>?_
  obtain⟨W5,s5⟩:=aGm (DC.good _ _ _ _) (gW.ext W2 u34) B5 u5
  have offd:∀x∈Fd,x∉[b,m]:=λx hx hm=>by
   subst efb
   simp only[jG,mD,or_false] at hm
   rcases hm with rfl|rfl
   ·exact hdis _ (by simp) hx
   ·exact hdis _ (by simp) hx
  have P5:=nZ.good.upd P4 u5 offd
  have n10:r10∉F:=λhm=>gW.known (gW.ext H u1) _ hm hr10
  have n10b:r10∉[b,m]:=λhm=>by
   simp only[jG,mD,or_false] at hm
   rcases hm with rfl|rfl
   ·exact HB.known _ (by simp) (u1.none hr10)
   ·exact HB.known _ (by simp) (u1.none hr10)
  have n1b:r1∉[b,m]:=λhm=>by
   simp only[jG,mD,or_false] at hm
   rcases hm with rfl|rfl
   ·exact HB.known _ (by simp) hr1
   ·exact HB.known _ (by simp) hr1
  have X5:=(X2.ext u34).upd u5 n10b
  have Y5:=(Y2.ext u34).upd u5 n1b
  refine⟨dl2 P5.cell,?_⟩
  -- the chain alone
  obtain⟨Fb5,Fd5,eF5,⟨efb5,B5'⟩,Hd5,hdis5⟩:=id W5
  have hFd5:Fd5=Fd:=by
   rw[eF,efb,efb5] at eF5
   exact(List.append_cancel_left eF5).symm
  subst hFd5
  have nX:r10∉Fd5:=λhm=>n10 (by rw[eF];simp[hm])
  have nY:r1∉Fd5:=λhm=>nr1 (by rw[eF];simp[hm])
  refine aM6 P5 (by rw[wM];decide) (by rw[wM];decide) (aKw _) (λhh=>by omega) λh6 F6 P6 s6=>?_
  obtain⟨X6,nX6⟩:=xY X5 nX s6
  obtain⟨Y6,nY6⟩:=xY Y5 nY s6
  have w1:IntKind.u64.wrap ((s.seq:Int)+1)=((s.seq+1:Nat):Int):=by rw[iZ (by omega) (by omega)];omega
  have l4:bT PG h6 (loadAt dT (pT c 4))=some (.int .u64 (s.seq:Int)):=dl4 P6.cell
  simp only[eV.f4,iG,l4,w1,eK,reduceIte,eX,Nat.reduceAdd]
  obtain⟨Fx,⟨rfl,X⟩,hFx,back⟩:=P6.fBox
  refine dT.put X (o:=4) (by show 4<7;decide) rfl λh7 X7 u7=>?_
  have X7:Bx h7 c (((s.put (jF 99 s.seq) (rB p)).next).dcells b sp cp bv nv):=X7
  obtain⟨F7,P7,s7⟩:=back (rH c (((s.put (jF 99 s.seq) (rB p)).next).dcells b sp cp bv nv)) h7 [c] ⟨rfl,X7⟩ ⟨u7,λx hx=>.inl hx⟩
  obtain⟨Z7,nZ7⟩:=xY X6 nX6 s7
  obtain⟨Y7,nY7⟩:=xY Y6 nY6 s7
  have l7:bT PG h7 (loadAt bR (pT r10 0))=some p.v:=Z7.pk rfl
  simp only[l7,eK,reduceIte,eX,Nat.reduceAdd]
  refine aJk (s:=(s.put (jF 99 s.seq) (rB p)).next) (n:=n) (b:=b) ⟨sp,cp,bv,nv,P7⟩ hn 1 p λh8 F8 P8 s8=>?_
  obtain⟨Z8,nZ8⟩:=xY Z7 nZ7 s8
  obtain⟨Y8,nY8⟩:=xY Y7 nY7 s8
  have l8:bT PG h8 (loadAt bR (pT r10 0))=some p.v:=Z8.pk rfl
  simp only[l8,eK,reduceIte,eX,Nat.reduceAdd]
  have sD:jZ h5 Fd5 h8 F8:=(s6.trans s7).trans s8
  have B8:Bk b m (tW p++A) K h8:=B5'.upd sD.upd (λx hx hm=>hdis5 x (by rw[efb5];exact hx) hm)
  have W8:gF (rM b m (tW p++A) K) (DC c b (s.sent p) (n+1)) h8 ((b::m::K)++F8):=gF.mk ⟨rfl,B8⟩ P8 (λx hx hx8=>by
   rcases sD.grow x hx8 with hh|hh
   ·exact hdis5 x (by rw[efb5];exact hx) hh
   ·exact B5'.known x hx hh)
  have sW:jZ h F h8 ((b::m::K)++F8):=((jZ.ext (F:=F) (e2.trans u34)).trans s5).trans ⟨sD.upd.mono λx hx=>.inl (by rw[eF];simp[hx]),λx hx=>by
   rcases kR.1 hx with hx|hx
   ·exact .inl (by rw[eF,efb];simp only[kR];exact .inl hx)
   ·rcases sD.grow x hx with hh|hh
    ·exact .inl (by rw[eF];simp[hh])
    ·exact .inr hh⟩
  have n8:r1∉(b::m::K)++F8:=λhm=>by
   rcases kR.1 hm with hm|hm
   ·exact HB.known _ hm hr1
   ·exact nY8 hm
  refine bR.put Y8 (o:=0) (vs:=p.cells) rfl (by show 0+4≤4;decide) (Pk.isC _) λh9 Y9 u9=>?_
  have Y9:Bx h9 r1 p.cells:=Y9
  have l9:bT PG h9 (loadAt bR (pT r1 0))=some p.v:=Y9.pk rfl
  simp only[l9,eK,reduceIte,eX,Nat.reduceAdd]
  refine hok h9 _ (((rM.good _ _ _ _).star (DC.good _ _ _ _)).upd W8 u9 (λx hx=>by simp only[iQ];rintro rfl;exact n8 hx)) ⟨sW.upd.then u9 (λx hx=>by simp only[iQ] at hx;subst hx;exact .inr hr1),λx hx=>sW.grow x hx⟩
end Go.Proofs.YtcoajnpchhmgjaaGreatDoor
namespace Go.Proofs.YtcoajnpchhmgjaaGreatDoor
open Go Bld
structure aG0(h:PH)(a b:Nat)(s:St)(K:List Nat):Prop where
 here:∃F G,tX h a s F∧vH h b s G∧(∀x∈F,x∉b::G)∧K=F++b::G
theorem aG0.upd{h h':PH}{a b:Nat}{s:St}{K J:List Nat}(H:aG0 h a b s K)(u:eW J h h')(hd:∀x∈K,x∉J):aG0 h' a b s K:=by
 obtain⟨F,G,h1,h2,h3,rfl⟩:=H.here
 exact⟨F,G,h1.upd u (λx hx=>hd x (by simp[hx])),h2.upd u (hd b (by simp)) (λg hg=>hd g (by simp[hg])),h3,rfl⟩
theorem aG0.ext{h h':PH}{a b:Nat}{s:St}{K:List Nat}(H:aG0 h a b s K)(u:fE h h'):aG0 h' a b s K:=H.upd u (by simp)
theorem aG0.known{h:PH}{a b:Nat}{s:St}{K:List Nat}(H:aG0 h a b s K):∀x∈K,h x≠none:=by
 obtain⟨F,G,h1,h2,h3,rfl⟩:=H.here
 intro x hx
 rcases kR.1 hx with hx|hx
 ·exact h1.known x hx
 ·exact h2.known x hx
theorem aG0.st{h:PH}{a b:Nat}{s:St}{K:List Nat}(H:aG0 h a b s K):∃F,tX h a s F∧∀x∈F,x∈K:=by
 obtain⟨F,G,h1,h2,h3,rfl⟩:=H.here
 exact⟨F,h1,λx hx=>by simp[hx]⟩
theorem aOn{h:PH}{b:Nat}{s:St}{G:List Nat}(H:vH h b s G)(key:Tx){k:eJ}(hk:k (.tuple #[.string (tx (((jI s.now key).map Pr.v).getD [])),.bool (jI s.now key).isSome]) h):
  cR PG tV #[pT b 0,.string (tx key)] h k:=by
 apply xE.call
 unfold xE
 obtain⟨A,M,B,c⟩:=H.ok.up.cut key
 have hg:=c.get H.ok.up
 refine aNK H c ?_
 have hok:=H.ok
 obtain⟨nv,bv,bl,h1,h2,h3,h4,h5,h6,h7,h8,h9⟩:=H.here
 rcases c.mid with e|⟨q,e,e2⟩
 ·subst e
  have:jI s.now key=none:=by
   cases hx:jI s.now key with
   | none=>rfl
   | some y=>rw[hx] at hg;simp at hg
  rw[this] at hk
  simp only[ne_eq,not_true_eq_false,eK,reduceIte]
  exact hk
 ·subst e
  have hgs:jI s.now key=some q:=(uQ hok.up).2 ⟨by rw[c.eq];simp,e2⟩
  rw[hgs] at hk
  have c0:fH h ⟨b,0,none⟩=some nv:=by simp[fH,h1]
  have hq:s.now[A.length]? =some q:=by rw[c.eq];simp
  obtain⟨bb,o,p1,-,p3,-⟩:=h2.pair hq
  simp only[ne_eq,List.cons_ne_nil,not_false_eq_true,fN.f0,eM.load,c0,p1,eQ.f1,cT.load,p3,eK,reduceIte]
  exact hk
theorem aSO{h:PH}{b:Nat}{s:St}{G:List Nat}(H:vH h b s G)(x:Nat)(hx:x<18446744073709551616){k:eJ}(hn:tY s x=none->k (.tuple #[.slice none 0 0,.int .i64 3]) h)
  (hk:∀l v,tY s x=some l->iR h 2 v (l.map Pr.cells)->aCy v G->k (.tuple #[v,.int .i64 0]) h):cR PG uR #[pT b 0,.int .u64 (x:Int)] h k:=by
 apply qH.call
 unfold qH
 have hok:=H.ok
 have hok1:=hok.h1
 have hok2:=hok.h2
 have hok3:=hok.h3
 have hok4:=hok.h4
 have hnone:=aMI hok1 (x:=x)
 have H0:=H
 obtain⟨nv,bv,bl,h1,h2,h3,h4,h5,h6,h7,h8,h9⟩:=H.here
 have c1:fH h ⟨b,0+1,none⟩=some (.int .u64 ((s.height-(s.blocks.length-1):Nat):Int)):=by simp[fH,h1]
 have c2:fH h ⟨b,0+2,none⟩=some bv:=by simp[fH,h1]
 by_cases d1:x<s.height-(s.blocks.length-1)
 ·have g1:((x:Int)<((s.height-(s.blocks.length-1):Nat):Int))=True:=eq_true (by omega)
  simp only[fN.f1,dT.load,c1,g1,aMD,aKW,eK,reduceIte]
  exact hn (hnone.2 (by omega))
 have g1:((x:Int)<((s.height-(s.blocks.length-1):Nat):Int))=False:=eq_false (by omega)
 simp only[fN.f1,dT.load,c1,g1,eK,reduceIte]
 refine aCx H0 ?_
 by_cases d2:s.height<x
 ·have g2:((s.height:Int)<(x:Int))=True:=eq_true (by omega)
  simp only[g2,eK,reduceIte]
  exact hn (hnone.2 (by omega))
 have g2:((s.height:Int)<(x:Int))=False:=eq_false (by omega)
 have hs:∃l,tY s x=some l:=by
  cases e:tY s x with
  | none=>have:=hnone.1 e;omega
  | some l=>exact⟨l,rfl⟩
 obtain⟨l,hl⟩:=hs
 obtain⟨-,hidx⟩:=aJR hl
 have hi:s.blocks.length-1-(s.height-x)=x-(s.height-(s.blocks.length-1)):=by omega
 have w1:IntKind.u64.wrap ((x:Int)-((s.height-(s.blocks.length-1):Nat):Int))=((x-(s.height-(s.blocks.length-1)):Nat):Int):=by rw[iZ (by omega) (by omega)];omega
 rw[hi] at hidx
 generalize x-(s.height-(s.blocks.length-1))=j at *
 rw[←h5,zLW] at hidx
 obtain⟨⟨v,l'⟩,hy,e⟩:=Option.map_eq_some_iff.1 hidx
 simp only at e
 subst e
 have hmem:=uJ hy
 obtain⟨pa,p1,p2⟩:=h3.loadCell (t:=hZ) (k:=.u64) (j:=(j:Int)) (x:=v) hZ.und eM.info eM.size eM.und rfl (by omega) (by rw[sM,zLW,hy];rfl)
 simp only[g2,fN.f1,fN.f2,dT.load,hZ.load,c1,c2,w1,p1,p2,eK,reduceIte]
 exact hk _ v hl (h4 _ hmem).1 (h4 _ hmem).2
theorem aSx{h:PH}{b:Nat}{s:St}{G:List Nat}(H:vH h b s G){bk m:Nat}{A:List Tx}{c:Bool}{K:List Nat}(B:vK h bk m A c K)(hd:∀x∈G,x≠bk∧x≠m)(x:Nat)(hx:x<18446744073709551616){k:eJ}(hn:tY s x=none->k (.tuple #[.string (tx []),.int .i64 3]) h)
  (hk:∀l h' c',tY s x=some l->vK h' bk m (xG l++A) c' K->(c=true->c'=true)->eW [bk,m] h h'->k (.tuple #[.string (tx (lO l)),.int .i64 0]) h'):cR PG zA #[pT b 0,pT bk 0,.int .u64 (x:Int)] h k:=by
 apply vR.call
 unfold vR
 refine aSO H x hx (λhs=>?_) (λl v hs S hv=>?_)
 ·simp only[show((3:Int) !=0)=true from rfl,eK,reduceIte]
  exact hn hs
 ·simp only[show((0:Int) !=0)=false from rfl,bne_self_eq_false,eK,reduceIte]
  have hb:=H.ok.blk l (by
   obtain⟨-,h2⟩:=aJR hs
   exact uJ h2)
  refine aPD B (by omega) S (λa n c e=>by
   have:=hd _ (hv a n c e)
   simp[this]) (λp hp=>by have:=hb.2.1 p hp;unfold aNB at this;omega) λh' c' B' hc u=>?_
  exact hk l h' c' hs B' hc u
end Go.Proofs.YtcoajnpchhmgjaaGreatDoor
namespace Go.Proofs.YtcoajnpchhmgjaaGreatDoor
open Go
theorem aEU{b m:Nat}{A:List Tx}{K:List Nat}{X:mO}{h:PH}{F:List Nat}(H:gF (rM b m A K) X h F):∃Fd,X h Fd∧Bk b m A K h∧F=(b::m::K)++Fd∧∀x∈b::m::K,x∉Fd:=by
 obtain⟨Fa,Fb,rfl,⟨rfl,B⟩,HX,hd⟩:=H
 exact⟨Fb,HX,B,rfl,hd⟩
theorem aGq{b m:Nat}{A:List Tx}{K:List Nat}{X':mO}{h h':PH}{Fd Fd':List Nat}(B:Bk b m A K h)(hd:∀x∈b::m::K,x∉Fd)(HX:X' h' Fd')(s:jZ h Fd h' Fd'):gF (rM b m A K) X' h' ((b::m::K)++Fd')∧jZ h ((b::m::K)++Fd) h' ((b::m::K)++Fd'):=by
 refine⟨gF.mk ⟨rfl,B.upd s.upd (λx hx hm=>hd x hx hm)⟩ HX (λx hx hx8=>?_),⟨s.upd.mono λx hx=>.inl (by simp[hx]),λx hx=>?_⟩⟩
 ·rcases s.grow x hx8 with hh|hh
  ·exact hd x hx hh
  ·exact B.known x hx hh
 ·rcases kR.1 hx with hx|hx
  ·exact .inl (zLj _ hx)
  ·rcases s.grow x hx with hh|hh
   ·exact .inl (zLk _ hh)
   ·exact .inr hh
theorem rM.mono{b m:Nat}{A B:List Tx}{K:List Nat}{X:mO}{h:PH}{F:List Nat}(H:gF (rM b m A K) X h F)(hs:∀a∈B,a∈A):gF (rM b m B K) X h F:=by
 obtain⟨Fa,Fb,rfl,⟨rfl,B'⟩,HX,hd⟩:=H
 exact⟨_,Fb,rfl,⟨rfl,B'.mono hs⟩,HX,hd⟩
theorem aKh{b m:Nat}{K Fd:List Nat}(hd:∀x∈b::m::K,x∉Fd):∀x∈Fd,x∉[b,m]:=λx hx hm=>by
 simp only[jG,mD,or_false] at hm
 rcases hm with rfl|rfl
 ·exact hd _ (by simp) hx
 ·exact hd _ (by simp) hx
theorem aXm{s:Ch}(w:s.DOk){p:Pk}(hr:p.right=true):(p.f==1-s.id)=!(p.f==s.id):=by
 obtain⟨h1,h2,-⟩:=Pk.right_iff.1 hr
 have:=w.id
 rw[zLl]
 simp only[beq_iff_eq,Bool.not_eq_true',beq_eq_false_iff_ne,ne_eq]
 omega
noncomputable def aIp(s:Ch)(p:Pk)(pf:Tx)(x:Int):Int:=pZ s (qJ s p pf x)
theorem aTT(s:Ch)(p:Pk)(pf:Tx)(x:Int):aIp s p pf x=if s.st.height=18446744073709551615 then 12 else if (p.right&&(p.f==1-s.id))=false then 1 else if ¬IntKind.u64.wrap ((s.st.height:Int)+1)<p.t then 10 else if (jI s.st.now (jF 114 p.s.toNat)).isSome=true then 4 else if (lZ s.cl x).isSome=false then 11 else if aAM (qB s.cl x) pf (jF 99 p.s.toNat) (rB p)=false then 9 else if ¬s.st.now.length+2≤4096 then 2 else 0:=by
 unfold aIp pZ qJ
 by_cases c0:s.st.height=18446744073709551615
 ·rw[if_pos c0,if_pos c0]
 ·rw[if_neg c0,if_neg c0]
  generalize (p.right&&(p.f==1-s.id))=b1
  generalize aAM (qB s.cl x) pf (jF 99 p.s.toNat) (rB p)=b2
  generalize (lZ s.cl x).isSome=b3
  generalize (jI s.st.now (jF 114 p.s.toNat)).isSome=b4
  by_cases c2:IntKind.u64.wrap ((s.st.height:Int)+1)<p.t<;>by_cases c3:s.st.now.length+2≤4096<;>cases b1<;>cases b2<;>cases b3<;>cases b4<;>simp[zG,c2,c3]
theorem aMH(l:List jN)(x:Int):(lZ l x).getD ⟨#[]⟩=tx (qB l x):=by
 unfold qB
 exact(aH1 _).symm
theorem aTI{h:PH}{c b m:Nat}{s:Ch}{n:Nat}{A:List Tx}{K F:List Nat}(H:gF (rM b m A K) (DC c b s n) h F)(w:s.DOk)(hn:n≤10000){p:Pk}(pw:p.wf){pf:Tx}(hpf:pf.length≤1000000){x:Nat}(hx:x<18446744073709551616){k:eJ}
  (hbad:aIp s p pf (x:Int)≠0->∀h',gF (rM b m A K) (DC c b s n) h' F->jZ h F h' F->k (.int .i64 (aIp s p pf (x:Int))) h')
  (hok:aIp s p pf (x:Int)=0->∀h' F',gF (rM b m ((aFb p++(aFv pf++tW p))++A) K) (DC c b (s.received p) (n+1)) h' F'->jZ h F h' F'->k (.int .i64 0) h'):
  cR PG yY #[pT c 0,p.v,.string (tx pf),.int .u64 (x:Int)] h k:=by
 apply pC.call
 unfold pC
 have gX:∀s n,mU (DC c b s n):=λ_ _=>DC.good _ _ _ _
 have gW:mU (gF (rM b m A K) (DC c b s n)):=(rM.good _ _ _ _).star (gX _ _)
 obtain⟨Fd,Hd,HB,eF,hdis⟩:=aEU H
 subst eF
 obtain⟨sp,cp,bv,nv,P⟩:=id Hd
 have offd:=aKh hdis
 obtain⟨q,hq⟩:=zLm pw.1
 have hq2:q<18446744073709551616:=by have:=pw.2.1;omega
 have hqn:p.s.toNat=q:=by omega
 intro r1 hr1
 try rw[eY]
 have u1:fE h (h.set r1 (.cells (Value.cells p.v) bR)):=eW.new hr1
 have X1:Bx (h.set r1 (.cells (Value.cells p.v) bR)) r1 p.cells:=Bx.new
 generalize h.set r1 (.cells (Value.cells p.v) bR)=h1 at *
 have P1:=nZ.good.ext P u1
 have lp:∀{h':PH},fE h1 h'->bT PG h' (loadAt bR (pT r1 0))=some p.v:=λu=>(X1.ext u).pk rfl
 have lf:∀{h':PH},fE h1 h'->bT PG h' (loadAt dR (pT r1 0))=some (.int .i64 p.f):=λu=>by rw[dR.load,(X1.ext u).cell];rfl
 have ls:∀{h':PH},Bx h' r1 p.cells->bT PG h' (loadAt dT (pT r1 1))=some (.int .u64 (q:Int)):=λX=>by rw[dT.load,X.cell,←hq];rfl
 have lt:∀{h':PH},fE h1 h'->bT PG h' (loadAt dT (pT r1 2))=some (.int .u64 p.t):=λu=>by rw[dT.load,(X1.ext u).cell];rfl
 have no:∀{h3:PH} (e:Int),fE h1 h3->aIp s p pf (x:Int)=e->e≠0->k (.int .i64 e) h3:=fun {h3} e u3 he hne=>by
  have:=hbad (by rw[he];exact hne) h3 (gW.ext H (u1.trans u3)) (jZ.ext (u1.trans u3))
  rw[he] at this
  exact this
 have hse:=aTT s p pf (x:Int)
 obtain⟨Fs1,⟨G1,S1,-⟩,-,-⟩:=P1.fSt
 simp only[eV.f2,iG,dl2 P1.cell,eK,reduceIte,eX,Nat.reduceAdd]
 refine aCx S1 ?_
 by_cases c0:s.st.height=18446744073709551615
 ·have q0:((s.st.height:Int)==18446744073709551615)=true:=by rw[c0];rfl
  rw[if_pos c0] at hse
  simp only[jO,q0,eK,reduceIte,eX,Nat.reduceAdd]
  exact no 12 eW.refl hse (by decide)
 have q0:((s.st.height:Int)==18446744073709551615)=false:=by rw[beq_eq_false_iff_ne];omega
 rw[if_neg c0] at hse
 simp only[jO,q0,lp eW.refl,eK,reduceIte,eX,Nat.reduceAdd]
 refine aHK p pw.1 pw.2.2.1 λh2 u2=>?_
 have P2:=nZ.good.ext P1 u2
 cases hr:p.right with
 | false=>
  rw[hr,wU,if_pos rfl] at hse
  simp only[eK,reduceIte,eX,Nat.reduceAdd]
  exact no 1 u2 hse (by decide)
 | true=>
  rw[hr,zLo,aXm w hr] at hse
  cases hf:p.f==s.id with
  | true=>
   rw[hf,Bool.not_true,if_pos rfl] at hse
   simp only[bR.f0,eV.f1,iG,lf u2,dl1 P2.cell,jO,hf,eK,reduceIte,eX,Nat.reduceAdd]
   exact no 1 u2 hse (by decide)
  | false=>
   rw[hf,Bool.not_false,if_neg (by decide)] at hse
   obtain⟨Fs2,⟨G2,S2,-⟩,-,-⟩:=P2.fSt
   simp only[bR.f0,bR.f2,eV.f1,eV.f2,iG,lf u2,lt u2,dl1 P2.cell,dl2 P2.cell,jO,hf,eK,reduceIte,eX,Nat.reduceAdd]
   refine aCx S2 ?_
   refine⟨lt u2,?_⟩
   by_cases c2:IntKind.u64.wrap ((s.st.height:Int)+1)<p.t
   case neg=>
    have g:(p.t≤IntKind.u64.wrap ((s.st.height:Int)+1))=True:=eq_true (by omega)
    rw[if_pos c2] at hse
    simp only[g,eK,reduceIte,eX,Nat.reduceAdd]
    exact no 10 u2 hse (by decide)
   have g:(p.t≤IntKind.u64.wrap ((s.st.height:Int)+1))=False:=eq_false (by omega)
   rw[if_neg (by simpa using c2)] at hse
   have q114:({data:=#[114]}:ByteArray)=tx [114]:=rfl
   have q99:({data:=#[99]}:ByteArray)=tx [99]:=rfl
   have q97:({data:=#[97]}:ByteArray)=tx [97]:=rfl
   simp only[g,eV.f2,bR.f1,iG,dl2 P2.cell,ls (X1.ext u2),q114,eK,reduceIte,eX,Nat.reduceAdd]
   refine aAF (c:=114) (n:=q) hq2 λh3 u3=>?_
   have u13:=u2.trans u3
   have P3:=nZ.good.ext P2 u3
   obtain⟨Fs3,⟨G3,S3,-⟩,-,-⟩:=P3.fSt
   refine⟨dl2 P3.cell,?_⟩
   refine aOn S3 _ ?_
   rw[hqn] at hse
   cases hg:(jI s.st.now (jF 114 q)).isSome with
   | true=>
    rw[hg,if_pos rfl] at hse
    simp only[eK,reduceIte,eX,Nat.reduceAdd]
    exact no 4 u13 hse (by decide)
   | false=>
    rw[hg,if_neg (by decide)] at hse
    obtain⟨Fc,KR,-,-⟩:=P3.fCl
    simp only[eV.f3,iG,dl3 P3.cell,eK,reduceIte,eX,Nat.reduceAdd]
    refine aKC KR (by have:=w.few;omega) (x:Int) ?_
    rw[aMH]
    cases hro:(lZ s.cl (x:Int)).isSome with
    | false=>
     rw[hro,if_pos rfl] at hse
     simp only[eK,reduceIte,eX,Nat.reduceAdd]
     exact no 11 u13 hse (by decide)
    | true=>
     rw[hro,if_neg (by decide)] at hse
     simp only[eV.f0,bR.f1,iG,dl0 P3.cell,ls (X1.ext u13),lp u13,q99,eK,reduceIte,eX,Nat.reduceAdd]
     refine aAF (c:=99) (n:=q) hq2 λh4 u4=>?_
     have u14:=u13.trans u4
     have P4:=nZ.good.ext P3 u4
     refine⟨lp u14,dl0 P4.cell,dl0 P4.cell,?_⟩
     refine aJq (HB.ext (u1.trans u14)) pw λh5 B5 u5=>?_
     have P5:=nZ.good.upd P4 u5 offd
     refine⟨dl0 P5.cell,?_⟩
     refine aQU B5 (by omega) λh6 B6 u6=>?_
     have P6:=nZ.good.upd P5 u6 offd
     have u46:eW [b,m] h4 h6:=u5.trans u6
     have B6':Bk b m ((aFv pf++tW p)++A) K h6:=B6.mono λa ha=>by
      simp only[kR] at ha ⊢
      rcases ha with(ha|ha)|ha
      ·exact .inl ha
      ·exact .inr (.inl ha)
      ·exact .inr (.inr ha)
     obtain⟨W6,s6⟩:=aGm (gX s n) (gW.ext H (u1.trans u14)) B6' u46
     have sh6:=(jZ.ext (F:=(b::m::K)++Fd) (u1.trans u14)).trans s6
     have n1b:r1∉[b,m]:=(gQ.one hr1).off (HB.known b (by simp)) (HB.known m (by simp)) r1 (by simp)
     have X6:=(X1.ext u14).upd u46 n1b
     have nX:r1∉Fd:=λhm=>(gX s n).known Hd _ hm hr1
     have no2:∀(e:Int),aIp s p pf (x:Int)=e->e≠0->k (.int .i64 e) h6:=λe he hne=>by
      have:=hbad (by rw[he];exact hne) h6 (rM.mono W6 λa ha=>by simp[ha]) sh6
      rw[he] at this
      exact this
     cases hh:aAM (qB s.cl (x:Int)) pf (jF 99 q) (rB p) with
     | false=>
      rw[hh,if_pos rfl] at hse
      simp only[eK,reduceIte,eX,Nat.reduceAdd]
      exact no2 9 hse (by decide)
     | true=>
      rw[hh,if_neg (by decide)] at hse
      simp only[eK,reduceIte,eX,Nat.reduceAdd]
      refine aPC (s:=s) (n:=n) (b:=b) ⟨sp,cp,bv,nv,P6⟩ 2 (by decide) ?_
      by_cases c3:s.st.now.length+2≤4096
      case neg=>
       have q3:=decide_eq_false c3
       rw[if_pos c3] at hse
       simp only[q3,eK,reduceIte,eX,Nat.reduceAdd]
       exact no2 2 hse (by decide)
      have q3:=decide_eq_true c3
      rw[if_neg (by simpa using c3)] at hse
      have hok:=hok hse
      simp only[q3,eV.f2,bR.f1,iG,dl2 P6.cell,ls X6,q114,eK,reduceIte,eX,Nat.reduceAdd]
      refine aAF (c:=114) (n:=q) hq2 λh7 u7=>?_
      have P7:=nZ.good.ext P6 u7
      refine⟨dl2 P7.cell,?_⟩
      have t1:({data:=#[1]}:ByteArray)=tx [1]:=rfl
      rw[t1]
      refine aM6 P7 (by rw[wM];decide) (by rw[wM];decide) (by decide) (λhh=>by omega) λh8 F8 P8 s8=>?_
      obtain⟨X8,nX8⟩:=xY (X6.ext u7) nX s8
      have l8:bT PG h8 (loadAt bR (pT r1 0))=some p.v:=X8.pk rfl
      -- the book's turn
      obtain⟨W8,sW8⟩:=aGq (X':=DC c b (s.put (jF 114 q) [1]) n) (B6'.ext u7) hdis ⟨sp,cp,bv,nv,P8⟩ s8
      obtain⟨F8',Hd8,B8,eF8,hdis8⟩:=aEU W8
      have eF8':F8'=F8:=(List.append_cancel_left eF8).symm
      subst eF8'
      have hfit:(oV s.st.now ⟨jF 114 q,[1]⟩).length≤s.st.now.length+1:=by
       unfold oV
       rw[lH,wT]
       have hpar:∀L:List Pr,(L.filter λq'=>decide (q'.k<jF 114 q)).length+(L.filter λq'=>decide (jF 114 q<q'.k)).length≤L.length:=λL=>by
        induction L with
        | nil=>simp
        | cons y L ih=>
         simp only[List.filter_cons]
         by_cases c1:y.k<jF 114 q
         ·have c2:¬jF 114 q<y.k:=List.lt_asymm c1
          simp only[c1,c2,decide_true,decide_false,if_true,zLr,if_false,wT];omega
         ·by_cases c2:jF 114 q<y.k
          ·simp only[c1,c2,decide_true,decide_false,if_true,zLr,if_false,wT];omega
          ·simp only[c1,c2,decide_false,zLr,if_false,wT];omega
       have:=hpar s.st.now
       show(s.st.now.filter λq'=>decide (q'.k<jF 114 q)).length+((s.st.now.filter λq'=>decide (jF 114 q<q'.k)).length+1)≤_
       omega
      simp only[eV.f0,eV.f2,bR.f1,iG,dl2 P8.cell,dl0 P8.cell,ls X8,l8,q97,eK,reduceIte,eX,Nat.reduceAdd]
      refine aAF (c:=97) (n:=q) hq2 λh9 u9=>?_
      have P9:=nZ.good.ext P8 u9
      have X9:=X8.ext u9
      have l9:bT PG h9 (loadAt bR (pT r1 0))=some p.v:=X9.pk rfl
      refine⟨l9,dl0 P9.cell,dl2 P9.cell,?_⟩
      refine aMK (B8.ext u9) pw λh10 B10 u10=>?_
      have P10:=nZ.good.upd P9 u10 (aKh hdis8)
      obtain⟨W10,s10⟩:=aGm (gX _ n) (((rM.good _ _ _ _).star (gX _ n)).ext W8 u9) B10 u10
      have X10:=X9.upd u10 n1b
      refine⟨dl2 P10.cell,?_⟩
      refine aM6 (s:=s.put (jF 114 q) [1]) P10 (by rw[wM];decide) (by rw[wM];decide) (aO3 _) (λhh=>?_) λh11 F11 P11 s11=>?_
      ·have h2:4096≤(oV s.st.now ⟨jF 114 q,[1]⟩).length:=hh.2
       omega
      obtain⟨X11,nX11⟩:=xY X10 nX8 s11
      have l11:bT PG h11 (loadAt bR (pT r1 0))=some p.v:=X11.pk rfl
      simp only[l11,eK,reduceIte,eX,Nat.reduceAdd]
      refine aJk (s:=(s.put (jF 114 q) [1]).put (jF 97 q) (aAv p)) (n:=n) (b:=b) ⟨sp,cp,bv,nv,P11⟩ hn 2 p λh12 F12 P12 s12=>?_
      have hdis10:=hdis8
      obtain⟨W12,sW12⟩:=aGq (X':=DC c b (s.received p) (n+1)) B10 hdis10 (by
       unfold Ch.received
       rw[hqn]
       exact P12) (s11.trans s12)
      refine hok h12 _ (rM.mono W12 λa ha=>?_) ?_
      ·simp only[kR] at ha ⊢
       rcases ha with(ha|ha|ha)|ha
       ·exact .inl ha
       ·exact .inr (.inl (.inl ha))
       ·exact .inr (.inl (.inr ha))
       ·exact .inr (.inr ha)
      ·exact(((sh6.trans (jZ.ext u7)).trans sW8).trans (jZ.ext u9)).trans (s10.trans sW12)
noncomputable def aDD(s:Ch)(p:Pk):Int:=pZ s [(1,p.right&&(p.f==s.id)),(3,wX s p)]
theorem aPR(s:Ch)(p:Pk):aDD s p=if s.st.height=18446744073709551615 then 12 else if (p.right&&(p.f==s.id))=false then 1 else if wX s p=false then 3 else 0:=by
 unfold aDD pZ
 by_cases c0:s.st.height=18446744073709551615
 ·rw[if_pos c0,if_pos c0]
 ·rw[if_neg c0,if_neg c0]
  generalize (p.right&&(p.f==s.id))=b1
  generalize wX s p=b2
  cases b1<;>cases b2<;>simp[zG]
theorem aMS(s:Ch)(p:Pk)(l:List (Int×Bool)):kJ s p l=if aDD s p=0 then zG l else aDD s p:=by
 unfold kJ aDD pZ
 by_cases c0:s.st.height=18446744073709551615
 ·rw[if_pos c0,if_pos c0];rfl
 ·rw[if_neg c0,if_neg c0]
  generalize (p.right&&(p.f==s.id))=b1
  generalize wX s p=b2
  cases b1<;>cases b2<;>simp[zG]
theorem aOv{h:PH}{c b m:Nat}{s:Ch}{n:Nat}{A:List Tx}{K F:List Nat}{sp cp:Nat}{bv nv:Value}(HB:Bk b m A K h)(P:nZ c (s.dcells b sp cp bv nv) sp s.st cp s.cl bv nv n h F){p:Pk}(pw:p.wf){k:eJ}
  (hk:∀h',Bk b m ((if aDD s p=0 then tW p else [])++A) K h'->eW [b,m] h h'->k (.int .i64 (aDD s p)) h'):
  cR PG sB #[pT c 0,p.v] h k:=by
 apply pF.call
 unfold pF
 obtain⟨q,hq⟩:=zLm pw.1
 have hq2:q<18446744073709551616:=by have:=pw.2.1;omega
 have hqn:p.s.toNat=q:=by omega
 intro r1 hr1
 try rw[eY]
 have u1:fE h (h.set r1 (.cells (Value.cells p.v) bR)):=eW.new hr1
 have X1:Bx (h.set r1 (.cells (Value.cells p.v) bR)) r1 p.cells:=Bx.new
 generalize h.set r1 (.cells (Value.cells p.v) bR)=h1 at *
 have P1:=nZ.good.ext P u1
 have lp:∀{h':PH},fE h1 h'->bT PG h' (loadAt bR (pT r1 0))=some p.v:=λu=>(X1.ext u).pk rfl
 have lf:∀{h':PH},fE h1 h'->bT PG h' (loadAt dR (pT r1 0))=some (.int .i64 p.f):=λu=>by rw[dR.load,(X1.ext u).cell];rfl
 have ls:∀{h':PH},fE h1 h'->bT PG h' (loadAt dT (pT r1 1))=some (.int .u64 (q:Int)):=λu=>by rw[dT.load,(X1.ext u).cell,←hq];rfl
 have hse:=aPR s p
 have no:∀{h3:PH} (e:Int),fE h1 h3->aDD s p=e->e≠0->k (.int .i64 e) h3:=fun {h3} e u3 he hne=>by
  have:=hk h3 (by rw[if_neg (by rw[he];exact hne)];exact HB.ext (u1.trans u3)) (u1.trans u3).upd
  rw[he] at this
  exact this
 obtain⟨Fs1,⟨G1,S1,-⟩,-,-⟩:=P1.fSt
 simp only[eV.f2,iG,dl2 P1.cell,eK,reduceIte,eX,Nat.reduceAdd]
 refine aCx S1 ?_
 by_cases c0:s.st.height=18446744073709551615
 ·have q0:((s.st.height:Int)==18446744073709551615)=true:=by rw[c0];rfl
  rw[if_pos c0] at hse
  simp only[jO,q0,eK,reduceIte,eX,Nat.reduceAdd]
  exact no 12 eW.refl hse (by decide)
 have q0:((s.st.height:Int)==18446744073709551615)=false:=by rw[beq_eq_false_iff_ne];omega
 rw[if_neg c0] at hse
 simp only[jO,q0,lp eW.refl,eK,reduceIte,eX,Nat.reduceAdd]
 refine aHK p pw.1 pw.2.2.1 λh2 u2=>?_
 have P2:=nZ.good.ext P1 u2
 cases hr:p.right with
 | false=>
  rw[hr,wU,if_pos rfl] at hse
  simp only[eK,reduceIte,eX,Nat.reduceAdd]
  exact no 1 u2 hse (by decide)
 | true=>
  rw[hr,zLo] at hse
  cases hf:p.f==s.id with
  | false=>
   rw[hf,if_pos rfl] at hse
   have hf':(p.f !=s.id)=true:=by rw[bne,hf];rfl
   simp only[bR.f0,eV.f1,iG,lf u2,dl1 P2.cell,lR,hf',eK,reduceIte,eX,Nat.reduceAdd]
   exact no 1 u2 hse (by decide)
  | true=>
   rw[hf,if_neg (by decide)] at hse
   have hf':(p.f !=s.id)=false:=by rw[bne,hf];rfl
   have q99:({data:=#[99]}:ByteArray)=tx [99]:=rfl
   simp only[bR.f0,bR.f1,eV.f1,eV.f2,iG,lf u2,ls u2,dl1 P2.cell,dl2 P2.cell,lR,hf',q99,eK,reduceIte,eX,Nat.reduceAdd]
   refine aAF (c:=99) (n:=q) hq2 λh3 u3=>?_
   have u13:=u2.trans u3
   have P3:=nZ.good.ext P2 u3
   obtain⟨Fs3,⟨G3,S3,-⟩,-,-⟩:=P3.fSt
   refine⟨dl2 P3.cell,?_⟩
   refine aOn S3 _ ?_
   have hsp:wX s p=match jI s.st.now (jF 99 q) with|some y=>decide (y.v=rB p)|none=>false:=by unfold wX;rw[hqn];rfl
   cases hg:jI s.st.now (jF 99 q) with
   | none=>
    rw[hg] at hsp
    rw[hsp,if_pos rfl] at hse
    simp only[zLs,eK,reduceIte,eX,Nat.reduceAdd]
    exact no 3 u13 hse (by decide)
   | some y=>
    rw[hg] at hsp
    simp only[Option.isSome_some,aJA,aI5,eV.f0,iG,dl0 P3.cell,lp u13,eK,reduceIte,eX,Nat.reduceAdd]
    refine aJq (HB.ext (u1.trans u13)) pw λh4 B4 u4=>?_
    have hu:eW [b,m] h h4:=(u1.trans u13).upd.trans u4
    by_cases he:y.v=rB p
    ·have hsp':wX s p=true:=by rw[hsp];exact decide_eq_true he
     rw[hsp',if_neg (by decide)] at hse
     have d1:(!decide (y.v=rB p))=false:=by rw[decide_eq_true he];rfl
     simp only[aEw,d1,eK,reduceIte,eX,Nat.reduceAdd]
     have:=hk h4 (by rw[if_pos hse];exact B4) hu
     rw[hse] at this
     exact this
    ·have hsp':wX s p=false:=by rw[hsp];exact decide_eq_false he
     rw[hsp',if_pos rfl] at hse
     have d1:(!decide (y.v=rB p))=true:=by rw[decide_eq_false he];rfl
     simp only[aEw,d1,eK,reduceIte,eX,Nat.reduceAdd]
     have:=hk h4 (by rw[if_neg (by rw[hse];decide)];exact B4.mono λa ha=>zLk _ ha) hu
     rw[hse] at this
     exact this
theorem aXq(s:Ch)(p:Pk)(pf:Tx)(x:Int):zG (xU s p pf x)=if (lZ s.cl x).isSome=false then 11 else if aAM (qB s.cl x) pf (jF 97 p.s.toNat) (aAv p)=false then 9 else 0:=by
 unfold xU
 generalize (lZ s.cl x).isSome=b1
 generalize aAM (qB s.cl x) pf (jF 97 p.s.toNat) (aAv p)=b2
 cases b1<;>cases b2<;>simp[zG]
theorem aXk(s:Ch)(p:Pk)(pf:Tx)(x:Int):zG (qZ s p pf x)=if (lZ s.cl x).isSome=false then 11 else if ¬IntKind.u64.wrap (p.t-1)≤x then 11 else if aAU (qB s.cl x) pf (jF 114 p.s.toNat)=false then 9 else 0:=by
 unfold qZ
 generalize (lZ s.cl x).isSome=b1
 generalize aAU (qB s.cl x) pf (jF 114 p.s.toNat)=b2
 by_cases c:IntKind.u64.wrap (p.t-1)≤x<;>cases b1<;>cases b2<;>simp[zG,c]
theorem aNp{s:Ch}{p:Pk}(h:wX s p=true):(jI s.st.now (jF 99 p.s.toNat)).isSome=true:=by
 unfold wX at h
 cases hg:jI s.st.now (jF 99 p.s.toNat) with
 | none=>rw[hg] at h;cases h
 | some y=>rfl
theorem aNc{s:Ch}{p:Pk}(h:aDD s p=0):wX s p=true∧p.right=true∧p.f=s.id:=by
 rw[aPR] at h
 split at h
 ·simp at h
 ·split at h
  ·simp at h
  ·rename_i h1
   split at h
   ·simp at h
   ·rename_i h2
    simp only[Bool.not_eq_false,zF,beq_iff_eq] at h1 h2
    exact⟨h2,h1⟩
theorem aU1{h:PH}{c b m:Nat}{s:Ch}{n:Nat}{A:List Tx}{K F:List Nat}(H:gF (rM b m A K) (DC c b s n) h F)(w:s.DOk)(hn:n≤10000){p:Pk}(pw:p.wf){pf:Tx}(hpf:pf.length≤1000000){x:Nat}(hx:x<18446744073709551616){k:eJ}
  (hbad:kJ s p (xU s p pf (x:Int))≠0->∀h',gF (rM b m A K) (DC c b s n) h' F->jZ h F h' F->k (.int .i64 (kJ s p (xU s p pf (x:Int)))) h')
  (hok:kJ s p (xU s p pf (x:Int))=0->∀h' F',gF (rM b m ((aFv pf++(aFb p++tW p))++A) K) (DC c b (s.settled 3 p) (n+1)) h' F'->jZ h F h' F'->k (.int .i64 0) h'):
  cR PG zK #[pT c 0,p.v,.string (tx pf),.int .u64 (x:Int)] h k:=by
 apply pS.call
 unfold pS
 have gX:∀s n,mU (DC c b s n):=λ_ _=>DC.good _ _ _ _
 have gW:mU (gF (rM b m A K) (DC c b s n)):=(rM.good _ _ _ _).star (gX _ _)
 obtain⟨Fd,Hd,HB,eF,hdis⟩:=aEU H
 subst eF
 obtain⟨sp,cp,bv,nv,P⟩:=id Hd
 have offd:=aKh hdis
 obtain⟨q,hq⟩:=zLm pw.1
 have hq2:q<18446744073709551616:=by have:=pw.2.1;omega
 have hqn:p.s.toNat=q:=by omega
 intro r1 hr1
 try rw[eY]
 have u1:fE h (h.set r1 (.cells (Value.cells p.v) bR)):=eW.new hr1
 have X1:Bx (h.set r1 (.cells (Value.cells p.v) bR)) r1 p.cells:=Bx.new
 generalize h.set r1 (.cells (Value.cells p.v) bR)=h1 at *
 have P1:=nZ.good.ext P u1
 have n1b:r1∉[b,m]:=(gQ.one hr1).off (HB.known b (by simp)) (HB.known m (by simp)) r1 (by simp)
 have nX:r1∉Fd:=λhm=>(gX s n).known Hd _ hm hr1
 have lp:∀{h':PH},Bx h' r1 p.cells->bT PG h' (loadAt bR (pT r1 0))=some p.v:=λX=>X.pk rfl
 have ls:∀{h':PH},Bx h' r1 p.cells->bT PG h' (loadAt dT (pT r1 1))=some (.int .u64 (q:Int)):=λX=>by rw[dT.load,X.cell,←hq];rfl
 have hse:=aMS s p (xU s p pf (x:Int))
 have stepOf:∀{h3:PH} {A':List Tx},Bk b m A' K h3->eW [b,m] h1 h3->(∀a∈A,a∈A')->gF (rM b m A K) (DC c b s n) h3 ((b::m::K)++Fd)∧jZ h ((b::m::K)++Fd) h3 ((b::m::K)++Fd):=fun {h3 A'} B3 u3 hs=>by
  obtain⟨W3,s3⟩:=aGm (gX s n) (gW.ext H u1) B3 u3
  exact⟨rM.mono W3 hs,(jZ.ext u1).trans s3⟩
 have no:∀{h3:PH} {A':List Tx} (e:Int),Bk b m A' K h3->eW [b,m] h1 h3->(∀a∈A,a∈A')->kJ s p (xU s p pf (x:Int))=e->e≠0->k (.int .i64 e) h3:=fun {h3 A'} e B3 u3 hs he hne=>by
  obtain⟨W3,s3⟩:=stepOf B3 u3 hs
  have:=hbad (by rw[he];exact hne) h3 W3 s3
  rw[he] at this
  exact this
 simp only[lp X1,eK,reduceIte,eX,Nat.reduceAdd]
 refine aOv (s:=s) (n:=n) (HB.ext u1) P1 pw λh2 B2 u2=>?_
 have P2:=nZ.good.upd P1 u2 offd
 have X2:=X1.upd u2 n1b
 by_cases hm:aDD s p=0
 case neg=>
  have q0:(aDD s p !=0)=true:=by rw[bne_iff_ne];exact hm
  rw[if_neg hm] at hse
  simp only[lR,q0,eK,reduceIte,eX,Nat.reduceAdd]
  exact no _ B2 u2 (λa ha=>zLk _ ha) hse hm
 have q0:(aDD s p !=0)=false:=by rw[hm];rfl
 rw[if_pos hm] at B2 hse
 rw[aXq,hqn] at hse
 obtain⟨Fc,KR,-,-⟩:=P2.fCl
 simp only[lR,q0,eV.f3,iG,dl3 P2.cell,eK,reduceIte,eX,Nat.reduceAdd]
 refine aKC KR (by have:=w.few;omega) (x:Int) ?_
 rw[aMH]
 cases hro:(lZ s.cl (x:Int)).isSome with
 | false=>
  rw[hro,if_pos rfl] at hse
  simp only[eK,reduceIte,eX,Nat.reduceAdd]
  exact no 11 B2 u2 (λa ha=>zLk _ ha) hse (by decide)
 | true=>
  rw[hro,if_neg (by decide)] at hse
  have q97:({data:=#[97]}:ByteArray)=tx [97]:=rfl
  have q99:({data:=#[99]}:ByteArray)=tx [99]:=rfl
  simp only[eV.f0,bR.f1,iG,dl0 P2.cell,ls X2,lp X2,q97,eK,reduceIte,eX,Nat.reduceAdd]
  refine aAF (c:=97) (n:=q) hq2 λh4 u4=>?_
  have P4:=nZ.good.ext P2 u4
  have X4:=X2.ext u4
  refine⟨lp X4,dl0 P4.cell,dl0 P4.cell,?_⟩
  refine aMK (B2.ext u4) pw λh5 B5 u5=>?_
  have P5:=nZ.good.upd P4 u5 offd
  refine⟨dl0 P5.cell,?_⟩
  refine aQU B5 (by omega) λh6 B6 u6=>?_
  have P6:=nZ.good.upd P5 u6 offd
  have u16:eW [b,m] h1 h6:=((u2.trans u4.upd).trans u5).trans u6
  have X6:Bx h6 r1 p.cells:=X1.upd u16 n1b
  have hsub:∀a∈A,a∈aFv pf++(aFb p++(tW p++A)):=λa ha=>by simp[ha]
  cases hh:aAM (qB s.cl (x:Int)) pf (jF 97 q) (aAv p) with
  | false=>
   rw[hh,if_pos rfl] at hse
   simp only[eK,reduceIte,eX,Nat.reduceAdd]
   exact no 9 B6 u16 hsub hse (by decide)
  | true=>
   rw[hh,if_neg (by decide)] at hse
   have hok:=hok hse
   obtain⟨-,sh6⟩:=stepOf B6 u16 hsub
   simp only[eV.f2,bR.f1,iG,dl2 P6.cell,ls X6,q99,eK,reduceIte,eX,Nat.reduceAdd]
   refine aAF (c:=99) (n:=q) hq2 λh7 u7=>?_
   have P7:=nZ.good.ext P6 u7
   refine⟨dl2 P7.cell,?_⟩
   refine aQb P7 (by have:=aNp (aNc hm).1;rw[hqn] at this;exact this) λh8 F8 P8 s8=>?_
   obtain⟨X8,nX8⟩:=xY (X6.ext u7) nX s8
   simp only[lp X8,eK,reduceIte,eX,Nat.reduceAdd]
   refine aJk (s:=s.del (jF 99 q)) (n:=n) (b:=b) ⟨sp,cp,bv,nv,P8⟩ hn 3 p λh9 F9 P9 s9=>?_
   obtain⟨W9,sW9⟩:=aGq (X':=DC c b (s.settled 3 p) (n+1)) (B6.ext u7) hdis (by
    unfold Ch.settled
    rw[hqn]
    exact P9) (s8.trans s9)
   refine hok h9 _ (rM.mono W9 λa ha=>?_) ((sh6.trans (jZ.ext u7)).trans sW9)
   simp only[kR] at ha ⊢
   rcases ha with(ha|ha|ha)|ha
   ·exact .inl ha
   ·exact .inr (.inl ha)
   ·exact .inr (.inr (.inl ha))
   ·exact .inr (.inr (.inr ha))
theorem aP1{h:PH}{c b m:Nat}{s:Ch}{n:Nat}{A:List Tx}{K F:List Nat}(H:gF (rM b m A K) (DC c b s n) h F)(w:s.DOk)(hn:n≤10000){p:Pk}(pw:p.wf){pf:Tx}(hpf:pf.length≤1000000){x:Nat}(hx:x<18446744073709551616){k:eJ}
  (hbad:kJ s p (qZ s p pf (x:Int))≠0->∀h',gF (rM b m A K) (DC c b s n) h' F->jZ h F h' F->k (.int .i64 (kJ s p (qZ s p pf (x:Int)))) h')
  (hok:kJ s p (qZ s p pf (x:Int))=0->∀h' F',gF (rM b m ((aHp pf (jF 114 p.s.toNat)++tW p)++A) K) (DC c b (s.settled 4 p) (n+1)) h' F'->jZ h F h' F'->k (.int .i64 0) h'):
  cR PG vJ #[pT c 0,p.v,.string (tx pf),.int .u64 (x:Int)] h k:=by
 apply nV.call
 unfold nV
 have gX:∀s n,mU (DC c b s n):=λ_ _=>DC.good _ _ _ _
 have gW:mU (gF (rM b m A K) (DC c b s n)):=(rM.good _ _ _ _).star (gX _ _)
 obtain⟨Fd,Hd,HB,eF,hdis⟩:=aEU H
 subst eF
 obtain⟨sp,cp,bv,nv,P⟩:=id Hd
 have offd:=aKh hdis
 obtain⟨q,hq⟩:=zLm pw.1
 have hq2:q<18446744073709551616:=by have:=pw.2.1;omega
 have hqn:p.s.toNat=q:=by omega
 intro r1 hr1
 try rw[eY]
 have u1:fE h (h.set r1 (.cells (Value.cells p.v) bR)):=eW.new hr1
 have X1:Bx (h.set r1 (.cells (Value.cells p.v) bR)) r1 p.cells:=Bx.new
 generalize h.set r1 (.cells (Value.cells p.v) bR)=h1 at *
 have P1:=nZ.good.ext P u1
 have n1b:r1∉[b,m]:=(gQ.one hr1).off (HB.known b (by simp)) (HB.known m (by simp)) r1 (by simp)
 have nX:r1∉Fd:=λhm=>(gX s n).known Hd _ hm hr1
 have lp:∀{h':PH},Bx h' r1 p.cells->bT PG h' (loadAt bR (pT r1 0))=some p.v:=λX=>X.pk rfl
 have ls:∀{h':PH},Bx h' r1 p.cells->bT PG h' (loadAt dT (pT r1 1))=some (.int .u64 (q:Int)):=λX=>by rw[dT.load,X.cell,←hq];rfl
 have lt:∀{h':PH},Bx h' r1 p.cells->bT PG h' (loadAt dT (pT r1 2))=some (.int .u64 p.t):=λX=>by rw[dT.load,X.cell];rfl
 have hse:=aMS s p (qZ s p pf (x:Int))
 have stepOf:∀{h3:PH} {A':List Tx},Bk b m A' K h3->eW [b,m] h1 h3->(∀a∈A,a∈A')->gF (rM b m A K) (DC c b s n) h3 ((b::m::K)++Fd)∧jZ h ((b::m::K)++Fd) h3 ((b::m::K)++Fd):=fun {h3 A'} B3 u3 hs=>by
  obtain⟨W3,s3⟩:=aGm (gX s n) (gW.ext H u1) B3 u3
  exact⟨rM.mono W3 hs,(jZ.ext u1).trans s3⟩
 have no:∀{h3:PH} {A':List Tx} (e:Int),Bk b m A' K h3->eW [b,m] h1 h3->(∀a∈A,a∈A')->kJ s p (qZ s p pf (x:Int))=e->e≠0->k (.int .i64 e) h3:=fun {h3 A'} e B3 u3 hs he hne=>by
  obtain⟨W3,s3⟩:=stepOf B3 u3 hs
  have:=hbad (by rw[he];exact hne) h3 W3 s3
  rw[he] at this
  exact this
 simp only[lp X1,eK,reduceIte,eX,Nat.reduceAdd]
 refine aOv (s:=s) (n:=n) (HB.ext u1) P1 pw λh2 B2 u2=>?_
 have P2:=nZ.good.upd P1 u2 offd
 have X2:=X1.upd u2 n1b
 by_cases hm:aDD s p=0
 case neg=>
  have q0:(aDD s p !=0)=true:=by rw[bne_iff_ne];exact hm
  rw[if_neg hm] at hse
  simp only[lR,q0,eK,reduceIte,eX,Nat.reduceAdd]
  exact no _ B2 u2 (λa ha=>zLk _ ha) hse hm
 have q0:(aDD s p !=0)=false:=by rw[hm];rfl
 rw[if_pos hm] at B2 hse
 rw[aXk,hqn] at hse
 rw[hqn] at hok
 obtain⟨Fc,KR,-,-⟩:=P2.fCl
 simp only[lR,q0,eV.f3,iG,dl3 P2.cell,eK,reduceIte,eX,Nat.reduceAdd]
 refine aKC KR (by have:=w.few;omega) (x:Int) ?_
 rw[aMH]
 cases hro:(lZ s.cl (x:Int)).isSome with
 | false=>
  rw[hro,if_pos rfl] at hse
  simp only[eK,reduceIte,eX,Nat.reduceAdd]
  exact no 11 B2 u2 (λa ha=>zLk _ ha) hse (by decide)
 | true=>
  rw[hro,if_neg (by decide)] at hse
  by_cases c2:IntKind.u64.wrap (p.t-1)≤(x:Int)
  case neg=>
   have g:((x:Int)<IntKind.u64.wrap (p.t-1))=True:=eq_true (by omega)
   rw[if_pos c2] at hse
   simp only[bR.f2,iG,lt X2,g,eK,reduceIte,eX,Nat.reduceAdd]
   exact no 11 B2 u2 (λa ha=>zLk _ ha) hse (by decide)
  have g:((x:Int)<IntKind.u64.wrap (p.t-1))=False:=eq_false (by omega)
  rw[if_neg (by simpa using c2)] at hse
  have q114:({data:=#[114]}:ByteArray)=tx [114]:=rfl
  have q99:({data:=#[99]}:ByteArray)=tx [99]:=rfl
  simp only[bR.f1,bR.f2,eV.f0,iG,lt X2,g,dl0 P2.cell,ls X2,q114,eK,reduceIte,eX,Nat.reduceAdd]
  refine aAF (c:=114) (n:=q) hq2 λh4 u4=>?_
  have P4:=nZ.good.ext P2 u4
  refine⟨dl0 P4.cell,?_⟩
  refine aRh (B2.ext u4) (by omega) λh6 B6 u6=>?_
  have P6:=nZ.good.upd P4 u6 offd
  have u16:eW [b,m] h1 h6:=(u2.trans u4.upd).trans u6
  have X6:Bx h6 r1 p.cells:=X1.upd u16 n1b
  have hsub:∀a∈A,a∈aHp pf (jF 114 q)++(tW p++A):=λa ha=>by simp[ha]
  cases hh:aAU (qB s.cl (x:Int)) pf (jF 114 q) with
  | false=>
   rw[hh,if_pos rfl] at hse
   simp only[eK,reduceIte,eX,Nat.reduceAdd]
   exact no 9 B6 u16 hsub hse (by decide)
  | true=>
   rw[hh,if_neg (by decide)] at hse
   have hok:=hok hse
   obtain⟨-,sh6⟩:=stepOf B6 u16 hsub
   simp only[eV.f2,bR.f1,iG,dl2 P6.cell,ls X6,q99,eK,reduceIte,eX,Nat.reduceAdd]
   refine aAF (c:=99) (n:=q) hq2 λh7 u7=>?_
   have P7:=nZ.good.ext P6 u7
   refine⟨dl2 P7.cell,?_⟩
   refine aQb P7 (by have:=aNp (aNc hm).1;rw[hqn] at this;exact this) λh8 F8 P8 s8=>?_
   obtain⟨X8,nX8⟩:=xY (X6.ext u7) nX s8
   simp only[lp X8,eK,reduceIte,eX,Nat.reduceAdd]
   refine aJk (s:=s.del (jF 99 q)) (n:=n) (b:=b) ⟨sp,cp,bv,nv,P8⟩ hn 4 p λh9 F9 P9 s9=>?_
   obtain⟨W9,sW9⟩:=aGq (X':=DC c b (s.settled 4 p) (n+1)) (B6.ext u7) hdis (by
    unfold Ch.settled
    rw[hqn]
    exact P9) (s8.trans s9)
   refine hok h9 _ (rM.mono W9 λa ha=>?_) ((sh6.trans (jZ.ext u7)).trans sW9)
   simp only[kR] at ha ⊢
   rcases ha with(ha|ha)|ha
   ·exact .inl ha
   ·exact .inr (.inl ha)
   ·exact .inr (.inr ha)
theorem aWC:iP PG (buildSlice gV 0 #[])=some (.cells #[] fS,λr=>pure (.slice (some ⟨r,0,none⟩) 0 0)):=by kernel_rfl
theorem aT6:lC 1 ([]:List (List Value)):=λr hr=>by cases hr
theorem aOz(v:Value):lC 1 [[v]]:=λr hr=>by simp only[iQ] at hr;subst hr;rfl
theorem aTe{h:PH}{c b:Nat}{s:Ch}{n:Nat}{F:List Nat}(H:DC c b s n h F)(hn:n≤10000){kk:eJ}
  (hk:∀h' F',DC c b s.committed (n+1) h' F'->jZ h F h' F'->kk (.tuple #[.int .u64 ((lF s.st).2.1:Int),.int .i64 (lF s.st).2.2]) h'):cR PG wQ #[pT c 0] h kk:=by
 apply oH.call
 unfold oH vL
 obtain⟨sp,cp,bv,nv,P⟩:=H
 simp only[eV.f2,iG,dl2 P.cell,eK,reduceIte,eX,Nat.reduceAdd]
 obtain⟨Fs,⟨G,S,rfl⟩,hFs,back⟩:=P.fSt
 refine aVq S λh1 G1 S1 u1 g1=>?_
 obtain⟨F2,P2,s2⟩:=back (rsA sp (lF s.st).1) h1 (sp::G1) ⟨G1,S1,rfl⟩ ⟨u1.mono λx hx=>.inl (by simp only[iQ] at hx;simp[hx]),λx hx=>by
  rcases jG.1 hx with rfl|hx
  ·exact .inl (by simp)
  ·rcases g1 x hx with hx|hx
   ·exact .inl (by simp[hx])
   ·exact .inr hx⟩
 unfold Ch.committed at hk
 by_cases he:(lF s.st).2.2=0
 case neg=>
  have q:((lF s.st).2.2==0)=false:=by simpa using he
  rw[if_neg he] at hk
  simp only[jO,q,eK,reduceIte,eX,Nat.reduceAdd]
  refine hk h1 F2 (DC.mono (n:=n) ⟨sp,cp,bv,nv,?_⟩ (aCP n)) s2
  rw[aFc he] at P2
  exact P2
 have q:((lF s.st).2.2==0)=true:=by simpa using he
 rw[if_pos he] at hk
 have P2:nZ c (s.dcells b sp cp bv nv) sp (lF s.st).1 cp s.cl bv nv n h1 F2:=P2
 obtain⟨Ft,⟨Fb,Fn,rfl,⟨rows,Ob,lb,cb⟩,⟨ns,On,ln⟩,hd⟩,hFt,back2⟩:=P2.fTwo
 obtain⟨na,nc,env,-⟩:=On.slR.here
 rw[kQ] at env
 simp only[jO,q,eV.f5,eV.f6,iG,dl5 P2.cell,dl6 P2.cell,aWC,eK,reduceIte,eX,Nat.reduceAdd]
 intro r15 hr15
 refine iK ?_
 try rw[eY]
 have u3:fE h1 (h1.set r15 (.cells #[] fS)):=eW.new hr15
 have O3:gU (h1.set r15 (.cells #[] fS)) fS 1 (.slice (some ⟨r15,0,none⟩) 0 0) ([]:List (List Value)) [r15]:=gU.lit (n:=0) aT6 fP (by simp) (by decide) rfl
 have P3:=nZ.good.ext P2 u3
 generalize h1.set r15 (.cells #[] fS)=h3 at *
 refine kU gV.und gV.und fS.info fS.size fS.bytes fS.zero rfl (by decide) O3 (Ob.ext u3).slR cb (by simp only[zLK];omega) ?_
 intro v4 h4 F4 O4 u4 k4 _
 rw[yB] at O4
 have e14:fE h1 h4:=u3.fresh u4 (gQ.one hr15)
 have f4:gQ h1 F4:=λx hx=>by
  rcases k4 x hx with hx|hx
  ·simp only[iQ] at hx;subst hx;exact hr15
  ·exact u3.none hx
 have P4:=nZ.good.ext P2 e14
 refine⟨dl6 P4.cell,?_⟩
 rw[env]
 simp only[aQO,eK,reduceIte,eX,Nat.reduceAdd]
 rw[←env]
 intro r21 hr21
 refine iK ?_
 try rw[eY]
 have u5:fE h4 (h4.set r21 (.cells #[nv] fS)):=eW.new hr21
 have s5:iR (h4.set r21 (.cells #[nv] fS)) 1 (.slice (some ⟨r21,0,none⟩) 1 1) [[nv]]:=(gU.lit (n:=1) (aOz nv) fP (by simp) (by decide) (by simp)).slR
 generalize h4.set r21 (.cells #[nv] fS)=h5 at *
 refine kU gV.und gV.und fS.info fS.size fS.bytes fS.zero rfl (by decide) (O4.ext u5) s5 (λr hr u hu=>by
  simp only[iQ] at hr
  subst hr
  simp only[iQ] at hu
  subst hu
  exact On.slR.isc) (by simp only[zLQ];omega) ?_
 intro v6 h6 F6 O6 u6 k6 _
 have e16:fE h1 h6:=(e14.trans u5).fresh u6 f4
 have f6:gQ h1 F6:=f4.grow (e14.trans u5) k6
 have B6:boA v6 (n+1) h6 F6:=⟨rows++[[nv]],O6,by simp;omega,λr hr u hu=>by
  rcases kR.1 hr with hr|hr
  ·exact cb r hr u hu
  ·simp only[iQ] at hr
   subst hr
   simp only[iQ] at hu
   subst hu
   exact On.slR.isc⟩
 have W6:gF (boA v6 (n+1)) (noA nv (n+1)) h6 (F6++Fn):=gF.mk B6 ⟨ns,On.ext e16,by omega⟩ (λx hx hx5=>On.known x hx5 (f6 x hx))
 obtain⟨F7,P7,s7⟩:=back2 _ h6 _ W6 ⟨e16.upd,λx hx=>by
  rcases kR.1 hx with hx|hx
  ·exact .inr (f6 x hx)
  ·exact .inl (by simp[hx])⟩
 have P7:nZ c (s.dcells b sp cp bv nv) sp (lF s.st).1 cp s.cl v6 nv (n+1) h6 F7:=P7
 obtain⟨Fx,⟨rfl,X7⟩,hFx,back3⟩:=P7.fBox
 refine gV.put X7 (o:=5) (by show 5<7;decide) O6.slR.isc λh8 X8 u8=>?_
 have X8:Bx h8 c (s.dcells b sp cp v6 nv):=X8
 refine fS.put X8 (o:=6) (by show 6<7;decide) rfl λh9 X9 u9=>?_
 have X9:Bx h9 c (s.dcells b sp cp v6 (.slice none 0 0)):=X9
 obtain⟨F10,P10,s10⟩:=back3 (rH c (s.dcells b sp cp v6 (.slice none 0 0))) h9 [c] ⟨rfl,X9⟩ ⟨u8.trans u9,λx hx=>.inl hx⟩
 obtain⟨F11,Fr,eF,hx,⟨G1',G2',eG,y1,⟨G3,G4,eG2,y2,⟨G5,G6,eG3,y3,⟨ns',On',ln'⟩,d5⟩,d3⟩,d1⟩,dx⟩:=P10
 refine hk h9 (F11++(G1'++(G3++(G5++[])))) ⟨sp,cp,v6,.slice none 0 0,F11,_,rfl,hx,⟨G1',_,rfl,y1,⟨G3,_,rfl,y2,⟨G5,[],rfl,y3,⟨[],gU.nil,by simp⟩,by simp⟩,?_⟩,?_⟩,?_⟩ ?_
 ·subst eG3
  intro x hx1 hx2
  exact d3 x hx1 (by simp at hx2;simp[hx2])
 ·subst eG2;subst eG3
  intro x hx1 hx2
  exact d1 x hx1 (by simp at hx2;rcases hx2 with hx2|hx2<;>simp[hx2])
 ·subst eG;subst eG2;subst eG3
  intro x hx1 hx2
  exact dx x hx1 (by simp at hx2;rcases hx2 with hx2|hx2|hx2<;>simp[hx2])
 ·have st:=(s2.trans s7).trans s10
  refine⟨st.upd,λx hx=>st.grow x ?_⟩
  rw[eF,eG,eG2,eG3]
  simp at hx ⊢
  rcases hx with hx|hx|hx|hx<;>simp[hx]
theorem aSt{h:PH}{c b m:Nat}{s:Ch}{n:Nat}{A:List Tx}{K F:List Nat}{sp cp:Nat}{bv nv:Value}(HB:Bk b m A K h)(P:nZ c (s.dcells b sp cp bv nv) sp s.st cp s.cl bv nv n h F)(offd:∀x∈F,x∉[b,m])(key:Tx){x:Nat}(hx:x<18446744073709551616){kk:eJ}
  (hk:∀h',Bk b m A K h'->eW [b,m] h h'->kk (.tuple #[.string (tx (aEt s.st key x).1),.int .i64 (aEt s.st key x).2]) h'):cR PG xK #[pT c 0,.string (tx key),.int .u64 (x:Int)] h kk:=by
 apply uK.call
 unfold uK
 have hst:=P.okst
 simp only[eV.f2,iG,dl2 P.cell,eK,reduceIte,eX,Nat.reduceAdd]
 obtain⟨Fs,⟨G,S,eFs⟩,hFs,-⟩:=P.fSt
 have q0:({data:=#[]}:ByteArray)=tx []:=rfl
 unfold aEt at hk
 have kb:=HB.known b (by simp)
 have km:=HB.known m (by simp)
 refine aSO S x hx (λe=>?_) (λl v e B1 hv=>?_)
 ·rw[e] at hk
  have q:((3:Int) !=0)=true:=by decide
  simp only[lR,q,q0,eK,reduceIte,eX,Nat.reduceAdd]
  exact hk h HB eW.refl
 ·rw[e] at hk
  simp only at hk
  have M:=hst.mok e
  have ov:Off b m v:=λa n c ev=>offd _ (hFs _ (by rw[eFs];simp[hv a n c ev]))
  simp only[lR,eV.f0,iG,dl0 P.cell,eK,reduceIte,eX,Nat.reduceAdd]
  -- the end
  have fin:∀{h4:PH} {ab:Bool} {v4:Value} {r:Nat},eW [b,m] h h4->Bk b m A K h4->Bx h4 r [.bool ab,v4]->oN h h4 v4 (kK l key).lv->ab=(kK l key).ab->(∀h',Bk b m A K h'->eW [b,m] h h'->kk (.tuple #[.string (tx (mG (kK l key)).1),.int .i64 (mG (kK l key)).2]) h')->nE kk (.int .i64 0) (pT r 0) h4:=by
   intro h4 ab v4 r u4 HB4 B4 L4 eab hk
   unfold nE
   have l4:bT PG h4 (loadAt eH (pT r 0))=some (Pf.val ab v4):=eH.agg B4 (by show 0+2≤2;decide)
   simp only[lR,l4,eK,reduceIte,eX,Nat.reduceAdd]
   obtain⟨l5,F',el,O,-,L⟩:=L4.here
   have epf:(⟨ab,l5.map (·.1)⟩:Pf)=kK l key:=by rw[el,eab]
   have hpf:=aIj M key
   refine aNh O.slR L.lfs (by
    have:l5.length=(kK l key).lv.length:=by rw[←el];simp
    have:=hpf.1;omega) λh5 u5=>?_
   rw[epf]
   simp only[eK,reduceIte,eX,Nat.reduceAdd]
   exact hk h5 (HB4.ext u5) (u4.trans u5.upd)
  refine aPy HB M B1 ov (λhno h2 HB2 u2=>?_) (λhyes h2 v2 HB2 L2 u2=>?_)
  ·have hns:(jI l key).isSome=false:=by rw[hno];rfl
   rw[hns] at hk
   simp only[zLr,if_false] at hk
   simp only[eK,reduceIte,eX,Nat.reduceAdd]
   intro r14 hr14
   try rw[eY]
   have n14:h r14=none:=u2.grow2 (HB2.known b (by simp)) (HB2.known m (by simp)) hr14
   have n14b:r14∉[b,m]:=λhm=>by
    simp only[jG,mD,or_false] at hm
    rcases hm with rfl|rfl
    ·exact kb n14
    ·exact km n14
   refine eH.fill (vs:=[.bool false,.slice none 0 0]) hr14 rfl (by simp[iF]) λh3 B3 u3=>?_
   have q:((3:Int) !=0)=true:=by decide
   have e3:=u2.trans u3.upd
   have P3:=nZ.good.upd P e3 offd
   simp only[lR,q,eV.f0,iG,dl0 P3.cell,eK,reduceIte,eX,Nat.reduceAdd]
   have B13:=B1.upd e3 (λa n c ev=>ov a n c ev)
   have bad:∀{h4:PH} {e:Int},eW [b,m] h3 h4->Bk b m A K h4->e≠0->(∀h',Bk b m A K h'->eW [b,m] h h'->kk (.tuple #[.string (tx []),.int .i64 e]) h')->eZ PG (fQ eH (pT r14 0) (Pf.val false (.slice none 0 0))) h4 λv23 h24=>nE kk (.int .i64 e) (pT r14 0) h24:=by
    intro h4 e u4 HB4 hne hk
    refine eH.put (vs:=[.bool false,.slice none 0 0]) (B3.upd u4 n14b) (o:=0) rfl (by show 0+2≤2;decide) (by simp[iF]) λh5 B5 u5=>?_
    unfold nE
    have q:(e !=0)=true:=by simpa using hne
    simp only[lR,q,q0,eK,reduceIte,eX,Nat.reduceAdd]
    refine hk h5 (HB4.upd u5 λy hy hm=>?_) (eW.then (e3.trans u4) u5 (λy hy=>by simp only[iQ] at hy;subst hy;exact .inr n14))
    simp only[iQ] at hm
    subst hm
    exact HB.known _ hy n14
   refine aQ9 (HB2.ext u3) M B13 ov (λhb h4 HB4 u4=>?_) (λ_ hs h4 HB4 u4=>?_) (λhb _ h4 v4 HB4 L4 u4=>?_)
   ·rw[if_neg hb] at hk
    simp only[eK,reduceIte,eX,Nat.reduceAdd]
    exact bad u4 HB4 (by decide) hk
   ·rw[hns] at hs;cases hs
   ·rw[if_pos hb] at hk
    simp only[eK,reduceIte,eX,Nat.reduceAdd]
    refine eH.put (vs:=[.bool true,v4]) (B3.upd u4 n14b) (o:=0) rfl (by show 0+2≤2;decide) (by
     have:=L4.isc
     simp[iF];exact this) λh5 B5 u5=>?_
    have hab:(kK l key).ab=true:=by
     unfold kK
     rw[if_neg (by rw[hns];decide)]
     split
     ·rfl
     ·split
      ·rfl
      ·split<;>rfl
    have L5:oN h3 h5 v4 (kK l key).lv:=L4.upd u5 (λb hb=>by simp only[iQ] at hb;rw[hb];exact B3.known)
    have L5':oN h h5 v4 (kK l key).lv:=by
     obtain⟨l',F',el,O,f,L⟩:=L5.here
     have HB3:=HB2.ext u3
     refine⟨l',F',el,O,λy hy=>e3.grow2 (HB3.known b (by simp)) (HB3.known m (by simp)) (f y hy),λy hy=>?_⟩
     obtain⟨G',y1,y2,y3⟩:=L y hy
     exact⟨G',y1,λz hz=>e3.grow2 (HB3.known b (by simp)) (HB3.known m (by simp)) (y2 z hz),y3⟩
    refine fin (eW.then (e3.trans u4) u5 (λy hy=>by simp only[iQ] at hy;subst hy;exact .inr n14)) (HB4.upd u5 λy hy hm=>?_) B5 L5' hab.symm hk
    simp only[iQ] at hm
    subst hm
    exact HB.known _ hy n14
  ·rw[hyes] at hk
   simp only[if_true] at hk
   simp only[eK,reduceIte,eX,Nat.reduceAdd]
   intro r14 hr14
   try rw[eY]
   refine eH.fill (vs:=[.bool false,v2]) hr14 rfl (by
    have:=L2.isc
    simp[iF];exact this) λh3 B3 u3=>?_
   have epf:kK l key=⟨false,[lB l (jC l key)]⟩:=by unfold kK;rw[if_pos hyes]
   exact fin (u2.trans u3.upd) (HB2.ext u3) B3 (by rw[epf];exact L2.upd u3 (λb hb=>by cases hb)) (by rw[epf]) hk
theorem aLk(p:Pf):(mG p).1.length≤3000:=by
 unfold mG
 split
 ·rename_i h
  obtain⟨h1,h2⟩:=h
  rw[aCB] at h2
  show(aA0 p).length≤3000
  have hl:∀l:List Lf,(∀f∈l,f.okb=true)->(mJ l).length≤1000*l.length:=λl=>by
   induction l with
   | nil=>intro _;simp[mJ]
   | cons f l ih=>
    intro hh
    have a:=aOd (Lf.ok_iff.1 (hh f (by simp)))
    have b:=ih λy hy=>hh y (by simp[hy])
    simp only[mJ,lH,wT]
    omega
  have:=hl p.lv h2
  unfold aA0
  simp only[lH,jQ]
  omega
 ·simp
theorem aRN(s:St)(key:Tx)(x:Nat):(aEt s key x).1.length≤3000:=by
 unfold aEt
 split
 ·simp
 ·split
  ·exact aLk _
  ·split
   ·exact aLk _
   ·simp
theorem aUZ(o:Ch){a:lV}(h:a.d.length≤1000000):(mC o a).length≤1000000:=by
 unfold mC
 split
 ·have:=aRN o.st (aIC a) a.h
  omega
 ·exact h
noncomputable def doA(c o:Ch)(a:lV):List Tx:=
 if a.kind=0 then(if sJ c a.d a.h=0 then tW (lJ c a.d a.h) else [])
 else if a.kind=1 then(match tY o.st a.h with
  | none=>[]
  | some b=>xG b)
 else if a.kind=2 then(if pZ c (qJ c a.p (mC o a) (a.h:Int))=0 then aFb a.p++(aFv (mC o a)++tW a.p) else [])
 else if a.kind=3 then(if kJ c a.p (xU c a.p (mC o a) (a.h:Int))=0 then aFv (mC o a)++(aFb a.p++tW a.p) else [])
 else if a.kind=4 then(if kJ c a.p (qZ c a.p (mC o a) (a.h:Int))=0 then aHp (mC o a) (jF 114 a.p.s.toNat)++tW a.p else [])
 else []
theorem aTh{h:PH}{c b:Nat}{s:Ch}{n:Nat}{F:List Nat}{sp cp:Nat}{bv nv:Value}(P:nZ c (s.dcells b sp cp bv nv) sp s.st cp s.cl bv nv n h F)(w:s.cl.length≤4096)(x:Int)(root:Tx){kk:eJ}
  (hk:∀h' F',nZ c ((s.told x root).dcells b sp cp bv nv) sp (s.told x root).st cp (s.told x root).cl bv nv n h' F'->jZ h F h' F'->kk (.int .i64 (aAw s.cl ⟨x,tx root⟩).1) h'):cR PG sE #[pT cp 0,.int .u64 x,.string (tx root)] h kk:=by
 obtain⟨Fc,C,hFc,back⟩:=P.fCl
 have ea:cp∈Fc:=by
  obtain⟨v,G,-,-,eF,-⟩:=(C:xW h cp s.cl Fc)
  rw[eF];simp
 refine aVd C w ⟨x,tx root⟩ λh1 F1 C1 u1 g1=>?_
 obtain⟨F2,P2,s2⟩:=back (krA cp (aAw s.cl ⟨x,tx root⟩).2) h1 F1 C1 ⟨u1.mono λy hy=>.inl (by
  simp only[iQ] at hy
  subst hy
  exact ea),g1⟩
 exact hk h1 F2 P2 s2
theorem aXE{a b:ByteArray}(h:a.data.toList=b.data.toList):a=b:=by
 rw[←aH1 a,←aH1 b,h]
theorem Pk.bs_inj{p q:Pk}(hp:p.right=true)(hq:q.right=true)(wp:p.wf)(wq:q.wf)(h:p.bs=q.bs):p=q:=by
 obtain⟨a1,a2,-,-,a5⟩:=Pk.right_iff.1 hp
 obtain⟨b1,b2,-,-,b5⟩:=Pk.right_iff.1 hq
 unfold Pk.bs at h
 obtain⟨h1,h⟩:=List.append_inj h (by rw[jQ,jQ])
 obtain⟨h2,h⟩:=List.append_inj h (by rw[jQ,jQ])
 obtain⟨h3,h⟩:=List.append_inj h (by rw[jQ,jQ])
 obtain⟨h4,h5⟩:=List.append_inj h (by rw[jQ,jQ])
 have e1:=congrArg val h1
 rw[aKU,aKU,aCI (show p.f.toNat<256^1 by omega),aCI (show q.f.toNat<256^1 by omega)] at e1
 have w1:=wp.1;have w2:=wp.2.1;have w3:=wp.2.2.1;have w4:=wp.2.2.2
 have v1:=wq.1;have v2:=wq.2.1;have v3:=wq.2.2.1;have v4:=wq.2.2.2
 have e2:=aLZ (by omega) (by omega) h2
 have e3:=aLZ (by omega) (by omega) h3
 obtain⟨pf,ps,pt,pd⟩:=p
 obtain⟨qf,qs,qt,qd⟩:=q
 have e5:pd=qd:=aXE h5
 simp only at e1 e2 e3 w1 w3 v1 v3 a1 b1
 rw[e5,show pf=qf by omega,show ps=qs by omega,show pt=qt by omega]
theorem aUF{c d:UInt8}{n m:Nat}(hn:n<18446744073709551616)(hm:m<18446744073709551616)(h:jF c n=jF d m):c=d∧n=m:=by
 unfold jF at h
 simp only[mQ] at h
 exact⟨h.1,aLZ hn hm h.2⟩
theorem aQm{c d:UInt8}{n m:Nat}(h:c≠d):jF c n≠jF d m:=λe=>by
 unfold jF at e
 simp only[mQ] at e
 exact h e.1
def aGY(st:St)(P:Pr->Prop):Prop:=(∀q∈st.now,P q)∧∀b∈st.blocks,∀q∈b,P q
def aKH(st:St)(k v:Tx):St:={st with now:=oV st.now ⟨k,v⟩}
def aOW(st:St)(k:Tx):St:={st with now:=zR st.now k}
theorem aGY.mono{st:St}{P Q:Pr->Prop}(H:aGY st P)(h:∀q,P q->Q q):aGY st Q:=⟨λq hq=>h q (H.1 q hq),λb hb q hq=>h q (H.2 b hb q hq)⟩
theorem aGY.put{st:St}{P:Pr->Prop}(H:aGY st P){k v:Tx}(h:P ⟨k,v⟩):aGY (aKH st k v) P:=⟨λq hq=>by
 rcases yA.1 hq with rfl|⟨hq,-⟩
 ·exact h
 ·exact H.1 q hq,H.2⟩
theorem aGY.del{st:St}{P:Pr->Prop}(H:aGY st P)(k:Tx):aGY (aOW st k) P:=⟨λq hq=>H.1 q (zLZ.1 hq).1,H.2⟩
theorem aGY.com{st:St}{P:Pr->Prop}(H:aGY st P):aGY (lF st).1 P:=by
 by_cases he:(lF st).2.2=0
 ·rw[(aHY he).1]
  refine⟨H.1,λb hb=>?_⟩
  rcases kR.1 hb with hb|hb
  ·exact H.2 b hb
  ·simp only[iQ] at hb
   subst hb
   exact H.1
 ·rw[aFc he];exact H
theorem aVA{st:St}{x:Nat}{b:List Pr}(h:tY st x=some b):b∈st.blocks:=uJ (aJR h).2
theorem aOs{st:St}{x:Nat}{b:List Pr}(h:tY st x=some b):x≤st.height:=by
 have:=(aJR h).1
 omega
theorem aQM{st:St}(ok:st.Ok)(he:(lF st).2.2=0)(x:Nat):tY (lF st).1 x=if x=st.height+1 then some st.now else tY st x:=by
 rw[(aHY he).1]
 have h1:=ok.h1
 have h3:=ok.h3
 unfold tY
 simp only[lH,zLQ]
 by_cases c:x=st.height+1
 ·rw[if_pos c,if_neg (by omega),show st.blocks.length+1-1-(st.height+1-x)=st.blocks.length by omega]
  simp
 ·rw[if_neg c]
  by_cases d:st.height<x∨st.blocks.length≤st.height-x
  ·rw[if_pos d,if_pos (by omega)]
  ·rw[if_neg d,if_neg (by omega),show st.blocks.length+1-1-(st.height+1-x)=st.blocks.length-1-(st.height-x) by omega,List.getElem?_append_left (by omega)]
theorem aTy{st:St}(ok:st.Ok){x:Nat}{b:List Pr}(h:tY st x=some b):tY (lF st).1 x=some b:=by
 by_cases he:(lF st).2.2=0
 ·have:=aOs h
  rw[aQM ok he,if_neg (by omega)];exact h
 ·rw[aFc he];exact h
theorem aQ8(st:St):st.height≤(lF st).1.height:=by
 by_cases he:(lF st).2.2=0
 ·rw[(aHY he).1];exact aCP _
 ·rw[aFc he];exact sL _
def aIW(st:St)(k:Tx)(t:Int):Prop:=(∃q∈st.now,q.k=k)∧∀x b,tY st x=some b->t≤(x:Int)+1->∃q∈b,q.k=k
theorem aIW.put{st:St}{k:Tx}{t:Int}(H:aIW st k t)(k' v:Tx):aIW (aKH st k' v) k t:=by
 obtain⟨q,hq,e⟩:=H.1
 refine⟨?_,H.2⟩
 by_cases c:q.k=k'
 ·exact⟨⟨k',v⟩,yA.2 (.inl rfl),by rw[←c];exact e⟩
 ·exact⟨q,yA.2 (.inr ⟨hq,c⟩),e⟩
theorem aIW.del{st:St}{k:Tx}{t:Int}(H:aIW st k t){k':Tx}(hk:k'≠k):aIW (aOW st k') k t:=by
 obtain⟨q,hq,e⟩:=H.1
 exact⟨⟨q,zLZ.2 ⟨hq,by simp only[ne_eq,decide_eq_true_eq];rw[e];exact hk.symm⟩,e⟩,H.2⟩
theorem aIW.com{st:St}(ok:st.Ok){k:Tx}{t:Int}(H:aIW st k t):aIW (lF st).1 k t:=by
 by_cases he:(lF st).2.2=0
 ·refine⟨by rw[(aHY he).1];exact H.1,λx b hx ht=>?_⟩
  rw[aQM ok he] at hx
  split at hx
  ·cases hx;exact H.1
  ·exact H.2 x b hx ht
 ·rw[aFc he];exact H
theorem aVr(c:Ch)(p:Pk):(c.sent p).st=aKH c.st (jF 99 c.seq) (rB p)∧(c.sent p).cl=c.cl∧(c.sent p).id=c.id:=⟨rfl,rfl,rfl⟩
theorem aPv(c:Ch)(p:Pk):(c.received p).st=aKH (aKH c.st (jF 114 p.s.toNat) [1]) (jF 97 p.s.toNat) (aAv p)∧(c.received p).cl=c.cl∧(c.received p).id=c.id:=⟨rfl,rfl,rfl⟩
theorem aMe(c:Ch)(k:Int)(p:Pk):(c.settled k p).st=aOW c.st (jF 99 p.s.toNat)∧(c.settled k p).cl=c.cl∧(c.settled k p).id=c.id:=⟨rfl,rfl,rfl⟩
theorem aGS(c:Ch):c.committed.st=(lF c.st).1∧c.committed.cl=c.cl∧c.committed.id=c.id:=by
 unfold Ch.committed
 by_cases he:(lF c.st).2.2=0
 ·rw[if_pos he];exact⟨rfl,rfl,rfl⟩
 ·rw[if_neg he];exact⟨(aFc he).symm,rfl,rfl⟩
theorem aI2(c o:Ch)(a:lV):
  (a.kind=0∧sJ c a.d a.h=0∧(mB c o a).1=c.sent (lJ c a.d a.h)∧(mB c o a).2=(lJ c a.d a.h,0,0)∧doA c o a=tW (lJ c a.d a.h))∨
  (a.kind=1∧∃b,tY o.st a.h=some b∧(mB c o a).1=c.told (a.h:Int) (lO b)∧doA c o a=xG b)∨
  (a.kind=2∧pZ c (qJ c a.p (mC o a) (a.h:Int))=0∧(mB c o a).1=c.received a.p∧(mB c o a).2.2.2=0∧doA c o a=aFb a.p++(aFv (mC o a)++tW a.p))∨
  (a.kind=3∧kJ c a.p (xU c a.p (mC o a) (a.h:Int))=0∧(mB c o a).1=c.settled 3 a.p∧(mB c o a).2.2.2=0∧doA c o a=aFv (mC o a)++(aFb a.p++tW a.p))∨
  (a.kind=4∧kJ c a.p (qZ c a.p (mC o a) (a.h:Int))=0∧(mB c o a).1=c.settled 4 a.p∧(mB c o a).2.2.2=0∧doA c o a=aHp (mC o a) (jF 114 a.p.s.toNat)++tW a.p)∨
  (a.kind=5∧(mB c o a).1=c.committed)∨
  ((mB c o a).1=c∧((mB c o a).2.2.2=0->a.kind<0∨5<a.kind)):=by
 unfold mB doA
 by_cases k0:a.kind=0
 ·rw[if_pos k0,if_pos k0]
  by_cases e:sJ c a.d a.h=0
  ·rw[if_pos e,if_pos e];exact .inl ⟨k0,e,rfl,rfl,rfl⟩
  ·rw[if_neg e];exact .inr (.inr (.inr (.inr (.inr (.inr ⟨rfl,λh=>absurd h e⟩)))))
 rw[if_neg k0,if_neg k0]
 by_cases k1:a.kind=1
 ·rw[if_pos k1,if_pos k1]
  cases hs:tY o.st a.h with
  | none=>exact .inr (.inr (.inr (.inr (.inr (.inr ⟨rfl,λh=>by simp at h⟩)))))
  | some b=>exact .inr (.inl ⟨k1,b,rfl,rfl,rfl⟩)
 rw[if_neg k1,if_neg k1]
 by_cases k2:a.kind=2
 ·rw[if_pos k2,if_pos k2]
  by_cases e:pZ c (qJ c a.p (mC o a) (a.h:Int))=0
  ·rw[if_pos e,if_pos e];exact .inr (.inr (.inl ⟨k2,e,rfl,rfl,rfl⟩))
  ·rw[if_neg e];exact .inr (.inr (.inr (.inr (.inr (.inr ⟨rfl,λh=>absurd h e⟩)))))
 rw[if_neg k2,if_neg k2]
 by_cases k3:a.kind=3
 ·rw[if_pos k3,if_pos k3]
  by_cases e:kJ c a.p (xU c a.p (mC o a) (a.h:Int))=0
  ·rw[if_pos e,if_pos e];exact .inr (.inr (.inr (.inl ⟨k3,e,rfl,rfl,rfl⟩)))
  ·rw[if_neg e];exact .inr (.inr (.inr (.inr (.inr (.inr ⟨rfl,λh=>absurd h e⟩)))))
 rw[if_neg k3,if_neg k3]
 by_cases k4:a.kind=4
 ·rw[if_pos k4,if_pos k4]
  by_cases e:kJ c a.p (qZ c a.p (mC o a) (a.h:Int))=0
  ·rw[if_pos e,if_pos e];exact .inr (.inr (.inr (.inr (.inl ⟨k4,e,rfl,rfl,rfl⟩))))
  ·rw[if_neg e];exact .inr (.inr (.inr (.inr (.inr (.inr ⟨rfl,λh=>absurd h e⟩)))))
 rw[if_neg k4,if_neg k4]
 by_cases k5:a.kind=5
 ·rw[if_pos k5];exact .inr (.inr (.inr (.inr (.inr (.inl ⟨k5,rfl⟩)))))
 ·rw[if_neg k5];exact .inr (.inr (.inr (.inr (.inr (.inr ⟨rfl,λ_=>by omega⟩)))))
def KOk(s:Ch):Prop:=s.cl.length≤4096∧∀y∈zH s.cl,0≤y∧y<18446744073709551616
theorem aPm{l:List jN}{x y:jN}(h:y∈(aAw l x).2):y∈l∨y=x:=by
 unfold aAw at h
 split at h
 ·exact .inl h
 ·split at h
  ·exact .inl h
  ·split at h
   ·exact .inl h
   ·simpa using h
theorem aTz{l:List jN}{x:jN}(h:l.length≤4096):(aAw l x).2.length≤4096:=by
 unfold aAw
 split
 ·exact h
 ·split
  ·exact h
  ·split
   ·exact h
   ·simp only[lH,zLQ];omega
theorem KOk.doP{c:Ch}(H:KOk c)(o:Ch){a:lV}(w:a.wf):KOk (mB c o a).1:=by
 have same:∀{c':Ch},c'.cl=c.cl->KOk c':=λe=>by unfold KOk;rw[e];exact H
 rcases aI2 c o a with⟨-,-,e,-⟩|⟨-,b,-,e,-⟩|⟨-,-,e,-⟩|⟨-,-,e,-⟩|⟨-,-,e,-⟩|⟨-,e⟩|⟨e,-⟩<;>rw[e]
 ·exact same rfl
 ·refine⟨aTz H.1,λy hy=>?_⟩
  obtain⟨z,hz,rfl⟩:=mT.1 hy
  rcases aPm hz with hz|rfl
  ·exact H.2 _ (mT.2 ⟨z,hz,rfl⟩)
  ·have:=w.h
   exact⟨by show(0:Int)≤(a.h:Int);omega,by show(a.h:Int)<_;omega⟩
 ·exact same rfl
 ·exact same rfl
 ·exact same rfl
 ·exact same (aGS c).2.1
 ·exact H
def aOU(id:Int)(A:List Tx)(G:Pk->Prop)(q:Pr):Prop:=∀n,n<18446744073709551616->q.k=jF 97 n->∃p,G p∧p.f=id∧p.s.toNat=n∧q.v=aAv p∧p.right=true∧p.wf∧∀t∈aFb p,t∈A
structure vM(c o:Ch)(A:List Tx)(G T:Pk->Prop):Prop where
 cl:∀y∈c.cl,∃(x:Nat) (b:List Pr),y.height=(x:Int)∧tY o.st x=some b∧y.root=tx (lO b)∧∀t∈xG b,t∈A
 rk:∀p,G p->p.f=c.id->aIW o.st (jF 114 p.s.toNat) p.t
 ak:aGY o.st (aOU c.id A G)
 tm:∀p,T p->p.f=c.id->p.t≤(o.st.height:Int)+1
section
variable{c o:Ch}{A:List Tx}{G T:Pk->Prop}(H:vM c o A G T)
include H
theorem vM.asked{A':List Tx}(hs:∀t∈A,t∈A'):vM c o A' G T:=
 ⟨λy hy=>by obtain⟨x,b,h1,h2,h3,h4⟩:=H.cl y hy;exact⟨x,b,h1,h2,h3,λt ht=>hs t (h4 t ht)⟩,H.rk,H.ak.mono λq hq n hn hk=>by obtain⟨p,h1,h2,h3,h4,h5,h6,h7⟩:=hq n hn hk;exact⟨p,h1,h2,h3,h4,h5,h6,λt ht=>hs t (h7 t ht)⟩,H.tm⟩
theorem vM.left{c':Ch}(hid:c'.id=c.id)(hcl:c'.cl=c.cl):vM c' o A G T:=
 ⟨λy hy=>H.cl y (hcl▸hy),λp hp hf=>H.rk p hp (hid▸hf),by rw[hid];exact H.ak,λp hp hf=>H.tm p hp (hid▸hf)⟩
theorem vM.right{o':Ch}(hst:o'.st=o.st):vM c o' A G T:=
 ⟨λy hy=>by rw[hst];exact H.cl y hy,λp hp hf=>by rw[hst];exact H.rk p hp hf,by rw[hst];exact H.ak,λp hp hf=>by rw[hst];exact H.tm p hp hf⟩
theorem vM.gt{G' T':Pk->Prop}(hG:∀p,p.f=c.id->(G' p↔G p))(hT:∀p,p.f=c.id->(T' p↔T p)):vM c o A G' T':=
 ⟨H.cl,λp hp hf=>H.rk p ((hG p hf).1 hp) hf,H.ak.mono λq hq n hn hk=>by obtain⟨p,h1,h2,h3⟩:=hq n hn hk;exact⟨p,(hG p h2).2 h1,h2,h3⟩,λp hp hf=>H.tm p ((hT p hf).1 hp) hf⟩
theorem vM.told(x:Nat){b:List Pr}(hx:tY o.st x=some b)(hA:∀t∈xG b,t∈A):vM (c.told (x:Int) (lO b)) o A G T:=
 ⟨λy hy=>by
  rcases aPm hy with hy|rfl
  ·exact H.cl y hy
  ·exact⟨x,b,rfl,hx,rfl,hA⟩,H.rk,H.ak,H.tm⟩
theorem vM.put{o':Ch}{k v:Tx}(hst:o'.st=aKH o.st k v)(hp:aOU c.id A G ⟨k,v⟩):vM c o' A G T:=
 ⟨λy hy=>by rw[hst];exact H.cl y hy,λp hp hf=>by rw[hst];exact(H.rk p hp hf).put _ _,by rw[hst];exact H.ak.put hp,λp hp hf=>by rw[hst];exact H.tm p hp hf⟩
theorem vM.del{o':Ch}{n:Nat}(hst:o'.st=aOW o.st (jF 99 n)):vM c o' A G T:=
 ⟨λy hy=>by rw[hst];exact H.cl y hy,λp hp hf=>by rw[hst];exact(H.rk p hp hf).del (aQm (by decide)),by rw[hst];exact H.ak.del _,λp hp hf=>by rw[hst];exact H.tm p hp hf⟩
theorem vM.com(ok:o.st.Ok):vM c o.committed A G T:=by
 obtain⟨e1,-,-⟩:=aGS o
 refine⟨λy hy=>?_,λp hp hf=>by rw[e1];exact(H.rk p hp hf).com ok,by rw[e1];exact H.ak.com,λp hp hf=>by
  have:=H.tm p hp hf
  have:=aQ8 o.st
  rw[e1];omega⟩
 obtain⟨x,b,h1,h2,h3,h4⟩:=H.cl y hy
 exact⟨x,b,h1,by rw[e1];exact aTy ok h2,h3,h4⟩
theorem vM.root{x:Nat}(hr:(lZ c.cl (x:Int)).isSome=true):∃b,tY o.st x=some b∧qB c.cl (x:Int)=lO b∧∀t∈xG b,t∈A:=by
 obtain⟨r,er⟩:=Option.isSome_iff_exists.1 hr
 unfold qB
 rw[er]
 unfold lZ at er
 cases hf:c.cl.find? λp=>decide ((x:Int)=p.height) with
 | none=>rw[hf] at er;cases er
 | some y=>
  rw[hf] at er
  simp only[aJA,zL5] at er
  have hm:=List.mem_of_find?_eq_some hf
  have hk:=List.find?_some hf
  simp only[decide_eq_true_eq] at hk
  obtain⟨x',b,h1,h2,h3,h4⟩:=H.cl y hm
  have ex:x'=x:=by omega
  subst ex
  refine⟨b,h2,?_,h4⟩
  show(Option.getD (some r) _).data.toList=_
  rw[aI5,←er,h3]
  rfl
end
theorem aNw{id:Int}{A:List Tx}{G:Pk->Prop}{ch:UInt8}{n:Nat}{v:Tx}(h:ch≠97):aOU id A G ⟨jF ch n,v⟩:=λm _ e=>absurd e (aQm h)
theorem aVX{t:Int}(h0:0<t)(h1:t<18446744073709551616):IntKind.u64.wrap (t-1)=t-1:=by rw[iZ (by omega) (by omega)]
def yP(a:lV)(e:Int)(G:Pk->Prop):Pk->Prop:=λp=>G p∨(e=0∧a.kind=2∧p=a.p)
def aAa(a:lV)(e:Int)(T:Pk->Prop):Pk->Prop:=λp=>T p∨(e=0∧a.kind=4∧p=a.p)
structure aOq(c o:Ch)(a:lV)(A:List Tx)(G T:Pk->Prop):Prop where
 one:vM (mB c o a).1 o A (yP a (mB c o a).2.2.2 G) (aAa a (mB c o a).2.2.2 T)
 two:vM o (mB c o a).1 A (yP a (mB c o a).2.2.2 G) (aAa a (mB c o a).2.2.2 T)
 recv:(mB c o a).2.2.2=0->a.kind=2->a.p.f=o.id∧IntKind.u64.wrap (((mB c o a).1.st.height:Int)+1)<a.p.t∧¬T a.p
 ack:(mB c o a).2.2.2=0->a.kind=3->a.p.f=c.id∧G a.p
 tim:(mB c o a).2.2.2=0->a.kind=4->a.p.f=c.id∧¬G a.p
theorem aNl{c o:Ch}{a:lV}{A:List Tx}{G T:Pk->Prop}(D1:vM c o A G T)(D2:vM o c A G T)(U:aCN (doA c o a++A))(hid:c.id≠o.id)(hco:1-c.id=o.id)(wa:a.wf)(okc:c.st.Ok)(oko:o.st.Ok)(hs1:c.seq<18446744073709551616):aOq c o a (doA c o a++A) G T:=by
 have sub:∀t∈A,t∈doA c o a++A:=λt ht=>zLk _ ht
 have D1:=D1.asked sub
 have D2:=D2.asked sub
 have subA:∀t∈doA c o a,t∈doA c o a++A:=λt ht=>zLj _ ht
 generalize doA c o a++A=A' at *
 obtain⟨w1,w2,w3,w4⟩:=wa.p
 rcases aI2 c o a with⟨k0,e,e1,e2,eA⟩|⟨k1,b,e,e1,eA⟩|⟨k2,e,e1,e2,eA⟩|⟨k3,e,e1,e2,eA⟩|⟨k4,e,e1,e2,eA⟩|⟨k5,e1⟩|⟨e1,e2⟩
 ·have gg:∀p,yP a (mB c o a).2.2.2 G p↔G p:=λp=>by unfold yP;rw[k0];simp
  have tt:∀p,aAa a (mB c o a).2.2.2 T p↔T p:=λp=>by unfold aAa;rw[k0];simp
  refine⟨?_,?_,λ_ h=>by omega,λ_ h=>by omega,λ_ h=>by omega⟩
  ·rw[e1];exact(D1.left (c':=c.sent (lJ c a.d a.h)) rfl rfl).gt (λp _=>gg p) (λp _=>tt p)
  ·rw[e1];exact(D2.put (o':=c.sent (lJ c a.d a.h)) (aVr c _).1 (aNw (by decide))).gt (λp _=>gg p) (λp _=>tt p)
 ·have gg:∀p,yP a (mB c o a).2.2.2 G p↔G p:=λp=>by unfold yP;rw[k1];simp
  have tt:∀p,aAa a (mB c o a).2.2.2 T p↔T p:=λp=>by unfold aAa;rw[k1];simp
  refine⟨?_,?_,λ_ h=>by omega,λ_ h=>by omega,λ_ h=>by omega⟩
  ·rw[e1];exact(D1.told a.h e (λt ht=>subA t (by rw[eA];exact ht))).gt (λp _=>gg p) (λp _=>tt p)
  ·rw[e1];exact(D2.right (o':=c.told (a.h:Int) (lO b)) rfl).gt (λp _=>gg p) (λp _=>tt p)
 ·obtain⟨r1,r2,r3,r4,r5,r6,r7⟩:=aKf e
  have hf:a.p.f=o.id:=by rw[r2,hco]
  have hth:=okc.h4
  have hw:IntKind.u64.wrap ((c.st.height:Int)+1)=(c.st.height:Int)+1:=by rw[iZ (by omega) (by omega)]
  have ht:(c.st.height:Int)+1<a.p.t:=by rw[←hw];exact r3
  have gg:∀p,yP a (mB c o a).2.2.2 G p↔(G p∨p=a.p):=λp=>by unfold yP;rw[k2,e2];simp
  have tt:∀p,aAa a (mB c o a).2.2.2 T p↔T p:=λp=>by unfold aAa;rw[k2];simp
  have nT:¬T a.p:=λh=>by
   have:=D2.tm a.p h hf
   omega
  refine⟨?_,?_,λ_ _=>⟨hf,by rw[e1];exact r3,nT⟩,λ_ h=>by omega,λ_ h=>by omega⟩
  ·rw[e1]
   refine(D1.left (c':=c.received a.p) rfl rfl).gt (λp hp=>?_) (λp _=>tt p)
   rw[gg p]
   constructor
   ·rintro(h|rfl)
    ·exact h
    ·exact absurd (show c.id=o.id by rw[←hf];exact hp.symm) hid
   ·exact .inl
  ·rw[e1]
   obtain⟨s1,s2,s3⟩:=aPv c a.p
   have hn:a.p.s.toNat<18446744073709551616:=by omega
   refine⟨λy hy=>D2.cl y hy |> λ⟨x,b,h1,h2,h3,h4⟩=>⟨x,b,h1,by rw[s1];exact h2,h3,h4⟩,λp hp hpf=>?_,?_,λp hp hpf=>by rw[s1];exact D2.tm p ((tt p).1 hp) hpf⟩
   ·rw[s1]
    rcases (gg p).1 hp with hp|rfl
    ·exact((D2.rk p hp hpf).put _ _).put _ _
    ·have h1:aIW (aKH c.st (jF 114 a.p.s.toNat) [1]) (jF 114 a.p.s.toNat) a.p.t:=⟨⟨⟨jF 114 a.p.s.toNat,[1]⟩,yA.2 (.inl rfl),rfl⟩,λx b hx htx=>by
      have h2:=aOs hx
      have h3:x≤c.st.height:=h2
      omega⟩
     exact h1.put _ _
   ·rw[s1]
    have base:aGY c.st (aOU o.id A' (yP a (mB c o a).2.2.2 G)):=D2.ak.mono λq hq n hn hk=>by
     obtain⟨p,h1,h2,h3⟩:=hq n hn hk
     exact⟨p,(gg p).2 (.inl h1),h2,h3⟩
    refine(base.put (aNw (by decide))).put λn hn' hk=>?_
    obtain⟨-,en⟩:=aUF hn hn' hk
    exact⟨a.p,(gg _).2 (.inr rfl),hf,en,rfl,r1,wa.p,λt ht=>subA t (by rw[eA];simp[ht])⟩
 ·obtain⟨r1,r2,r3,r4,r5⟩:=aDY (by unfold xU;simp) e
  have q1:=r4 (11,(lZ c.cl (a.h:Int)).isSome) (by unfold xU;simp)
  have q2:=r4 (9,aAM (qB c.cl (a.h:Int)) (mC o a) (jF 97 a.p.s.toNat) (aAv a.p)) (by unfold xU;simp)
  simp only at q1 q2
  obtain⟨b,hb,eb,hbA⟩:=D1.root q1
  rw[eb] at q2
  have hm:=aSB (oko.mok hb) U (λt ht=>subA t (by rw[eA];simp[ht])) hbA q2
  have hn:a.p.s.toNat<18446744073709551616:=by omega
  obtain⟨p,g1,g2,g3,g4,g5,g6,g7⟩:=D1.ak.2 b (aVA hb) _ hm _ hn rfl
  have ebs:=aUR r1 g5 U (λt ht=>subA t (by rw[eA];simp[ht])) g7 g4
  have ep:a.p=p:=Pk.bs_inj r1 g5 wa.p g6 ebs
  have gg:∀p,yP a (mB c o a).2.2.2 G p↔G p:=λp=>by unfold yP;rw[k3];simp
  have tt:∀p,aAa a (mB c o a).2.2.2 T p↔T p:=λp=>by unfold aAa;rw[k3];simp
  refine⟨?_,?_,λ_ h=>by omega,λ_ _=>⟨r2,by rw[ep];exact g1⟩,λ_ h=>by omega⟩
  ·rw[e1];exact(D1.left (c':=c.settled 3 a.p) rfl rfl).gt (λp _=>gg p) (λp _=>tt p)
  ·rw[e1];exact(D2.del (o':=c.settled 3 a.p) (aMe c 3 a.p).1).gt (λp _=>gg p) (λp _=>tt p)
 ·obtain⟨r1,r2,r3,r4,r5⟩:=aDY (by unfold qZ;simp) e
  have q0:=r4 (11,decide (IntKind.u64.wrap (a.p.t-1)≤(a.h:Int))) (by unfold qZ;simp)
  have q1:=r4 (11,(lZ c.cl (a.h:Int)).isSome) (by unfold qZ;simp)
  have q2:=r4 (9,aAU (qB c.cl (a.h:Int)) (mC o a) (jF 114 a.p.s.toNat)) (by unfold qZ;simp)
  simp only[decide_eq_true_eq] at q0 q1 q2
  have ht0:0<a.p.t:=by
   have:=(Pk.right_iff.1 r1).2.2.2.1
   omega
  rw[aVX ht0 w4] at q0
  obtain⟨b,hb,eb,hbA⟩:=D1.root q1
  rw[eb] at q2
  have hl:=aPt (oko.mok hb) U (λt ht=>subA t (by rw[eA];simp[ht])) hbA q2
  have nG:¬G a.p:=λh=>by
   obtain⟨q,hq,ek⟩:=(D1.rk a.p h r2).2 a.h b hb (by omega)
   exact hl q hq ek
  have hle:=aOs hb
  have gg:∀p,yP a (mB c o a).2.2.2 G p↔G p:=λp=>by unfold yP;rw[k4];simp
  have tt:∀p,aAa a (mB c o a).2.2.2 T p↔(T p∨p=a.p):=λp=>by unfold aAa;rw[k4,e2];simp
  refine⟨?_,?_,λ_ h=>by omega,λ_ h=>by omega,λ_ _=>⟨r2,nG⟩⟩
  ·rw[e1]
   have D:=D1.left (c':=c.settled 4 a.p) rfl rfl
   refine⟨D.cl,λp hp hf=>D.rk p ((gg p).1 hp) hf,D.ak.mono λq hq n hn hk=>?_,λp hp hf=>?_⟩
   ·obtain⟨p,h1,h2⟩:=hq n hn hk
    exact⟨p,(gg p).2 h1,h2⟩
   ·rcases (tt p).1 hp with hp|rfl
    ·exact D.tm p hp hf
    ·omega
  ·rw[e1]
   refine(D2.del (o':=c.settled 4 a.p) (aMe c 4 a.p).1).gt (λp _=>gg p) (λp hp=>?_)
   rw[tt p]
   constructor
   ·rintro(h|rfl)
    ·exact h
    ·exact absurd (show c.id=o.id by rw[←hp];exact r2.symm) hid
   ·exact .inl
 ·have gg:∀p,yP a (mB c o a).2.2.2 G p↔G p:=λp=>by unfold yP;rw[k5];simp
  have tt:∀p,aAa a (mB c o a).2.2.2 T p↔T p:=λp=>by unfold aAa;rw[k5];simp
  obtain⟨s1,s2,s3⟩:=aGS c
  refine⟨?_,?_,λ_ h=>by omega,λ_ h=>by omega,λ_ h=>by omega⟩
  ·rw[e1];exact(D1.left s3 s2).gt (λp _=>gg p) (λp _=>tt p)
  ·rw[e1];exact(D2.com okc).gt (λp _=>gg p) (λp _=>tt p)
 ·have gg:∀p,yP a (mB c o a).2.2.2 G p↔G p:=λp=>by
   unfold yP
   constructor
   ·rintro(h|⟨h1,h2,-⟩)
    ·exact h
    ·have:=e2 h1;omega
   ·exact .inl
  have tt:∀p,aAa a (mB c o a).2.2.2 T p↔T p:=λp=>by
   unfold aAa
   constructor
   ·rintro(h|⟨h1,h2,-⟩)
    ·exact h
    ·have:=e2 h1;omega
   ·exact .inl
  refine⟨?_,?_,λh1 h=>by have:=e2 h1;omega,λh1 h=>by have:=e2 h1;omega,λh1 h=>by have:=e2 h1;omega⟩
  ·rw[e1];exact D1.gt (λp _=>gg p) (λp _=>tt p)
  ·rw[e1];exact D2.gt (λp _=>gg p) (λp _=>tt p)
def aEe(d0 d1:Nat):List Value:=[pT d0 0,pT d1 0]
def dCh(b m:Nat)(A:List Tx)(K:List Nat)(c:Nat)(s:Ch)(n:Nat):mO:=gF (rM b m A K) (DC c b s n)
def dRe(t:Nat)(cs:List Value)(o b:Nat)(so:Ch)(n:Nat):mO:=gF (rH t cs) (DC o b so n)
theorem dCh.good(b m:Nat)(A:List Tx)(K:List Nat)(c:Nat)(s:Ch)(n:Nat):mU (dCh b m A K c s n):=(rM.good _ _ _ _).star (DC.good _ _ _ _)
theorem dRe.good(t:Nat)(cs:List Value)(o b:Nat)(so:Ch)(n:Nat):mU (dRe t cs o b so n):=(rH.good _ _).star (DC.good _ _ _ _)
theorem dRe.mono{t:Nat}{cs:List Value}{o b:Nat}{so:Ch}{n n':Nat}(hn:n≤n'){h:PH}{F:List Nat}(H:dRe t cs o b so n h F):dRe t cs o b so n' h F:=by
 obtain⟨Fa,Fb,rfl,hx,hy,hd⟩:=H
 exact⟨Fa,Fb,rfl,hx,hy.mono hn,hd⟩
theorem dCh.mono{b m:Nat}{A:List Tx}{K:List Nat}{c:Nat}{s:Ch}{n n':Nat}(hn:n≤n'){h:PH}{F:List Nat}(H:dCh b m A K c s n h F):dCh b m A K c s n' h F:=by
 obtain⟨Fa,Fb,rfl,hx,hy,hd⟩:=H
 exact⟨Fa,Fb,rfl,hx,hy.mono hn,hd⟩
theorem gF.imp{A B A' B':mO}{h:PH}{F:List Nat}(H:gF A B h F)(ha:∀G,A h G->A' h G)(hb:∀G,B h G->B' h G):gF A' B' h F:=by
 obtain⟨Fa,Fb,rfl,hx,hy,hd⟩:=H
 exact⟨Fa,Fb,rfl,ha _ hx,hb _ hy,hd⟩
theorem aUT{h:PH}{F:List Nat}{b m:Nat}{A:List Tx}{K:List Nat}{c o t:Nat}{cs2:List Value}{s so:Ch}{n:Nat}(H:gF (dCh b m A K c s n) (dRe t cs2 o b so n) h F)(w:s.DOk)(hn:n≤10000){a:lV}(wa:a.wf)(hd64:a.d.length≤1000000){r1 r3:Nat}(B1:Bx h r1 a.cells)(n1:r1∉F){cs:List Value}(hcs:cs.length=4)(B3:Bx h r3 cs)(n3:r3∉F){R:eJ}
  (hR:∀h' F',gF (dCh b m (doA s so a++A) K c (mB s so a).1 (n+1)) (dRe t cs2 o b so (n+1)) h' F'->eW (r3::F) h h'->(∀b∈F',b∈F∨h b=none)->R (.tuple #[(mB s so a).2.1.v,.int .u64 ((mB s so a).2.2.1:Int),.int .i64 (mB s so a).2.2.2]) h'):
  pG R (pT r1 0) (pT r3 0) (pT c 0) (pT o 0) (.string (tx (mC so a))) h:=by
 unfold pG
 have gC:=λA s n=>dCh.good b m A K c s n
 have gR:=λn=>dRe.good t cs2 o b so n
 have fin:∀{h1:PH} {F1:List Nat} {A':List Tx} {s':Ch} {n':Nat} {pk:Pk} {hh:Nat} {e:Int},gF (dCh b m A' K c s' n') (dRe t cs2 o b so n) h1 F1->n'≤n+1->(∀a'∈doA s so a++A,a'∈A')->jZ h F h1 F1->mB s so a=(s',(pk,hh,e))->eZ PG (fQ bR (pT r3 0) pk.v) h1 λ_ h80=>aR (bT PG h80 (loadAt bR (pT r3 0))) λv81=>R (.tuple #[v81,.int .u64 (hh:Int),.int .i64 e]) h80:=by
  intro h1 F1 A' s' n' pk hh e H1 hn' hA s1 ed
  have B31:=B3.upd s1.upd n3
  refine bR.put (vs:=pk.cells) B31 (o:=0) rfl (by omega) (Pk.isC _) λh2 B2 u2=>?_
  have l2:bT PG h2 (loadAt bR (pT r3 0))=some pk.v:=B2.pk (by simp[Pk.cells])
  simp only[l2,eK,reduceIte,eX,Nat.reduceAdd]
  have m3:r3∉F1:=λhm=>by
   rcases s1.grow _ hm with hx|hx
   ·exact n3 hx
   ·exact B3.known hx
  rw[ed] at hR
  have H2:=((gC A' s' n').star (gR n)).upd H1 u2 (λb hb hb'=>by simp only[iQ] at hb';exact m3 (hb'▸hb))
  exact hR h2 F1 (gF.imp H2 (λG hG=>dCh.mono hn' (rM.mono hG hA)) (λG hG=>dRe.mono (aCP n) hG)) (λb ob hb hn=>by
   simp only[jG,not_or] at hn
   exact u2 b ob (s1.upd b ob hb hn.2) (by simpa using hn.1)) s1.grow
 have lk:bT PG h (loadAt dR (pT r1 0))=some (.int .i64 a.kind):=by rw[dR.load,B1.cell];rfl
 have lh:∀{h':PH},Bx h' r1 a.cells->bT PG h' (loadAt dT (pT r1 2))=some (.int .u64 (a.h:Int)):=λB=>by rw[dT.load,B.cell];rfl
 have ld:bT PG h (loadAt cT (pT r1 3))=some (.string (tx a.d)):=by rw[cT.load,B1.cell];rfl
 have lp:bT PG h (loadAt bR (pT r1 4))=some a.p.v:=B1.pk rfl
 have hpf:=aUZ so hd64
 obtain⟨Fa,HA,hFa,back⟩:=gF.left (gR n) H
 have back:∀{A':List Tx} {s':Ch} {n':Nat} {h':PH} {Fa':List Nat},gF (rM b m A' K) (DC c b s' n') h' Fa'->jZ h Fa h' Fa'->∃F',gF (dCh b m A' K c s' n') (dRe t cs2 o b so n) h' F'∧jZ h F h' F':=fun {A' s' n' h' Fa'} HX st=>back (dCh b m A' K c s' n') h' Fa' HX st
 have hdd:mB s so a=if a.kind=0 then(if sJ s a.d a.h=0 then(s.sent (lJ s a.d a.h),(lJ s a.d a.h,0,0)) else(s,(default,0,sJ s a.d a.h)))
   else if a.kind=1 then(match tY so.st a.h with
    | none=>(s,(default,0,3))
    | some b=>(s.told (a.h:Int) (lO b),(default,0,(aAw s.cl ⟨(a.h:Int),tx (lO b)⟩).1)))
   else if a.kind=2 then(if pZ s (qJ s a.p (mC so a) (a.h:Int))=0 then(s.received a.p,(default,0,0)) else(s,(default,0,pZ s (qJ s a.p (mC so a) (a.h:Int)))))
   else if a.kind=3 then(if kJ s a.p (xU s a.p (mC so a) (a.h:Int))=0 then(s.settled 3 a.p,(default,0,0)) else(s,(default,0,kJ s a.p (xU s a.p (mC so a) (a.h:Int)))))
   else if a.kind=4 then(if kJ s a.p (qZ s a.p (mC so a) (a.h:Int))=0 then(s.settled 4 a.p,(default,0,0)) else(s,(default,0,kJ s a.p (qZ s a.p (mC so a) (a.h:Int)))))
   else if a.kind=5 then(s.committed,(default,(lF s.st).2.1,(lF s.st).2.2))
   else(s,(default,0,0)):=rfl
 have hda:doA s so a=if a.kind=0 then(if sJ s a.d a.h=0 then tW (lJ s a.d a.h) else [])
  else if a.kind=1 then(match tY so.st a.h with
   | none=>[]
   | some b=>xG b)
  else if a.kind=2 then(if pZ s (qJ s a.p (mC so a) (a.h:Int))=0 then aFb a.p++(aFv (mC so a)++tW a.p) else [])
  else if a.kind=3 then(if kJ s a.p (xU s a.p (mC so a) (a.h:Int))=0 then aFv (mC so a)++(aFb a.p++tW a.p) else [])
  else if a.kind=4 then(if kJ s a.p (qZ s a.p (mC so a) (a.h:Int))=0 then aHp (mC so a) (jF 114 a.p.s.toNat)++tW a.p else [])
  else []:=rfl
 by_cases k0:a.kind=0
 ·have q:(a.kind==0)=true:=by simp[k0]
  rw[if_pos k0] at hdd hda
  simp only[eI.f0,eI.f2,eI.f3,iG,lk,ld,lh B1,jO,q,eK,reduceIte,eX,Nat.reduceAdd]
  have last:∀{h1:PH} {F1:List Nat} {A':List Tx} {s':Ch} {n':Nat} {pk:Pk} {e:Int},gF (dCh b m A' K c s' n') (dRe t cs2 o b so n) h1 F1->n'≤n+1->(∀a'∈doA s so a++A,a'∈A')->jZ h F h1 F1->mB s so a=(s',(pk,0,e))->∀r74,h1 r74=none->fZ (PH.set h1 r74 (.cells (fY PG bR) bR)) λh75=>
    eZ PG (fQ bR (pT r74 0) pk.v) h75 λv76 h77=>
    aR (bT PG h77 (loadAt bR (pT r74 0))) λv78=>
    eZ PG (fQ bR (pT r3 0) v78) h77 λv79 h80=>
    aR (bT PG h80 (loadAt bR (pT r3 0))) λv81=>
    R (.tuple #[v81,(Value.int IntKind.u64 0),.int .i64 e]) h80:=by
   intro h1 F1 A' s' n' pk e H1 hn' hA s1 ed r74 hr74
   try rw[eY]
   refine bR.fill (vs:=pk.cells) hr74 rfl (Pk.isC _) λh2 B2 u2=>?_
   have l2:bT PG h2 (loadAt bR (pT r74 0))=some pk.v:=B2.pk rfl
   simp only[l2,eK,reduceIte,eX,Nat.reduceAdd]
   exact fin (hh:=0) (((gC A' s' n').star (gR n)).ext H1 u2) hn' hA (s1.trans (jZ.ext u2)) ed
  refine aT7 HA w hn a.d hd64 wa.h (λhe h1 H1 s1=>?_) (λhe h1 F1 H1 s1=>?_)
  ·rw[if_neg he] at hdd hda
   obtain⟨F2,W2,s2⟩:=back H1 s1
   have:=last W2 (aCP n) (by rw[hda];exact λ_ h=>h) s2 hdd
   simp only[eK,reduceIte,eX,Nat.reduceAdd] at this ⊢
   exact this
  ·rw[if_pos he] at hdd hda
   obtain⟨F2,W2,s2⟩:=back H1 s1
   have:=last W2 (sL _) (by rw[hda];exact λ_ h=>h) s2 hdd
   simp only[eK,reduceIte,eX,Nat.reduceAdd] at this ⊢
   exact this
 have q0:(a.kind==0)=false:=by simp[k0]
 rw[if_neg k0] at hdd hda
 by_cases k1:a.kind=1
 ·have q:(a.kind==1)=true:=by simp[k1]
  rw[if_pos k1] at hdd hda
  obtain⟨Fcd,HCd,HB,eFa,hdis⟩:=aEU HA
  obtain⟨sp,cp,bv,nv,PC⟩:=id HCd
  obtain⟨Fo,HO,hFo⟩:∃Fo,DC o b so n h Fo∧∀x∈Fo,x≠b∧x≠m:=by
   obtain⟨Fc,Fr,eF,HC,⟨Ft,Fo,eFr,-,HO,dto⟩,dcr⟩:=id H
   obtain⟨Fcd,-,-,eFc,-⟩:=aEU HC
   refine⟨Fo,HO,λx hx=>?_⟩
   have h1:x∈Fr:=by rw[eFr];exact zLk _ hx
   refine⟨λe=>?_,λe=>?_⟩
   ·exact dcr b (by rw[eFc];simp) (e▸h1)
   ·exact dcr m (by rw[eFc];simp) (e▸h1)
  obtain⟨osp,ocp,obv,onv,PO⟩:=id HO
  obtain⟨Fs,⟨G,St,eFs⟩,hFs,-⟩:=PO.fSt
  obtain⟨cc,A0,HBk,hAA⟩:=id HB
  have hGb:∀x∈G,x≠b∧x≠m:=λx hx=>hFo x (hFs x (by rw[eFs];simp[hx]))
  have n1b:r1∉[b,m]:=λhm=>by
   simp only[jG,mD,or_false] at hm
   rcases hm with rfl|rfl
   ·exact n1 (hFa _ (by rw[eFa];simp))
   ·exact n1 (hFa _ (by rw[eFa];simp))
  simp only[eI.f0,eI.f2,eV.f0,eV.f2,iG,lk,lh B1,dl0 PC.cell,dl2 PO.cell,jO,q0,q,eK,reduceIte,eX,Nat.reduceAdd]
  refine aSx St HBk hGb a.h wa.h (λe=>?_) (λl h1 c' e HB1 _ u1=>?_)
  ·rw[e] at hdd hda
   obtain⟨F2,W2,s2⟩:=back HA jZ.refl
   have qe:((3:Int) !=0)=true:=by decide
   simp only[lR,qe,Pk.zb,eK,reduceIte,eX,Nat.reduceAdd]
   exact fin (hh:=0) W2 (aCP n) (by rw[hda];exact λ_ h=>h) s2 hdd
  ·rw[e] at hdd hda
   have HB2:Bk b m (xG l++A) K h1:=⟨c',_,HB1,λx hx=>by
    rcases kR.1 hx with hx|hx
    ·simp[hx]
    ·simp[hAA x hx]⟩
   obtain⟨-,s1⟩:=aGm (DC.good c b s n) HA HB2 u1
   have P1:=nZ.good.upd PC u1 (aKh hdis)
   have C1:=B1.upd u1 n1b
   simp only[lR,Pk.zb,eI.f2,eV.f3,iG,lh C1,dl3 P1.cell,eK,reduceIte,eX,Nat.reduceAdd]
   refine aTh P1 w.few (a.h:Int) (lO l) λh2 F2 P2 s2=>?_
   obtain⟨W2,sW2⟩:=aGq (X':=DC c b (s.told (a.h:Int) (lO l)) n) HB2 hdis ⟨sp,cp,bv,nv,P2⟩ s2
   rw[←eFa] at sW2
   obtain⟨F3,W3,s3⟩:=back W2 (s1.trans sW2)
   have:=fin (hh:=0) W3 (aCP n) (by rw[hda];exact λ_ h=>h) s3 hdd
   exact this
 have q1:(a.kind==1)=false:=by simp[k1]
 rw[if_neg k1] at hdd hda
 by_cases k2:a.kind=2
 ·have q:(a.kind==2)=true:=by simp[k2]
  rw[if_pos k2] at hdd hda
  simp only[eI.f0,eI.f2,eI.f4,iG,lk,lh B1,lp,jO,q0,q1,q,Pk.zb,eK,reduceIte,eX,Nat.reduceAdd]
  have erc:aIp s a.p (mC so a) (a.h:Int)=pZ s (qJ s a.p (mC so a) (a.h:Int)):=rfl
  refine aTI HA w hn wa.p hpf wa.h (λhe h1 H1 s1=>?_) (λhe h1 F1 H1 s1=>?_)
  ·rw[erc] at he ⊢
   rw[if_neg he] at hdd hda
   obtain⟨F2,W2,s2⟩:=back H1 s1
   exact fin (hh:=0) W2 (aCP n) (by rw[hda];exact λ_ h=>h) s2 hdd
  ·rw[erc] at he
   rw[if_pos he] at hdd hda
   obtain⟨F2,W2,s2⟩:=back H1 s1
   exact fin (hh:=0) W2 (sL _) (by rw[hda];exact λ_ h=>h) s2 hdd
 have q2:(a.kind==2)=false:=by simp[k2]
 rw[if_neg k2] at hdd hda
 by_cases k3:a.kind=3
 ·have q:(a.kind==3)=true:=by simp[k3]
  rw[if_pos k3] at hdd hda
  simp only[eI.f0,eI.f2,eI.f4,iG,lk,lh B1,lp,jO,q0,q1,q2,q,Pk.zb,eK,reduceIte,eX,Nat.reduceAdd]
  refine aU1 HA w hn wa.p hpf wa.h (λhe h1 H1 s1=>?_) (λhe h1 F1 H1 s1=>?_)
  ·rw[if_neg he] at hdd hda
   obtain⟨F2,W2,s2⟩:=back H1 s1
   exact fin (hh:=0) W2 (aCP n) (by rw[hda];exact λ_ h=>h) s2 hdd
  ·rw[if_pos he] at hdd hda
   obtain⟨F2,W2,s2⟩:=back H1 s1
   exact fin (hh:=0) W2 (sL _) (by rw[hda];exact λ_ h=>h) s2 hdd
 have q3:(a.kind==3)=false:=by simp[k3]
 rw[if_neg k3] at hdd hda
 by_cases k4:a.kind=4
 ·have q:(a.kind==4)=true:=by simp[k4]
  rw[if_pos k4] at hdd hda
  simp only[eI.f0,eI.f2,eI.f4,iG,lk,lh B1,lp,jO,q0,q1,q2,q3,q,Pk.zb,eK,reduceIte,eX,Nat.reduceAdd]
  refine aP1 HA w hn wa.p hpf wa.h (λhe h1 H1 s1=>?_) (λhe h1 F1 H1 s1=>?_)
  ·rw[if_neg he] at hdd hda
   obtain⟨F2,W2,s2⟩:=back H1 s1
   exact fin (hh:=0) W2 (aCP n) (by rw[hda];exact λ_ h=>h) s2 hdd
  ·rw[if_pos he] at hdd hda
   obtain⟨F2,W2,s2⟩:=back H1 s1
   exact fin (hh:=0) W2 (sL _) (by rw[hda];exact λ_ h=>h) s2 hdd
 have q4:(a.kind==4)=false:=by simp[k4]
 rw[if_neg k4] at hdd hda
 by_cases k5:a.kind=5
 ·have q:(a.kind==5)=true:=by simp[k5]
  rw[if_pos k5] at hdd
  simp only[eI.f0,iG,lk,jO,q0,q1,q2,q3,q4,q,eK,reduceIte,eX,Nat.reduceAdd]
  obtain⟨Fcd,HCd,HB,eFa,hdis⟩:=aEU HA
  refine aTe HCd hn λh1 F1 H1 s1=>?_
  obtain⟨W1,sW1⟩:=aGq HB hdis H1 s1
  rw[←eFa] at sW1
  obtain⟨F2,W2,s2⟩:=back W1 sW1
  simp only[Pk.zb,eK,reduceIte,eX,Nat.reduceAdd]
  exact fin W2 (sL _) (by rw[hda];exact λ_ h=>h) s2 hdd
 ·have q:(a.kind==5)=false:=by simp[k5]
  rw[if_neg k5] at hdd
  obtain⟨F2,W2,s2⟩:=back HA jZ.refl
  simp only[eI.f0,iG,lk,jO,q0,q1,q2,q3,q4,q,Pk.zb,eK,reduceIte,eX,Nat.reduceAdd]
  exact fin (hh:=0) W2 (aCP n) (by rw[hda];exact λ_ h=>h) s2 hdd
theorem gF.flip{A B C D:mO}{h:PH}{F:List Nat}(H:gF (gF A B) (gF C D) h F):∃F',gF (gF A D) (gF C B) h F'∧∀x,x∈F'↔x∈F:=by
 obtain⟨Fx,Fy,rfl,⟨Fa,Fb,rfl,ha,hb,d1⟩,⟨Fc,Fd,rfl,hc,hd,d2⟩,d3⟩:=H
 refine⟨(Fa++Fd)++(Fc++Fb),⟨Fa++Fd,Fc++Fb,rfl,⟨Fa,Fd,rfl,ha,hd,λx hx hx'=>d3 x (by simp[hx]) (by simp[hx'])⟩,⟨Fc,Fb,rfl,hc,hb,λx hx hx'=>d3 x (by simp[hx']) (by simp[hx])⟩,λx hx hx'=>?_⟩,λx=>?_⟩
 ·rcases kR.1 hx with hx|hx
  ·rcases kR.1 hx' with hx'|hx'
   ·exact d3 x (by simp[hx]) (by simp[hx'])
   ·exact d1 x hx hx'
  ·rcases kR.1 hx' with hx'|hx'
   ·exact d2 x hx' hx
   ·exact d3 x (by simp[hx']) (by simp[hx])
 ·simp only[kR]
  constructor
  ·rintro((h|h)|(h|h))<;>simp[h]
  ·rintro((h|h)|(h|h))<;>simp[h]
def DTw(t d0 d1 b m:Nat)(A:List Tx)(K:List Nat)(s0 s1:Ch)(n:Nat):mO:=gF (dCh b m A K d0 s0 n) (dRe t (aEe d0 d1) d1 b s1 n)
theorem DTw.good(t d0 d1 b m:Nat)(A:List Tx)(K:List Nat)(s0 s1:Ch)(n:Nat):mU (DTw t d0 d1 b m A K s0 s1 n):=(dCh.good _ _ _ _ _ _ _).star (dRe.good _ _ _ _ _ _)
theorem aTm{r o i:Nat}(hi:i<2):aT PG (indexAt lG (pT r o) (.int .i64 (i:Int)))=some (pT r (o+i)):=by
 have ix:=aA5 (P:=PG) (t:=lG) (b:=r) (o:=o) (k:=.i64) (j:=(i:Int)) lG.und jB.info jB.size (by omega) (by omega)
 rw[ix,sM,Nat.mul_one]
noncomputable def twA(a b:Ch)(x:lV):List Tx:=if x.id=1 then doA b a x else doA a b x
theorem aTL{t d0 d1 b m:Nat}{A:List Tx}{K:List Nat}{s0 s1:Ch}{n:Nat}{h:PH}{F:List Nat}(H:DTw t d0 d1 b m A K s0 s1 n h F)(x:lV):∃(c o:Nat) (s so:Ch) (F1:List Nat),gF (dCh b m A K c s n) (dRe t (aEe d0 d1) o b so n) h F1∧(∀y,y∈F1↔y∈F)∧(aEe d0 d1)[oD x.id]? =some (pT c 0)∧(aEe d0 d1)[1-oD x.id]? =some (pT o 0)∧(s=s0∨s=s1)∧(mB s so x).2=(iU s0 s1 x).2∧doA s so x=twA s0 s1 x∧
  ∀(A':List Tx) (n':Nat) (h':PH) (F':List Nat),gF (dCh b m A' K c (mB s so x).1 n') (dRe t (aEe d0 d1) o b so n') h' F'->∃F'',DTw t d0 d1 b m A' K (iU s0 s1 x).1.1 (iU s0 s1 x).1.2 n' h' F''∧∀y,y∈F''↔y∈F':=by
 by_cases e:x.id=1
 ·have e1:oD x.id=1:=by unfold oD;rw[if_pos e]
  obtain⟨F1,H1,hF⟩:=gF.flip H
  refine⟨d1,d0,s1,s0,F1,H1,hF,by rw[e1];rfl,by rw[e1];rfl,.inr rfl,?_,?_,λA' n' h' F' H'=>?_⟩
  ·unfold iU;rw[if_pos e]
  ·unfold twA;rw[if_pos e]
  ·obtain⟨F2,H2,hF2⟩:=gF.flip H'
   refine⟨F2,?_,hF2⟩
   unfold iU
   rw[if_pos e]
   exact H2
 ·have e1:oD x.id=0:=by unfold oD;rw[if_neg e]
  refine⟨d0,d1,s0,s1,F,H,λy=>Iff.rfl,by rw[e1];rfl,by rw[e1];rfl,.inl rfl,?_,?_,λA' n' h' F' H'=>⟨F',?_,λy=>Iff.rfl⟩⟩
  ·unfold iU;rw[if_neg e]
  ·unfold twA;rw[if_neg e]
  ·unfold iU
   rw[if_neg e]
   exact H'
theorem aWE{h:PH}{t d0 d1 b m:Nat}{A:List Tx}{K:List Nat}{s0 s1:Ch}{n:Nat}{F:List Nat}(H:DTw t d0 d1 b m A K s0 s1 n h F)(w0:s0.DOk)(w1:s1.DOk)(hn:n≤10000){x:lV}(wx:x.wf)(hd64:x.d.length≤1000000){kk:eJ}
  (hk:∀h' F',DTw t d0 d1 b m (twA s0 s1 x++A) K (iU s0 s1 x).1.1 (iU s0 s1 x).1.2 (n+1) h' F'->jZ h F h' F'->kk (.tuple #[(iU s0 s1 x).2.1.v,.int .u64 ((iU s0 s1 x).2.2.1:Int),.int .i64 (iU s0 s1 x).2.2.2]) h'):
  cR PG xJ #[pT t 0,x.v] h kk:=by
 apply rT.call
 unfold rT
 obtain⟨c,o,s,so,F1,S,hF,hc,ho,hs,e2,eA,hW⟩:=aTL H x
 have w:s.DOk:=by rcases hs with rfl|rfl<;>assumption
 have gC:=λA s n=>dCh.good b m A K c s n
 have gR:=λn=>dRe.good t (aEe d0 d1) o b so n
 have gS:=λA s n n'=>(gC A s n).star (gR n')
 intro r1 hr1
 try rw[eY]
 have u1:fE h (h.set r1 (.cells (Value.cells x.v) eI)):=eW.new hr1
 have B1:Bx (h.set r1 (.cells (Value.cells x.v) eI)) r1 x.cells:=Bx.new
 generalize h.set r1 (.cells (Value.cells x.v) eI)=h1 at *
 intro r3 hr3
 try rw[eY]
 have u3:fE h1 (h1.set r3 (.cells (fY PG bR) bR)):=eW.new hr3
 have Z3:=bR.zbox (h:=h1) (r:=r3)
 have C1:=B1.ext u3
 generalize h1.set r3 (.cells (fY PG bR) bR)=h3 at *
 have e3:=u1.trans u3
 have k1:h r1=none:=hr1
 have k3:h r3=none:=u1.none hr3
 have kS:=(gS A s n n).known S
 have n1:r1∉F1:=λhm=>kS _ hm k1
 have n3:r3∉F1:=λhm=>kS _ hm k3
 have li:∀{h'':PH},fE h3 h''->bT PG h'' (loadAt dR (pT r1 1))=some (.int .i64 x.id):=λv=>by rw[dR.load,(C1.ext v).cell];rfl
 have hsd:=aND x.id
 have w1:IntKind.i64.wrap (1-((oD x.id:Nat):Int))=((1-oD x.id:Nat):Int):=by rw[gD (by omega) (by omega)];omega
 have S3:=(gS A s n n).ext S e3
 obtain⟨Fc,Fr,eF,HC,⟨Ft,Fo,eFr,⟨-,Bt⟩,HO,-⟩,dcr⟩:=id S3
 have lc:bT PG h3 (loadAt jB (pT t (oD x.id)))=some (pT c 0):=by rw[jB.load,Bt.cell];exact hc
 have lo:bT PG h3 (loadAt jB (pT t (1-oD x.id)))=some (pT o 0):=by rw[jB.load,Bt.cell];exact ho
 have ix1:=aTm (r:=t) (o:=0) (i:=oD x.id) hsd
 have ix2:=aTm (r:=t) (o:=0) (i:=1-oD x.id) (by omega)
 rw[iG] at ix1 ix2
 have lk:bT PG h3 (loadAt dR (pT r1 0))=some (.int .i64 x.kind):=by rw[dR.load,C1.cell];rfl
 have lh:∀{h'':PH},fE h3 h''->bT PG h'' (loadAt dT (pT r1 2))=some (.int .u64 (x.h:Int)):=λv=>by rw[dT.load,(C1.ext v).cell];rfl
 have ld:bT PG h3 (loadAt cT (pT r1 3))=some (.string (tx x.d)):=by rw[cT.load,C1.cell];rfl
 have lsp:bT PG h3 (loadAt iV (pT r1 8))=some (.bool x.sp):=by rw[iV.load,C1.cell];rfl
 have lx:bT PG h3 (loadAt eI (pT r1 0))=some x.v:=eI.agg C1 (by show 0+9≤9;decide)
 -- the second half
 have tail:∀{h5:PH},gF (dCh b m A K c s n) (dRe t (aEe d0 d1) o b so n) h5 F1->jZ h3 F1 h5 F1->pG kk (pT r1 0) (pT r3 0) (pT c 0) (pT o 0) (.string (tx (mC so x))) h5:=by
  intro h5 S5 s5
  refine aUT S5 w hn wx hd64 (C1.upd s5.upd n1) n1 rfl (Z3.upd s5.upd n3) n3 λh6 F6 W6 u6 g6=>?_
  rw[e2]
  rw[eA] at W6
  obtain⟨F7,W7,hF7⟩:=hW _ _ _ _ W6
  refine hk h6 F7 W7 ⟨λbk ob hb hn=>u6 bk ob (s5.upd bk ob (e3.get hb) (λhm=>hn ((hF bk).1 hm))) (λhm=>?_),λbk hb=>?_⟩
  ·rcases jG.1 hm with rfl|hm
   ·rw[k3] at hb;cases hb
   ·exact hn ((hF bk).1 hm)
  ·rcases g6 bk ((hF7 bk).1 hb) with hx|hx
   ·exact .inl ((hF bk).1 hx)
   ·refine .inr ?_
    by_cases hm:bk∈F1
    ·exact absurd hx ((gS A s n n).known S5 bk hm)
    ·cases hh:h bk with
     | none=>rfl
     | some ob=>
      have:=s5.upd bk ob (e3.get hh) hm
      rw[hx] at this;cases this
 simp only[eI.f1,lN.f0,iG,li eW.refl,eK,reduceIte,eX,Nat.reduceAdd]
 refine aLP x.id ?_
 refine⟨li eW.refl,?_⟩
 simp only[ix1,lc,eK,reduceIte,eX,Nat.reduceAdd]
 refine aLP x.id ?_
 refine⟨lc,?_⟩
 simp only[w1,ix2,lo,eI.f0,eI.f2,eI.f3,eI.f5,iG,ld,lsp,eK,reduceIte,eX,Nat.reduceAdd]
 have plain:¬(x.sp=false∧2≤x.kind∧x.kind≤4)->pG kk (pT r1 0) (pT r3 0) (pT c 0) (pT o 0) (.string (tx x.d)) h3:=λhn=>by
  have:=tail (h5:=h3) S3 jZ.refl
  unfold mC at this
  rw[if_neg hn] at this
  exact this
 cases hsp:x.sp with
 | true=>
  simp only[eK,reduceIte,eX,Nat.reduceAdd]
  exact plain (by rw[hsp];simp)
 | false=>
  by_cases k2:2≤x.kind
  ·have g1:=eq_true k2
   by_cases k4:x.kind≤4
   ·have g2:=eq_true k4
    simp only[eI.f0,eI.f2,iG,lk,g1,g2,lx,lh eW.refl,eK,reduceIte,eX,Nat.reduceAdd]
    refine aN4 wx λh4 u4=>?_
    refine⟨lh u4,?_⟩
    obtain⟨Fcd,HCd,HB,eFc,hdis⟩:=aEU HC
    obtain⟨osp,ocp,obv,onv,PO⟩:=id HO
    have hob:∀y∈Fo,y∉[b,m]:=λy hy hm=>by
     have h1:y∈Fr:=by rw[eFr];exact zLk _ hy
     simp only[jG,mD,or_false] at hm
     rcases hm with rfl|rfl
     ·exact dcr _ (by rw[eFc];simp) h1
     ·exact dcr _ (by rw[eFc];simp) h1
    refine aSt (s:=so) (n:=n) (HB.ext u4) (nZ.good.ext PO u4) hob (aIC x) wx.h λh5 B5 u5=>?_
    simp only[eK,reduceIte,eX,Nat.reduceAdd]
    have hbm:∀y∈[b,m],y∈F1:=λy hy=>by
     rw[eF,eFc]
     simp only[jG,mD,or_false] at hy
     rcases hy with rfl|rfl<;>simp
    have S5:gF (dCh b m A K c s n) (dRe t (aEe d0 d1) o b so n) h5 F1:=by
     have S4:=(gS A s n n).ext S3 u4
     obtain⟨Gc,Gr,eG,HC4,HR4,dcr4⟩:=S4
     obtain⟨HC5,-⟩:=aGm (DC.good c b s n) HC4 B5 u5
     refine⟨Gc,Gr,eG,HC5,(gR n).upd HR4 u5 (λy hy hm=>?_),dcr4⟩
     obtain⟨Fz,_,_,eGc,_⟩:=aEU HC4
     simp only[jG,mD,or_false] at hm
     rcases hm with rfl|rfl
     ·exact dcr4 _ (by rw[eGc];simp) hy
     ·exact dcr4 _ (by rw[eGc];simp) hy
    have:=tail S5 ⟨u4.upd.trans (u5.mono λy hy=>.inl (hbm y hy)),λy hy=>.inl hy⟩
    unfold mC at this
    rw[if_pos ⟨hsp,k2,k4⟩] at this
    exact this
   ·have g2:=eq_false k4
    simp only[eI.f0,lk,g1,g2,eK,reduceIte,eX,Nat.reduceAdd]
    exact plain (by simp[k4])
  ·have g1:=eq_false k2
   simp only[eI.f0,lk,g1,eK,reduceIte,eX,Nat.reduceAdd]
   exact plain (by simp[k2])
theorem aWR(b s c r:Nat)(id n:Int):aT PG (build eV #[(0,pT b 0),(1,.int .i64 id),(2,pT s 0),(3,pT c 0),(4,.int .u64 n),(5,.slice (some ⟨r,0,none⟩) 1 1)])=some (.agg #[pT b 0,.int .i64 id,pT s 0,pT c 0,.int .u64 n,.slice (some ⟨r,0,none⟩) 1 1,.slice none 0 0]):=by kernel_rfl
theorem aMc{h:PH}{b:Nat}(id:Int){n:Nat}(hn:n<18446744073709551616)(seq:Nat){k:eJ}(hk:∀h' r F,DC r b (Ch.new id n seq) 1 h' F->gQ h F->fE h h'->k (pT r 0) h'):cR PG aAj #[pT b 0,.int .i64 id,.int .u64 (n:Int),.int .u64 (seq:Int)] h k:=by
 apply aCz.call
 unfold aCz
 refine aV0 n hn λs h1 G S1 f1 u1=>?_
 simp only[iS.build0,eK,reduceIte,eX,Nat.reduceAdd]
 intro r4 hr4
 try rw[eY]
 have u2:fE h1 (h1.set r4 (.cells (Value.cells (.agg #[.slice none 0 0])) iS)):=eW.new hr4
 have C2:xW (h1.set r4 (.cells (Value.cells (.agg #[.slice none 0 0])) iS)) r4 [] [r4]:=⟨.slice none 0 0,[],fP,gU.nil,rfl,by simp⟩
 generalize h1.set r4 (.cells (Value.cells (.agg #[.slice none 0 0])) iS)=h2 at *
 simp only[aVY,eK,reduceIte,eX,Nat.reduceAdd]
 intro r6 hr6
 refine iK ?_
 try rw[eY]
 have u3:fE h2 (h2.set r6 (.cells #[.slice none 0 0] fS)):=eW.new hr6
 have O3:gU (h2.set r6 (.cells #[.slice none 0 0] fS)) fS 1 (.slice (some ⟨r6,0,none⟩) 1 1) [[.slice none 0 0]] [r6]:=gU.lit (n:=1) (aOz (.slice none 0 0)) fP (by simp) (by decide) (by simp)
 have C3:=C2.ext u3
 generalize h2.set r6 (.cells #[.slice none 0 0] fS)=h3 at *
 simp only[aWR,eK,reduceIte,eX,Nat.reduceAdd]
 intro r11 hr11
 try rw[eY]
 have u4:fE h3 (h3.set r11 (.cells (Value.cells (.agg #[pT b 0,.int .i64 id,pT s 0,pT r4 0,.int .u64 (seq:Int),.slice (some ⟨r6,0,none⟩) 1 1,.slice none 0 0])) eV)):=eW.new hr11
 have X4:Bx (h3.set r11 (.cells (Value.cells (.agg #[pT b 0,.int .i64 id,pT s 0,pT r4 0,.int .u64 (seq:Int),.slice (some ⟨r6,0,none⟩) 1 1,.slice none 0 0])) eV)) r11 ((Ch.new id n seq).dcells b s r4 (.slice (some ⟨r6,0,none⟩) 1 1) (.slice none 0 0)):=Bx.new
 generalize h3.set r11 (.cells (Value.cells (.agg #[pT b 0,.int .i64 id,pT s 0,pT r4 0,.int .u64 (seq:Int),.slice (some ⟨r6,0,none⟩) 1 1,.slice none 0 0])) eV)=h4 at *
 have e13:=u2.trans u3
 have e14:=e13.trans u4
 have kS:∀y∈s::G,h1 y≠none:=λy hy=>(rsA.good _ _).known (show rsA s ⟨[],[[]],n⟩ h1 (s::G) from⟨G,S1,rfl⟩) y hy
 have D:DC r11 b (Ch.new id n seq) 1 h4 ([r11]++((s::G)++([r4]++([r6]++[])))):=by
  refine⟨s,r4,.slice (some ⟨r6,0,none⟩) 1 1,.slice none 0 0,gF.mk ⟨rfl,X4⟩ (gF.mk ((rsA.good _ _).ext (show rsA s ⟨[],[[]],n⟩ h1 (s::G) from⟨G,S1,rfl⟩) e14) (gF.mk (C3.ext u4) (gF.mk ⟨_,O3.ext u4,by simp,λr hr u hu=>?_⟩ ⟨[],gU.nil,by simp⟩ ?_) ?_) ?_) ?_⟩
  ·simp only[iQ] at hr
   subst hr
   simp only[iQ] at hu
   subst hu
   rfl
  ·simp
  ·intro y hy hm
   simp only[iQ,zLN] at hy hm
   subst hy;subst hm
   have:=C2.known y (by simp)
   exact this hr6
  ·intro y hy hm
   have hk1:=kS y hy
   simp only[zLN,zLT,yB,jG,mD,or_false] at hm
   rcases hm with rfl|rfl
   ·exact hk1 hr4
   ·exact hk1 (u2.none hr6)
  ·intro y hy hm
   simp only[iQ] at hy
   subst hy
   simp only[zLN,zLT,yB,jG,kR,mD,or_false] at hm
   rcases hm with rfl|hm|rfl|rfl
   ·exact kS _ (by simp) (e13.none hr11)
   ·exact kS _ (by simp[hm]) (e13.none hr11)
   ·exact C3.known _ (by simp) hr11
   ·exact O3.known _ (by simp) hr11
 refine hk _ r11 _ D (λy hy=>?_) (fE.trans u1 e14)
 simp only[zLN,zLT,yB,jG,kR,mD,or_false] at hy
 rcases hy with rfl|rfl|hy|rfl|rfl
 ·exact(fE.trans u1 e13).none hr11
 ·exact f1 _ (by simp)
 ·exact f1 _ (by simp[hy])
 ·exact u1.none hr4
 ·exact(fE.trans u1 u2).none hr6
theorem aXU(a b:Nat):aT PG (build lG #[(0,pT a 0),(1,pT b 0)])=some (.agg #[pT a 0,pT b 0]):=by kernel_rfl
theorem aXV(a b:Nat):aT PG (build lN #[(0,.agg #[pT a 0,pT b 0])])=some (.agg #[pT a 0,pT b 0]):=by kernel_rfl
theorem aT1{h:PH}{bk mk:Nat}{Kk:List Nat}(HBk:Bk bk mk [] Kk h){a b s0 s1:Nat}(ha:a<18446744073709551616)(hb:b<18446744073709551616){k:eJ}(hk:∀h' r d0 d1 F,DTw r d0 d1 bk mk [] Kk (Ch.new 0 a s0) (Ch.new 1 b s1) 1 h' F->(∀y∈F,y∈bk::mk::Kk∨h y=none)->fE h h'->k (pT r 0) h'):cR PG aCk #[pT bk 0,tZ a b,tZ s0 s1] h k:=by
 apply vD.call
 unfold vD
 intro r1 hr1
 try rw[eY]
 have u1:fE h (h.set r1 (.cells (Value.cells (tZ a b)) gK)):=eW.new hr1
 have B1:Bx (h.set r1 (.cells (Value.cells (tZ a b)) gK)) r1 (u2c a b):=Bx.new
 generalize h.set r1 (.cells (Value.cells (tZ a b)) gK)=h1 at *
 intro r3 hr3
 try rw[eY]
 have u3:fE h1 (h1.set r3 (.cells (Value.cells (tZ s0 s1)) gK)):=eW.new hr3
 have B3:Bx (h1.set r3 (.cells (Value.cells (tZ s0 s1)) gK)) r3 (u2c s0 s1):=Bx.new
 have C1:=B1.ext u3
 generalize h1.set r3 (.cells (Value.cells (tZ s0 s1)) gK)=h3 at *
 have i0:∀{r:Nat},aT PG (indexAt gK (pT r 0) (.int .i64 0))=some (pT r 0):=aNI (i:=0) (by decide)
 have i1:∀{r:Nat},aT PG (indexAt gK (pT r 0) (.int .i64 1))=some (pT r 1):=fun {r}=>by have:=aNI (r:=r) (o:=0) (i:=1) (by decide);rw[iG] at this;exact this
 have l10:∀{h'':PH},fE h3 h''->bT PG h'' (loadAt dT (pT r1 0))=some (.int .u64 (a:Int)):=λv=>by rw[dT.load,(C1.ext v).cell];rfl
 have l11:∀{h'':PH},fE h3 h''->bT PG h'' (loadAt dT (pT r1 1))=some (.int .u64 (b:Int)):=λv=>by rw[dT.load,(C1.ext v).cell];rfl
 have l30:∀{h'':PH},fE h3 h''->bT PG h'' (loadAt dT (pT r3 0))=some (.int .u64 (s0:Int)):=λv=>by rw[dT.load,(B3.ext v).cell];rfl
 have l31:∀{h'':PH},fE h3 h''->bT PG h'' (loadAt dT (pT r3 1))=some (.int .u64 (s1:Int)):=λv=>by rw[dT.load,(B3.ext v).cell];rfl
 simp only[i0,i1,l10 eW.refl,l11 eW.refl,l30 eW.refl,l31 eW.refl,eK,reduceIte,eX,Nat.reduceAdd]
 refine aMc 0 ha s0 λh4 p F4 D4 f4 u4=>?_
 refine⟨l31 u4,l11 u4,?_⟩
 refine aMc 1 hb s1 λh5 q F5 D5 f5 u5=>?_
 simp only[aXU,aXV,eK,reduceIte,eX,Nat.reduceAdd]
 intro r19 hr19
 try rw[eY]
 have u6:fE h5 (h5.set r19 (.cells (Value.cells (.agg #[pT p 0,pT q 0])) lN)):=eW.new hr19
 have X6:Bx (h5.set r19 (.cells (Value.cells (.agg #[pT p 0,pT q 0])) lN)) r19 (aEe p q):=Bx.new
 generalize h5.set r19 (.cells (Value.cells (.agg #[pT p 0,pT q 0])) lN)=h6 at *
 have e3:fE h h3:=u1.trans u3
 have e6:=((e3.trans u4).trans u5).trans u6
 have D46:=(DC.good _ _ _ _).ext D4 (u5.trans u6)
 have D56:=(DC.good _ _ _ _).ext D5 u6
 refine hk h6 r19 p q _ (gF.mk (gF.mk ⟨rfl,HBk.ext e6⟩ D46 ?_) (gF.mk ⟨rfl,X6⟩ D56 ?_) ?_) (λy hy=>?_) e6
 ·intro y hy hm
  exact HBk.known y hy (e3.none (f4 y hm))
 ·intro y hy hm
  simp only[iQ] at hy
  subst hy
  exact(DC.good _ _ _ _).known D5 _ hm hr19
 ·intro y hy hm
  rcases kR.1 hm with hm|hm
  ·simp only[iQ] at hm
   subst hm
   rcases kR.1 hy with hy|hy
   ·exact(HBk.ext (((e3.trans u4).trans u5))).known _ hy hr19
   ·exact(DC.good _ _ _ _).known ((DC.good _ _ _ _).ext D4 u5) _ hy hr19
  ·rcases kR.1 hy with hy|hy
   ·exact(HBk.ext (e3.trans u4)).known _ hy (f5 _ hm)
   ·exact(DC.good _ _ _ _).known D4 _ hy (f5 _ hm)
 ·simp only[kR,iQ] at hy
  rcases hy with(hy|hy)|(rfl|hy)
  ·exact .inl hy
  ·exact .inr (e3.none (f4 y hy))
  ·exact .inr (((e3.trans u4).trans u5).none hr19)
  ·exact .inr ((e3.trans u4).none (f5 y hy))
def aRE(t:Nat)(A:List Tx)(s0 s1:Ch)(n:Nat):mO:=λh F=>∃c0 c1 m d0 d1 b mm K,gF (qQ t c0 c1 m s0 s1) (DTw m d0 d1 b mm A K s0 s1 n) h F
theorem aRE.good(t:Nat)(A:List Tx)(s0 s1:Ch)(n:Nat):mU (aRE t A s0 s1 n) where
 known:=λ⟨_,_,_,_,_,_,_,_,H⟩=>((qQ.good _ _ _ _ _ _).star (DTw.good _ _ _ _ _ _ _ _ _ _)).known H
 upd:=λ⟨c0,c1,m,d0,d1,b,mm,K,H⟩ u hK=>⟨c0,c1,m,d0,d1,b,mm,K,((qQ.good _ _ _ _ _ _).star (DTw.good _ _ _ _ _ _ _ _ _ _)).upd H u hK⟩
theorem aOu{h:PH}(hK:oA h){a b s0 s1:Nat}(ha:a<18446744073709551616)(hb:b<18446744073709551616)(hs0:s0<18446744073709551616)(hs1:s1<18446744073709551616)(z0:s0≠0)(z1:s1≠0){k:eJ}
  (hk:∀h' t F,aRE t [] (Ch.new 0 a s0) (Ch.new 1 b s1) 1 h' F->gQ h F->fE h h'->k (pT t 0) h'):cR PG uI #[tZ a b,tZ s0 s1] h k:=by
 apply vC.call
 unfold vC
 intro r1 hr1
 try rw[eY]
 have u1:fE h (h.set r1 (.cells (Value.cells (tZ a b)) gK)):=eW.new hr1
 have B1:Bx (h.set r1 (.cells (Value.cells (tZ a b)) gK)) r1 (u2c a b):=Bx.new
 generalize h.set r1 (.cells (Value.cells (tZ a b)) gK)=h1 at *
 intro r3 hr3
 try rw[eY]
 have u3:fE h1 (h1.set r3 (.cells (Value.cells (tZ s0 s1)) gK)):=eW.new hr3
 have B3:Bx (h1.set r3 (.cells (Value.cells (tZ s0 s1)) gK)) r3 (u2c s0 s1):=Bx.new
 have C1:=B1.ext u3
 generalize h1.set r3 (.cells (Value.cells (tZ s0 s1)) gK)=h3 at *
 have e3:=u1.trans u3
 have la:∀{h'':PH},fE h3 h''->bT PG h'' (loadAt gK (pT r1 0))=some (tZ a b):=λv=>gK.agg (C1.ext v) (by show 0+2≤2;decide)
 have ls:∀{h'':PH},fE h3 h''->bT PG h'' (loadAt gK (pT r3 0))=some (tZ s0 s1):=λv=>gK.agg (B3.ext v) (by show 0+2≤2;decide)
 simp only[la eW.refl,ls eW.refl,eK,reduceIte,eX,Nat.reduceAdd]
 refine aVQ λh4 bk mk Kk HBk fBk u4=>?_
 refine⟨ls u4,la u4,?_⟩
 have HBk:Bk bk mk [] Kk h4:=⟨false,[],HBk,λx hx=>hx⟩
 refine aT1 HBk ha hb λh5 m d0 d1 FD HD fD u5=>?_
 have e35:=u4.trans u5
 simp only[aWv,eK,reduceIte,eX,Nat.reduceAdd]
 intro r12 hr12
 try rw[eY]
 have u6:fE h5 (h5.set r12 (.cells (Value.cells (.agg #[.pointer none,.pointer none,pT m 0])) iW)):=eW.new hr12
 have B6:Bx (h5.set r12 (.cells (Value.cells (.agg #[.pointer none,.pointer none,pT m 0])) iW)) r12 [.pointer none,.pointer none,pT m 0]:=Bx.new
 generalize h5.set r12 (.cells (Value.cells (.agg #[.pointer none,.pointer none,pT m 0])) iW)=h6 at *
 have e36:=e35.trans u6
 have k12:h5 r12=none:=hr12
 have C1:=C1.ext e35
 have B3:=B3.ext e35
 have K5:=hK.ext (e3.trans e35)
 -- what stands behind i chains
 refine⟨λvs h'=>∃i:Nat,vs=[pT r1 0,pT r3 0,pT r12 0,.int .i64 (i:Int)]∧fE h5 h'∧((i=0∧Bx h' r12 [.pointer none,.pointer none,pT m 0])∨(i=1∧∃c0 F0,Bx h' r12 [pT c0 0,.pointer none,pT m 0]∧jX c0 (Ch.new 0 a s0) h' F0∧gQ h5 F0∧r12∉F0)∨(i=2∧∃F,(∃c0 c1,qQ r12 c0 c1 m (Ch.new 0 a s0) (Ch.new 1 b s1) h' F)∧gQ h5 F)),jP 2 3,⟨0,rfl,u6,.inl ⟨rfl,B6⟩⟩,?_⟩
 rintro ρ h' ⟨i,hvs,w,hc⟩
 simp only[jT,kF,mQ,and_true] at hvs
 obtain⟨v0,v1,v2,v3⟩:=hvs
 unfold aFl
 rw[v0,v1,v2,v3]
 have i0:∀{r:Nat},aT PG (indexAt gK (pT r 0) (.int .i64 0))=some (pT r 0):=aNI (i:=0) (by decide)
 have i1:∀{r:Nat},aT PG (indexAt gK (pT r 0) (.int .i64 1))=some (pT r 1):=fun {r}=>by have:=aNI (r:=r) (o:=0) (i:=1) (by decide);rw[iG] at this;exact this
 have j0:∀{r:Nat},aT PG (indexAt lM (pT r 0) (.int .i64 0))=some (pT r 0):=aM5 (i:=0) (by decide)
 have j1:∀{r:Nat},aT PG (indexAt lM (pT r 0) (.int .i64 1))=some (pT r 1):=fun {r}=>by have:=aM5 (r:=r) (o:=0) (i:=1) (by decide);rw[iG] at this;exact this
 have l10:bT PG h' (loadAt dT (pT r1 0))=some (.int .u64 (a:Int)):=by rw[dT.load,(C1.ext w).cell];rfl
 have l11:bT PG h' (loadAt dT (pT r1 1))=some (.int .u64 (b:Int)):=by rw[dT.load,(C1.ext w).cell];rfl
 have l30:bT PG h' (loadAt dT (pT r3 0))=some (.int .u64 (s0:Int)):=by rw[dT.load,(B3.ext w).cell];rfl
 have l31:bT PG h' (loadAt dT (pT r3 1))=some (.int .u64 (s1:Int)):=by rw[dT.load,(B3.ext w).cell];rfl
 have nilN:∀{h'':PH} {x y:Operand} {c:Nat},bT PG h'' (hQ .eql fO x y (pT c 0) (.pointer none))=some (.bool false):=aEC fO.und
 have K':oA h':=K5.ext w
 rcases hc with⟨rfl,B⟩|⟨rfl,c0,F0,B,A0,f0,n0⟩|⟨rfl,F,T,f⟩
 ·have g:(((0:Nat):Int)<2)=True:=eq_true (by decide)
  simp only[g,show((0:Nat):Int)=0 from rfl,i0,l10,l30,eK,reduceIte,eX,Nat.reduceAdd]
  refine aNf K' 0 ha hs0 (λhb=>absurd hb (by omega)) λ_ h7 c F A f u7=>?_
  simp only[lR,nilN,iW.f0,j0,eK,reduceIte,eX,Nat.reduceAdd]
  have B7:=B.ext u7
  have nF:r12∉F:=λhm=>B.known (f _ hm)
  refine fO.put B7 (o:=0) (by show 0<3;decide) rfl λh8 B8 u8=>?_
  have ei:IntKind.i64.wrap ((0:Int)+1)=((1:Nat):Int):=rfl
  simp only[ei,eK,reduceIte,eX,Nat.reduceAdd]
  exact⟨⟨1,rfl,(w.trans u7).fresh u8 (gQ.one k12),.inr (.inl ⟨rfl,c,F,B8,(jX.good _ _).upd A u8 (λb hb=>by simp only[iQ];rintro rfl;exact nF hb),f.of w,nF⟩)⟩,by simp[jP,v3]⟩
 ·have g:(((1:Nat):Int)<2)=True:=eq_true (by decide)
  simp only[g,show((1:Nat):Int)=1 from rfl,i1,l11,l31,eK,reduceIte,eX,Nat.reduceAdd]
  refine aNf K' 1 hb hs1 (λhb=>absurd hb (by omega)) λ_ h7 c F A f u7=>?_
  simp only[lR,nilN,iW.f0,j1,eK,reduceIte,eX,Nat.reduceAdd]
  have B7:=B.ext u7
  have nF:r12∉F:=λhm=>B.known (f _ hm)
  have A07:=(jX.good _ _).ext A0 u7
  have d0:∀b∈F0,b∉F:=λb hb hm=>(jX.good _ _).known A0 b hb (f b hm)
  refine fO.put B7 (o:=1) (by show 1<3;decide) rfl λh8 B8 u8=>?_
  have ei:IntKind.i64.wrap ((1:Int)+1)=((2:Nat):Int):=rfl
  simp only[ei,eK,reduceIte,eX,Nat.reduceAdd]
  have A08:=(jX.good _ _).upd A07 u8 (λb hb=>by simp only[iQ];rintro rfl;exact n0 hb)
  have A8:=(jX.good _ _).upd A u8 (λb hb=>by simp only[iQ];rintro rfl;exact nF hb)
  have T:∃c0 c1,qQ r12 c0 c1 m (Ch.new 0 a s0) (Ch.new 1 b s1) h8 ([r12]++(F0++F)):=⟨c0,c,gF.mk ⟨rfl,B8⟩ (gF.mk A08 A8 d0) (λb hb=>by
   simp only[iQ] at hb
   subst hb
   simp only[kR,not_or]
   exact⟨n0,nF⟩)⟩
  exact⟨⟨2,rfl,(w.trans u7).fresh u8 (gQ.one k12),.inr (.inr ⟨rfl,_,T,λb hb=>by
   simp only[kR,iQ] at hb
   rcases hb with rfl|hb|hb
   ·exact k12
   ·exact f0 b hb
   ·exact w.none (f b hb)⟩)⟩,by simp[jP,v3]⟩
 ·have g:(((2:Nat):Int)<2)=False:=eq_false (by decide)
  simp only[g,eK,reduceIte,eX,Nat.reduceAdd]
  obtain⟨c0,c1,T⟩:=T
  have hD:=(DTw.good _ _ _ _ _ _ _ _ _ _).ext HD w
  refine hk h' r12 (F++FD) ⟨c0,c1,m,d0,d1,bk,mk,Kk,gF.mk T hD (λy hy hm=>(DTw.good _ _ _ _ _ _ _ _ _ _).known HD y hm (f y hy))⟩ (λy hy=>?_) ((e3.trans e35).trans w)
  rcases kR.1 hy with hy|hy
  ·exact(e3.trans e35).none (f y hy)
  ·rcases fD y hy with hy|hy
   ·exact e3.none (fBk y hy)
   ·exact(e3.trans u4).none hy
theorem aSu{h:PH}{s0 s1:Nat}{v:Value}{l:List lV}(S:iR h 9 v (l.map lV.cells)){k:eJ}(hk:∀h' b,(b=true->s0≠0∧s1≠0∧l.length≤50∧∀x∈l,x.d.length≤2000∧x.p.d.size≤300)->fE h h'->k (.bool b) h'):cR PG aDd #[tZ s0 s1,v] h k:=by
 apply aC9.call
 unfold aC9
 intro r1 hr1
 try rw[eY]
 have u1:fE h (h.set r1 (.cells (Value.cells (tZ s0 s1)) gK)):=eW.new hr1
 have B1:Bx (h.set r1 (.cells (Value.cells (tZ s0 s1)) gK)) r1 (u2c s0 s1):=Bx.new
 generalize h.set r1 (.cells (Value.cells (tZ s0 s1)) gK)=h1 at *
 have i0:aT PG (indexAt gK (pT r1 0) (.int .i64 0))=some (pT r1 0):=aNI (i:=0) (by decide)
 have i1:aT PG (indexAt gK (pT r1 0) (.int .i64 1))=some (pT r1 1):=by have:=aNI (r:=r1) (o:=0) (i:=1) (by decide);rw[iG] at this;exact this
 have l0:bT PG h1 (loadAt dT (pT r1 0))=some (.int .u64 (s0:Int)):=by rw[dT.load,B1.cell];rfl
 have l1:bT PG h1 (loadAt dT (pT r1 1))=some (.int .u64 (s1:Int)):=by rw[dT.load,B1.cell];rfl
 have ll:=aNO S
 have no:k (.bool false) h1:=hk h1 false (λe=>by cases e) u1
 by_cases z0:s0=0
 ·have q:((s0:Int)==0)=true:=by rw[z0];rfl
  simp only[i0,l0,jO,q,eK,reduceIte,eX,Nat.reduceAdd]
  exact no
 have q0:((s0:Int)==0)=false:=by rw[beq_eq_false_iff_ne];omega
 by_cases z1:s1=0
 ·have q:((s1:Int)==0)=true:=by rw[z1];rfl
  simp only[i0,l0,i1,l1,jO,q0,q,eK,reduceIte,eX,Nat.reduceAdd]
  exact no
 have q1:((s1:Int)==0)=false:=by rw[beq_eq_false_iff_ne];omega
 by_cases z2:50<l.length
 ·have g:((50:Int)<(l.length:Int))=True:=eq_true (by omega)
  simp only[i0,l0,i1,l1,jO,q0,q1,ll,g,eK,reduceIte,eX,Nat.reduceAdd]
  exact no
 have g:((50:Int)<(l.length:Int))=False:=eq_false (by omega)
 simp only[i0,l0,i1,l1,jO,q0,q1,ll,g,eK,reduceIte,eX,Nat.reduceAdd]
 refine⟨λvs h'=>∃i:Nat,i≤l.length∧vs=[v,.int .i64 (i:Int)]∧h'=h1∧∀x∈l.take i,x.d.length≤2000∧x.p.d.size≤300,jP l.length 1,⟨0,by omega,rfl,rfl,by simp⟩,?_⟩
 rintro ρ h' ⟨i,hi,hvs,rfl,hall⟩
 simp only[jT,kF,mQ,and_true] at hvs
 obtain⟨v0,v1⟩:=hvs
 unfold aF5
 rw[v0,v1]
 by_cases hlt:i<l.length
 ·have g1:((i:Int)<(l.length:Int))=True:=eq_true (by omega)
  have gi:IntKind.i64.wrap ((i:Int)+1)=((i+1:Nat):Int):=by rw[gD (by omega) (by omega)];omega
  obtain⟨x,hx⟩:∃x,l[i]? =some x:=⟨_,nM hlt⟩
  obtain⟨b,o,a1,a2,a3,-⟩:=(S.ext u1).tac hx
  have ld:aT PG (Builtin.len_ #[cT] dR #[.string (tx x.d)])=some (.int .i64 (x.d.length:Int)):=by rw[mW cT.und,jL]
  have lp:aT PG (Builtin.len_ #[cT] dR #[.string x.p.d])=some (.int .i64 (x.p.d.size:Int)):=mW cT.und
  by_cases y1:2000<x.d.length
  ·have g2:((2000:Int)<(x.d.length:Int))=True:=eq_true (by omega)
   simp only[ll,g1,a1,eI.f3,cT.load,a2,ld,g2,eK,reduceIte,eX,Nat.reduceAdd]
   exact no
  have g2:((2000:Int)<(x.d.length:Int))=False:=eq_false (by omega)
  by_cases y2:300<x.p.d.size
  ·have g3:((300:Int)<(x.p.d.size:Int))=True:=eq_true (by omega)
   simp only[ll,g1,a1,eI.f3,eI.f4,bR.f3,Nat.add_assoc,Nat.reduceAdd,cT.load,a2,a3,ld,lp,g2,g3,eK,reduceIte,eX,Nat.reduceAdd]
   exact no
  have g3:((300:Int)<(x.p.d.size:Int))=False:=eq_false (by omega)
  simp only[ll,g1,a1,eI.f3,eI.f4,bR.f3,Nat.add_assoc,Nat.reduceAdd,cT.load,a2,a3,ld,lp,g2,g3,gi,eK,reduceIte,eX,Nat.reduceAdd]
  refine⟨⟨i+1,by omega,rfl,by first|rfl|trivial,λy hy=>?_⟩,by simp[jP,v1];omega⟩
  rw[zLR,hx] at hy
  rcases kR.1 hy with hy|hy
  ·exact hall y hy
  ·simp only[Option.toList_some,iQ] at hy
   subst hy
   omega
 ·have g1:((i:Int)<(l.length:Int))=False:=eq_false (by omega)
  simp only[ll,g1,eK,reduceIte,eX,Nat.reduceAdd]
  rw[qR (by omega)] at hall
  exact hk _ true (λ_=>⟨z0,z1,by omega,hall⟩) u1
theorem Pk.eqX{h:PH}{d:Nat}(m m':Pk):bT PG h (Op.equalIn (d+1+1) bR (.agg m.cells.toArray) (.agg m'.cells.toArray))=some (decide (m=m')):=by
 have hp:bT PG h (Op.equalIn (d+1+1) bR (.agg m.cells.toArray) (.agg m'.cells.toArray))=
   some (m.f==m'.f&&(m.s==m'.s&&(m.t==m'.t&&(m.d==m'.d&&true)))):=by
  refine(aI4 bR.und (by kernel_rfl) (λf=>match f.offset with|0=>m.f==m'.f|1=>m.s==m'.s|2=>m.t==m'.t|_=>m.d==m'.d) ?_)
  intro f hf
  simp only[jG,mD,or_false] at hf
  rcases hf with rfl|rfl|rfl|rfl
  ·exact⟨by decide,_,_,nK dR.und rfl rfl,nK dR.und rfl rfl,aFd dR.und⟩
  ·exact⟨by decide,_,_,nK dT.und rfl rfl,nK dT.und rfl rfl,aFd dT.und⟩
  ·exact⟨by decide,_,_,nK dT.und rfl rfl,nK dT.und rfl rfl,aFd dT.und⟩
  ·exact⟨by decide,_,_,nK cT.und rfl rfl,nK cT.und rfl rfl,aE6 cT.und⟩
 rw[hp]
 congr 1
 simp only[aCh]
 rw[zLl]
 cases m;cases m'
 simp[Pk.mk.injEq]
def pkE(m:Pk):Value:=.agg m.cells.toArray
theorem aNz:aIg PG bR pkE where
 chk:=λh b a=>by unfold pkE Pk.cells;cases b<;>kernel_rfl
 eq:=λh a b=>Pk.eqX (d:=9998) a b
 bits:=λa=>by
  show Instr.sameBits (9999+1) (.agg a.cells.toArray) (.agg a.cells.toArray)=true
  simp[Instr.sameBits,Pk.cells,aCh]
 now:=⟨_,bR.und,.inl λa b=>rfl⟩
def aA2(p:Pk):Pk×Value:=(p,.bool true)
def vG(l:List Pk)(p:Pk):List Pk:=if p∈l then l else l++[p]
theorem aPf{l:List Pk}{p q:Pk}:q∈vG l p↔q∈l∨q=p:=by
 unfold vG
 split
 ·rename_i h
  constructor
  ·exact .inl
  ·rintro(h2|rfl)
   ·exact h2
   ·exact h
 ·simp
theorem aSq(l:List Pk):uP (l.map aA2)=l:=by
 unfold uP
 rw[zL0]
 exact(zL1 (g:=id) λx _=>rfl).trans (List.map_id l)
theorem aSa(l:List Pk)(p:Pk):(aAu (l.map aA2) p).getD (.bool false)= .bool (decide (p∈l)):=by
 unfold aAu
 induction l with
 | nil=>rfl
 | cons q qs ih=>
  simp only[List.find?_cons,jT,aA2,jG]
  by_cases e:p=q
  ·simp[e]
  ·simp only[e,decide_false,false_or];exact ih
theorem aSG(l:List Pk)(p:Pk):aC7 (l.map aA2) p (.bool true)=(vG l p).map aA2:=by
 unfold aC7 vG
 rw[aSq]
 split
 ·rw[zL0]
  refine zL1 λx _=>?_
  simp only[Function.comp,aA2]
  by_cases c:x=p
  ·simp[c]
  ·simp[c]
 ·rw[rL];rfl
theorem aLL{h:PH}{r:Nat}{l:List Pk}(H:kE pkE h r (l.map aA2))(p:Pk):bT PG h (Instr.lookup gG (.map (some r)) p.v false)=some (.bool (decide (p∈l))):=by
 have hl:=aGA aNz gG.und iV.info iV.zero H p false
 rw[show p.v=pkE p from rfl,hl,aSa];rfl
theorem aOb{h:PH}{r:Nat}{l:List Pk}(H:kE pkE h r (l.map aA2))(p:Pk){k:eJ}(hk:∀h',kE pkE h' r ((vG l p).map aA2)->eW [r] h h'->k undef h'):eZ PG (aCO gG (.map (some r)) p.v (.bool true)) h k:=by
 rw[show p.v=pkE p from rfl]
 refine aJG aNz gG.und H p (.bool true) λh' M u=>?_
 rw[aSG] at M
 exact hk h' M u
def pY(b x y:Nat)(lx ly:List Pk):mO:=λh F=>F=[b,x,y]∧Bx h b [.map (some x),.map (some y)]∧kE pkE h x (lx.map aA2)∧kE pkE h y (ly.map aA2)∧b≠x∧b≠y∧x≠y
theorem pY.good(b x y:Nat)(lx ly:List Pk):mU (pY b x y lx ly) where
 known:=by
  rintro h F ⟨rfl,B,M1,M2,-⟩ z hz
  simp only[jG,mD,or_false] at hz
  rcases hz with rfl|rfl|rfl
  ·exact B.known
  ·exact M1.known
  ·exact M2.known
 upd:=by
  rintro h F h' K ⟨rfl,B,M1,M2,hne⟩ u hK
  exact⟨rfl,B.upd u (hK b (by simp)),M1.upd u (hK x (by simp)),M2.upd u (hK y (by simp)),hne⟩
def pX(f:Int)(lx ly:List Pk):List Pk:=if f=1 then ly else lx
def atP(f:Int)(x y:Nat):Nat:=if f=1 then y else x
theorem aW4{r i:Nat}(hi:i<2):aT PG (indexAt fX (pT r 0) (.int .i64 (i:Int)))=some (pT r i):=by
 have ix:=aA5 (P:=PG) (t:=fX) (b:=r) (o:=0) (k:=.i64) (j:=(i:Int)) fX.und gG.info gG.size (by omega) (by omega)
 rw[ix,sM,Nat.mul_one,iG]
theorem aW9{r:Nat}{f:Int}(h0:0≤f)(h1:f≤1):aT PG (indexAt fX (pT r 0) (.int .i64 f))=some (pT r f.toNat):=by
 have:=aW4 (r:=r) (i:=f.toNat) (by omega)
 rw[Int.toNat_of_nonneg h0] at this
 exact this
theorem pY.at{b x y:Nat}{lx ly:List Pk}{h:PH}{F:List Nat}(H:pY b x y lx ly h F){f:Int}(h0:0≤f)(h1:f≤1):bT PG h (loadAt gG (pT b f.toNat))=some (.map (some (atP f x y)))∧kE pkE h (atP f x y) ((pX f lx ly).map aA2):=by
 obtain⟨-,B,M1,M2,-⟩:=H
 have:f=0∨f=1:=by omega
 rcases this with rfl|rfl
 ·exact⟨by rw[gG.load,B.cell];rfl,M1⟩
 ·exact⟨by rw[gG.load,B.cell];rfl,M2⟩
theorem pY.put{b x y:Nat}{lx ly:List Pk}{h h':PH}{F:List Nat}(H:pY b x y lx ly h F){f:Int}{p:Pk}(h0:0≤f)(h1:f≤1)(M:kE pkE h' (atP f x y) ((vG (pX f lx ly) p).map aA2))(u:eW [atP f x y] h h'):pY b x y (if f=1 then lx else vG lx p) (if f=1 then vG ly p else ly) h' F∧jZ h F h' F:=by
 obtain⟨rfl,B,M1,M2,n1,n2,n3⟩:=H
 have:f=0∨f=1:=by omega
 rcases this with rfl|rfl
 ·refine⟨⟨rfl,B.upd u (by simpa[atP] using n1),M,M2.upd u (by simpa[atP] using n3.symm),n1,n2,n3⟩,⟨u.mono λz hz=>.inl ?_,λz hz=>.inl hz⟩⟩
  simp only[atP,iQ] at hz
  simp[hz]
 ·refine⟨⟨rfl,B.upd u (by simpa[atP] using n2),M1.upd u (by simpa[atP] using n3),M,n1,n2,n3⟩,⟨u.mono λz hz=>.inl ?_,λz hz=>.inl hz⟩⟩
  simp only[atP,iQ] at hz
  simp[hz]
structure Mk3(h h':PH)(b8 b9 b10:Nat)(cs8 cs9 cs10:List Value)(j x8 x9 x10:Nat):Prop where
 B8:Bx h' b8 (cs8.set j (.map (some x8)))
 B9:Bx h' b9 (cs9.set j (.map (some x9)))
 B10:Bx h' b10 (cs10.set j (.map (some x10)))
 M8:kE pkE h' x8 (([]:List Pk).map aA2)
 M9:kE pkE h' x9 (([]:List Pk).map aA2)
 M10:kE pkE h' x10 (([]:List Pk).map aA2)
 n8:h x8=none
 n9:h x9=none
 n10:h x10=none
 d1:x8≠x9
 d2:x8≠x10
 d3:x9≠x10
 upd:eW [b8,b9,b10] h h'
theorem aRy{h:PH}{b8 b9 b10:Nat}{cs8 cs9 cs10:List Value}(B8:Bx h b8 cs8)(B9:Bx h b9 cs9)(B10:Bx h b10 cs10)(l8:cs8.length=2)(l9:cs9.length=2)(l10:cs10.length=2)(d1:b8≠b9)(d2:b8≠b10)(d3:b9≠b10){j:Nat}(hj:j<2){v t:Value}{R:eJ}{n23:jE}
  (hk:∀h' x8 x9 x10,Mk3 h h' b8 b9 b10 cs8 cs9 cs10 j x8 x9 x10->n23 [v,t,pT b8 0,pT b9 0,pT b10 0,.int .i64 ((j+1:Nat):Int)] h'):
  sA R n23 v t (pT b8 0) (pT b9 0) (pT b10 0) (.int .i64 (j:Int)) h:=by
 unfold sA
 have g:((j:Int)<2)=True:=eq_true (by omega)
 have gi:IntKind.i64.wrap ((j:Int)+1)=((j+1:Nat):Int):=by rw[gD (by omega) (by omega)];omega
 simp only[g,aEV,eK,reduceIte,eX,Nat.reduceAdd]
 intro x8 hx8
 refine iK ?_
 try rw[eY]
 have u1:fE h (h.set x8 (.map #[] 0)):=eW.new hx8
 have M8:kE pkE (h.set x8 (.map #[] 0)) x8 (([]:List Pk).map aA2):=kE.new
 generalize h.set x8 (.map #[] 0)=h1 at *
 intro x9 hx9
 refine iK ?_
 try rw[eY]
 have u2:fE h1 (h1.set x9 (.map #[] 0)):=eW.new hx9
 have M9:kE pkE (h1.set x9 (.map #[] 0)) x9 (([]:List Pk).map aA2):=kE.new
 generalize h1.set x9 (.map #[] 0)=h2 at *
 intro x10 hx10
 refine iK ?_
 try rw[eY]
 have u3:fE h2 (h2.set x10 (.map #[] 0)):=eW.new hx10
 have M10:kE pkE (h2.set x10 (.map #[] 0)) x10 (([]:List Pk).map aA2):=kE.new
 generalize h2.set x10 (.map #[] 0)=h3 at *
 have k81:=M8.known
 have k82:=(M8.ext u2).known
 have k92:=M9.known
 have y1:x8≠x9:=λe=>k81 (e▸hx9)
 have y2:x8≠x10:=λe=>k82 (e▸hx10)
 have y3:x9≠x10:=λe=>k92 (e▸hx10)
 have M9:=M9.ext u3
 have M8:=M8.ext (u2.trans u3)
 have e3:=(fE.trans u1 u2).trans u3
 have n8:h x8=none:=hx8
 have n9:h x9=none:=u1.none hx9
 have n10:h x10=none:=(fE.trans u1 u2).none hx10
 have k8:=B8.known
 have k9:=B9.known
 have k10:=B10.known
 have ne:∀{x b:Nat},h x=none->h b≠none->x∉[b]:=λhx hb hm=>by
  simp only[iQ] at hm
  subst hm
  exact hb hx
 have nb:∀{b c:Nat},b≠c->b∉[c]:=λhh hm=>by simp only[iQ] at hm;exact hh hm
 have ix:∀r,aT PG (indexAt fX (pT r 0) (.int .i64 (j:Int)))=some (pT r j):=λr=>aW4 hj
 simp only[ix,eK,reduceIte,eX,Nat.reduceAdd]
 refine gG.put (B8.ext e3) (o:=j) (by omega) rfl λh4 C8 u4=>?_
 refine gG.put ((B9.ext e3).upd u4 (nb d1.symm)) (o:=j) (by omega) rfl λh5 C9 u5=>?_
 refine gG.put (((B10.ext e3).upd u4 (nb d2.symm)).upd u5 (nb d3.symm)) (o:=j) (by omega) rfl λh6 C10 u6=>?_
 simp only[gi,eK,reduceIte,eX,Nat.reduceAdd]
 refine hk h6 x8 x9 x10 ⟨(C8.upd u5 (nb d1)).upd u6 (nb d2),C9.upd u6 (nb d3),C10,((M8.upd u4 (ne n8 k8)).upd u5 (ne n8 k9)).upd u6 (ne n8 k10),((M9.upd u4 (ne n9 k8)).upd u5 (ne n9 k9)).upd u6 (ne n9 k10),((M10.upd u4 (ne n10 k8)).upd u5 (ne n10 k9)).upd u6 (ne n10 k10),n8,n9,n10,y1,y2,y3,?_⟩
 refine e3.upd.trans ((u4.mono λy hy=>.inl ?_).trans ((u5.mono λy hy=>.inl ?_).trans (u6.mono λy hy=>.inl ?_)))
 ·simp only[iQ] at hy;simp[hy]
 ·simp only[iQ] at hy;simp[hy]
 ·simp only[iQ] at hy;simp[hy]
def aK1(ok:Bool)(p:Pk)(g a t:List Pk):Bool:=ok && !(decide (p∈t)&&(decide (p∈g)||decide (p∈a)))
theorem aNG{h:PH}{b8 b9 b10 x8 y8 x9 y9 x10 y10:Nat}{g0 g1 a0 a1 t0 t1:List Pk}{F8 F9 F10:List Nat}(HG:pY b8 x8 y8 g0 g1 h F8)(HK:pY b9 x9 y9 a0 a1 h F9)(HT:pY b10 x10 y10 t0 t1 h F10){p:Pk}(f0:0≤p.f)(f1:p.f≤1){r:Nat}(B:Bx h r p.cells){ok:Bool}{i:Nat}(hi:i<1000){v t:Value}{R:eJ}{n48:jE}
  (hk:n48 [v,t,pT b8 0,pT b9 0,pT b10 0,.bool (aK1 ok p (pX p.f g0 g1) (pX p.f a0 a1) (pX p.f t0 t1)),.int .i64 ((i+1:Nat):Int)] h):
  lX R n48 v t (pT b8 0) (pT b9 0) (pT b10 0) (.bool ok) (.int .i64 (i:Int)) (pT r 0) (.int .i64 p.f) h:=by
 unfold lX aCf pM zD
 have gi:IntKind.i64.wrap ((i:Int)+1)=((i+1:Nat):Int):=by rw[gD (by omega) (by omega)];omega
 obtain⟨lg,Mg⟩:=HG.at f0 f1
 obtain⟨la,Ma⟩:=HK.at f0 f1
 obtain⟨lt,Mt⟩:=HT.at f0 f1
 have kg:=aLL Mg p
 have ka:=aLL Ma p
 have kt:=aLL Mt p
 have lp:bT PG h (loadAt bR (pT r 0))=some p.v:=B.pk rfl
 have ix:∀r,aT PG (indexAt fX (pT r 0) (.int .i64 p.f))=some (pT r p.f.toNat):=λr=>aW9 f0 f1
 unfold aK1 at hk
 generalize pX p.f g0 g1=lgs at *
 generalize pX p.f a0 a1=las at *
 generalize pX p.f t0 t1=lts at *
 generalize decide (p∈lgs)=bg at *
 generalize decide (p∈las)=ba at *
 generalize decide (p∈lts)=bt at *
 cases ok with
 | false=>
  simp only[gi,eK,reduceIte,eX,Nat.reduceAdd]
  exact hk
 | true=>
  cases bt with
  | false=>
   simp only[ix,lt,lp,kt,gi,eK,reduceIte,eX,Nat.reduceAdd]
   exact hk
  | true=>
   cases bg with
   | true=>
    simp only[ix,lt,lp,kt,lg,kg,gi,eK,reduceIte,eX,Nat.reduceAdd]
    exact hk
   | false=>
    cases ba with
    | true=>
     simp only[ix,lt,lp,kt,lg,kg,la,ka,gi,eK,reduceIte,eX,Nat.reduceAdd]
     exact hk
    | false=>
     simp only[ix,lt,lp,kt,lg,kg,la,ka,gi,eK,reduceIte,eX,Nat.reduceAdd]
     exact hk
def aUc(a:lV)(e:Int)(K:Pk->Prop):Pk->Prop:=λp=>K p∨(e=0∧a.kind=3∧p=a.p)
structure SI(s0 s1:Ch)(A:List Tx)(G K T:Pk->Prop):Prop where
 d1:vM s0 s1 A G T
 d2:vM s1 s0 A G T
 ak:∀p,K p->G p
 no:∀p,T p->¬G p
theorem aR3(c o:Ch)(a:lV):(mB c o a).1.id=c.id:=by
 rcases aI2 c o a with⟨-,-,e,-⟩|⟨-,b,-,e,-⟩|⟨-,-,e,-⟩|⟨-,-,e,-⟩|⟨-,-,e,-⟩|⟨-,e⟩|⟨e,-⟩<;>rw[e]
 ·rfl
 ·rfl
 ·rfl
 ·rfl
 ·rfl
 ·exact(aGS c).2.2
theorem aWz(s0 s1:Ch)(x:lV):(iU s0 s1 x).1.1.id=s0.id∧(iU s0 s1 x).1.2.id=s1.id:=by
 unfold iU
 split
 ·exact⟨rfl,aR3 _ _ _⟩
 ·exact⟨aR3 _ _ _,rfl⟩
theorem aWO{s0 s1:Ch}(h0:KOk s0)(h1:KOk s1){x:lV}(w:x.wf):KOk (iU s0 s1 x).1.1∧KOk (iU s0 s1 x).1.2:=by
 unfold iU
 split
 ·exact⟨h0,h1.doP _ w⟩
 ·exact⟨h0.doP _ w,h1⟩
theorem aOG{c o:Ch}{a:lV}(h:(mB c o a).2.2.2=0)(h2:2≤a.kind)(h4:a.kind≤4):a.p.right=true∧(a.kind=2->a.p.f=1-c.id):=by
 rcases aI2 c o a with⟨k,-⟩|⟨k,-⟩|⟨k,e,-⟩|⟨k,e,-⟩|⟨k,e,-⟩|⟨k,-⟩|⟨-,e⟩
 ·omega
 ·omega
 ·obtain⟨r1,r2,-⟩:=aKf e
  exact⟨r1,λ_=>r2⟩
 ·exact⟨(aDY (by unfold xU;simp) e).1,λ_=>by omega⟩
 ·exact⟨(aDY (by unfold qZ;simp) e).1,λ_=>by omega⟩
 ·omega
 ·have:=e h;omega
theorem aTu{s0 s1:Ch}(i0:s0.id=0)(i1:s1.id=1){x:lV}(h:(iU s0 s1 x).2.2.2=0)(h2:2≤x.kind)(h4:x.kind≤4):x.p.right=true∧(x.kind=2->x.p.f=1-(oD x.id:Int)):=by
 unfold iU at h
 unfold oD
 by_cases c:x.id=1
 ·rw[if_pos c] at h ⊢
  obtain⟨r1,r2⟩:=aOG h h2 h4
  exact⟨r1,λk=>by rw[r2 k,i1];rfl⟩
 ·rw[if_neg c] at h ⊢
  obtain⟨r1,r2⟩:=aOG h h2 h4
  exact⟨r1,λk=>by rw[r2 k,i0];rfl⟩
def aIt(s0 s1:Ch)(x:lV):Ch:=if x.id=1 then s1 else s0
theorem SI.mk2{c o:Ch}{x:lV}{A:List Tx}{G K T:Pk->Prop}(ak:∀p,K p->G p)(no:∀p,T p->¬G p)(S:aOq c o x A G T):(∀p,aUc x (mB c o x).2.2.2 K p->yP x (mB c o x).2.2.2 G p)∧∀p,aAa x (mB c o x).2.2.2 T p->¬yP x (mB c o x).2.2.2 G p:=by
 refine⟨λp hp=>?_,λp hp hg=>?_⟩
 ·rcases hp with hp|⟨e,k,rfl⟩
  ·exact .inl (ak p hp)
  ·exact .inl (S.ack e k).2
 ·rcases hp with hp|⟨e,k,rfl⟩
  ·rcases hg with hg|⟨e,k,rfl⟩
   ·exact no p hp hg
   ·exact(S.recv e k).2.2 hp
  ·rcases hg with hg|⟨-,k',-⟩
   ·exact(S.tim e k).2 hg
   ·omega
theorem SI.step{s0 s1:Ch}{x:lV}{A:List Tx}{G K T:Pk->Prop}(H:SI s0 s1 A G K T)(U:aCN (twA s0 s1 x++A))(i0:s0.id=0)(i1:s1.id=1)(w:x.wf)(ok0:s0.st.Ok)(ok1:s1.st.Ok)(q0:s0.seq<18446744073709551616)(q1:s1.seq<18446744073709551616):
  SI (iU s0 s1 x).1.1 (iU s0 s1 x).1.2 (twA s0 s1 x++A) (yP x (iU s0 s1 x).2.2.2 G) (aUc x (iU s0 s1 x).2.2.2 K) (aAa x (iU s0 s1 x).2.2.2 T)∧
  ((iU s0 s1 x).2.2.2=0->x.kind=2->IntKind.u64.wrap (((aIt (iU s0 s1 x).1.1 (iU s0 s1 x).1.2 x).st.height:Int)+1)<x.p.t∧¬T x.p)∧((iU s0 s1 x).2.2.2=0->x.kind=3->G x.p)∧((iU s0 s1 x).2.2.2=0->x.kind=4->¬G x.p):=by
 unfold iU twA at *
 by_cases c:x.id=1
 ·rw[if_pos c] at U
  rw[if_pos c,if_pos c]
  have S:=aNl H.d2 H.d1 U (by rw[i0,i1];decide) (by rw[i0,i1];decide) w ok1 ok0 q1
  obtain⟨m1,m2⟩:=SI.mk2 H.ak H.no S
  refine⟨⟨S.two,S.one,m1,m2⟩,λe k=>?_,λe k=>(S.ack e k).2,λe k=>(S.tim e k).2⟩
  unfold aIt
  rw[if_pos c]
  exact⟨(S.recv e k).2.1,(S.recv e k).2.2⟩
 ·rw[if_neg c] at U
  rw[if_neg c,if_neg c]
  have S:=aNl H.d1 H.d2 U (by rw[i0,i1];decide) (by rw[i0,i1];decide) w ok0 ok1 q0
  obtain⟨m1,m2⟩:=SI.mk2 H.ak H.no S
  refine⟨⟨S.one,S.two,m1,m2⟩,λe k=>?_,λe k=>(S.ack e k).2,λe k=>(S.tim e k).2⟩
  unfold aIt
  rw[if_neg c]
  exact⟨(S.recv e k).2.1,(S.recv e k).2.2⟩
theorem vM.new{i j:Int}{a b s t:Nat}:vM (Ch.new i a s) (Ch.new j b t) [] (λ_=>False) (λ_=>False):=
 ⟨(λy hy=>by cases hy),λp hp _=>False.elim hp,⟨(λq hq=>by cases hq),λbl hb q hq=>by
  simp only[Ch.new,iQ] at hb
  subst hb
  cases hq⟩,λp hp _=>False.elim hp⟩
theorem SI.new{a b s t:Nat}:SI (Ch.new 0 a s) (Ch.new 1 b t) [] (λ_=>False) (λ_=>False) (λ_=>False):=⟨vM.new,vM.new,λ_ h=>h,λ_ h _=>h⟩
theorem SI.cong{s0 s1:Ch}{A:List Tx}{G K T G' K' T':Pk->Prop}(H:SI s0 s1 A G K T)(hG:∀p,G' p↔G p)(hK:∀p,K' p↔K p)(hT:∀p,T' p↔T p):SI s0 s1 A G' K' T':=
 ⟨H.d1.gt (λp _=>hG p) (λp _=>hT p),H.d2.gt (λp _=>hG p) (λp _=>hT p),λp hp=>(hG p).2 (H.ak p ((hK p).1 hp)),λp hp hg=>H.no p ((hT p).1 hp) ((hG p).1 hg)⟩
def aAP(x y:List Pk):Pk->Prop:=λp=>p∈pX p.f x y
theorem aNW{x y:List Pk}{p:Pk}(f0:0≤p.f)(f1:p.f≤1)(q:Pk):aAP (if p.f=1 then x else vG x p) (if p.f=1 then vG y p else y) q↔aAP x y q∨q=p:=by
 unfold aAP pX
 by_cases c:p.f=1
 ·rw[if_pos c,if_pos c]
  by_cases d:q.f=1
  ·rw[if_pos d,if_pos d];exact aPf
  ·rw[if_neg d,if_neg d]
   constructor
   ·exact .inl
   ·rintro(h|rfl)
    ·exact h
    ·exact absurd c d
 ·rw[if_neg c,if_neg c]
  by_cases d:q.f=1
  ·rw[if_pos d,if_pos d]
   constructor
   ·exact .inl
   ·rintro(h|rfl)
    ·exact h
    ·exact absurd d c
  ·rw[if_neg d,if_neg d];exact aPf
theorem aQg{c:Nat}{s:Ch}{h:PH}{F:List Nat}(H:jX c s h F)(k:KOk s):s.DOk∧s.st.Ok:=by
 obtain⟨sp,m,cp,nv,bv,lk,P,perm,ok⟩:=H
 obtain⟨Fc,⟨hs,C⟩,-,-⟩:=P.fCli
 exact⟨⟨ok.id,ok.seq,⟨hs,C.rank⟩,k.1,k.2⟩,P.okst⟩
theorem aPP{t c0 c1 m:Nat}{s0 s1:Ch}{h:PH}{F:List Nat}(H:qQ t c0 c1 m s0 s1 h F)(k0:KOk s0)(k1:KOk s1):(s0.DOk∧s0.st.Ok)∧s1.DOk∧s1.st.Ok:=by
 obtain⟨Fa,Fb,-,-,⟨Fc,Fd,-,h0,h1,-⟩,-⟩:=H
 exact⟨aQg h0 k0,aQg h1 k1⟩
theorem iR.tac4{h:PH}{v:Value}{l:List lV}(S:iR h 9 v (l.map lV.cells)){j:Nat}{x:lV}(hx:l[j]? =some x):
  ∃b o,aT PG (indexAt jD v (.int .i64 (j:Int)))=some (pT b o)∧∀h',fE h h'->fH h' ⟨b,o,none⟩=some (.int .i64 x.kind)∧bT PG h' (loadAt eI (pT b o))=some x.v∧bT PG h' (loadAt bR (pT b (o+4)))=some x.p.v:=by
 obtain⟨b,o,cs,e',fr,h1,hb,hle,hex⟩:=S.at jD.und eI.info eI.size (k:=.i64) (j:=(j:Int)) (r:=x.cells) (by omega) (by rw[zLW,sM,hx];rfl)
 have hd:∀i n,i+n≤9->(cs.extract (o+i) (o+i+n)).toList=(x.cells.drop i).take n:=λi n hi=>by
  rw[←hex]
  simp only[zLA,zLu,aMG,zLv,aIP,List.take_take]
  congr 1;omega
 refine⟨b,o,h1,λh' u=>?_⟩
 have hb':=u.get hb
 refine⟨?_,?_,?_⟩
 ·unfold fH
  simp only[hb']
  have:=congrArg (λl:List Value=>l[0]?) (hd 0 1 (by decide))
  simp only[zLA,zLu,Nat.add_zero,aMG,aGj,aJ7] at this
  simpa[lV.cells] using this
 ·rw[eI.loadAgg hb' hle]
  congr 2
  exact zLt (hd 0 9 (by decide))
 ·rw[bR.loadAgg hb' (by omega)]
  congr 2
  exact zLt (hd 4 4 (by decide))
structure SIx where
 h5:PH
 v:Value
 l:List lV
 t:Nat
 c0:Nat
 c1:Nat
 m:Nat
 d0:Nat
 d1:Nat
 b:Nat
 mm:Nat
 K:List Nat
 b8:Nat
 b9:Nat
 b10:Nat
 x8:Nat
 y8:Nat
 x9:Nat
 y9:Nat
 x10:Nat
 y10:Nat
def SIx.maps(z:SIx)(g0 g1 a0 a1 t0 t1:List Pk):mO:=gF (pY z.b8 z.x8 z.y8 g0 g1) (gF (pY z.b9 z.x9 z.y9 a0 a1) (pY z.b10 z.x10 z.y10 t0 t1))
theorem SIx.maps_good(z:SIx)(g0 g1 a0 a1 t0 t1:List Pk):mU (z.maps g0 g1 a0 a1 t0 t1):=(pY.good _ _ _ _ _).star ((pY.good _ _ _ _ _).star (pY.good _ _ _ _ _))
def SIx.mem(z:SIx)(s0 s1:Ch)(A:List Tx)(r0 r1:Ch)(n:Nat)(M:mO):mO:=gF (qQ z.t z.c0 z.c1 z.m s0 s1) (gF (DTw z.m z.d0 z.d1 z.b z.mm A z.K r0 r1 n) M)
theorem SIx.mem_good(z:SIx)(s0 s1:Ch)(A:List Tx)(r0 r1:Ch)(n:Nat){M:mO}(g:mU M):mU (z.mem s0 s1 A r0 r1 n M):=(qQ.good _ _ _ _ _ _).star ((DTw.good _ _ _ _ _ _ _ _ _ _).star g)
structure SIs(z:SIx)(i:Nat)(s0 s1:Ch)(A:List Tx)(n:Nat):Prop where
 hi:i≤z.l.length
 hn:n≤i+1
 n0:s0.nts.length≤i
 n1:s1.nts.length≤i
 k0:KOk s0
 k1:KOk s1
 i0:s0.id=0
 i1:s1.id=1
def aOx(z:SIx)(i:Nat)(ok:Bool)(h:PH):Prop:=∃(s0 s1:Ch) (A:List Tx) (n:Nat) (F:List Nat) (g0 g1 a0 a1 t0 t1:List Pk),SIs z i s0 s1 A n∧Now z.h5 h F∧z.mem s0 s1 A s0 s1 n (z.maps g0 g1 a0 a1 t0 t1) h F∧(aCN A->ok=true∧SI s0 s1 A (aAP g0 g1) (aAP a0 a1) (aAP t0 t1))
theorem aRd{z:SIx}{i:Nat}{s0 s1:Ch}{A:List Tx}{n:Nat}{F:List Nat}{M:mO}(gM:mU M){h:PH}(I:SIs z i s0 s1 A n)(N:Now z.h5 h F)(W:z.mem s0 s1 A s0 s1 n M h F)(K5:oA z.h5)(S:iR z.h5 9 z.v (z.l.map lV.cells))(hl:z.l.length≤50){x:lV}(hx:z.l[i]? =some x)(wx:x.wf)(hd:x.d.length≤2000){R:eJ}
  (hR:∀h' F',Now z.h5 h' F'->z.mem (iU s0 s1 x).1.1 (iU s0 s1 x).1.2 (twA s0 s1 x++A) (iU s0 s1 x).1.1 (iU s0 s1 x).1.2 (n+1) M h' F'->SIs z (i+1) (iU s0 s1 x).1.1 (iU s0 s1 x).1.2 (twA s0 s1 x++A) (n+1)->R (.int .i64 (iU s0 s1 x).2.2.2) h'):
  cR PG mZ #[pT z.t 0,x.v] h λv54 h55=>
  aR (aT PG (extract v54 0)) λv56=>
  aR (aT PG (extract v54 1)) λv57=>
  aR (aT PG (extract v54 2)) λv58=>
  ∀r59,h55 r59=none->fZ (PH.set h55 r59 (.cells (fY PG bR) bR)) λh60=>
  eZ PG (fQ bR (pT r59 0) v56) h60 λv61 h62=>
  aR (aT PG (gI (pT z.t 0))) λv63=>
  aR (aT PG (fieldAt iW v63 1)) λv64=>
  aR (bT PG h62 (loadAt lI v64)) λv65=>
  aR (aT PG (indexAt jD z.v (.int .i64 (i:Int)))) λv66=>
  aR (bT PG h62 (loadAt eI v66)) λv67=>
  cR PG xJ #[v65,v67] h62 λv68 h69=>R v58 h69:=by
 obtain⟨Fa,HT,hFa,back⟩:=gF.left ((DTw.good _ _ _ _ _ _ _ _ _ _).star gM) W
 obtain⟨⟨w0,o0⟩,w1,o1⟩:=aPP HT I.k0 I.k1
 obtain⟨b,o,a1,a2⟩:=S.tac4 hx
 have hi:=I.hi
 have hn:=I.hn
 have hlt:i<z.l.length:=(zLx.1 hx).1
 refine aSr HT (N.k K5) (λhm=>N.z K5 (hFa _ hm)) wx (by have:=I.n0;omega) (by have:=I.n1;omega) λh1 F1 T1 e1=>?_
 obtain⟨F2,W2,e2⟩:=back _ h1 F1 T1 e1
 simp only[eK,reduceIte,eX,Nat.reduceAdd]
 intro r59 hr59
 try rw[eY]
 refine bR.fill (vs:=(iU s0 s1 x).2.1.cells) hr59 rfl (Pk.isC _) λh2 B2 u2=>?_
 have gW:mU (z.mem (iU s0 s1 x).1.1 (iU s0 s1 x).1.2 A s0 s1 n M):=z.mem_good _ _ _ _ _ _ gM
 have W3:z.mem (iU s0 s1 x).1.1 (iU s0 s1 x).1.2 A s0 s1 n M h2 F2:=gW.ext W2 u2
 have N3:Now z.h5 h2 F2:=(N.step e2).more u2
 obtain⟨Fx,Fy,-,⟨Fz,Fw,-,⟨-,Bt⟩,-,-⟩,-,-⟩:=id W3
 have lm:bT PG h2 (loadAt lI (pT z.t 2))=some (pT z.m 0):=by rw[lI.load,Bt.cell];rfl
 obtain⟨-,la,-⟩:=a2 h2 N3.ext
 simp only[iW.f1,iG,lm,a1,la,eK,reduceIte,eX,Nat.reduceAdd]
 obtain⟨Fd,HD,hFd,back2⟩:=(gF.right (qQ.good _ _ _ _ _ _) W3).comp λ_ H=>gF.left gM H
 refine aWE HD w0 w1 (by omega) wx (by omega) λh4 F4 D4 s4=>?_
 obtain⟨F5,W5,s5⟩:=back2 (DTw z.m z.d0 z.d1 z.b z.mm (twA s0 s1 x++A) z.K (iU s0 s1 x).1.1 (iU s0 s1 x).1.2 (n+1)) h4 F4 D4 s4
 obtain⟨y0,y1⟩:=aRP s0 s1 x I.n0 I.n1
 obtain⟨z0,z1⟩:=aWO I.k0 I.k1 wx
 obtain⟨e0,e1⟩:=aWz s0 s1 x
 exact hR h4 F5 (N3.step s5) W5 ⟨by omega,by omega,y0,y1,z0,z1,by rw[e0];exact I.i0,by rw[e1];exact I.i1⟩
theorem aLR{α:Type}{x:Option α}{a:α}{k:α->Prop}(h:x=some a)(hk:k a):aR x k:=by rw[h];exact hk
theorem aVV{a b:Prop}(h:a):fL (.bool true) a b:=h
theorem aCN.sub{A B:List Tx}(U:aCN (B++A)):aCN A:=λa ha b hb e=>U a (zLk _ ha) b (zLk _ hb) e
section
variable{z:SIx}{i:Nat}{s0 s1:Ch}{A:List Tx}{ok:Bool}{g0 g1 a0 a1 t0 t1:List Pk}{x:lV}(H:aCN A->ok=true∧SI s0 s1 A (aAP g0 g1) (aAP a0 a1) (aAP t0 t1))(i0:s0.id=0)(i1:s1.id=1)(w:x.wf)(o0:s0.DOk∧s0.st.Ok)(o1:s1.DOk∧s1.st.Ok)
include H i0 i1 w o0 o1
theorem aRq(hn:¬((iU s0 s1 x).2.2.2=0∧2≤x.kind∧x.kind≤4)):aCN (twA s0 s1 x++A)->ok=true∧SI (iU s0 s1 x).1.1 (iU s0 s1 x).1.2 (twA s0 s1 x++A) (aAP g0 g1) (aAP a0 a1) (aAP t0 t1):=λU=>by
 obtain⟨h1,h2⟩:=H U.sub
 obtain⟨S,-⟩:=h2.step U i0 i1 w o0.2 o1.2 o0.1.seq o1.1.seq
 refine⟨h1,S.cong (λp=>?_) (λp=>?_) (λp=>?_)⟩
 ·exact⟨.inl,λh=>h.elim id λh=>absurd ⟨h.1,by omega,by omega⟩ hn⟩
 ·exact⟨.inl,λh=>h.elim id λh=>absurd ⟨h.1,by omega,by omega⟩ hn⟩
 ·exact⟨.inl,λh=>h.elim id λh=>absurd ⟨h.1,by omega,by omega⟩ hn⟩
variable(f0:0≤x.p.f)(f1:x.p.f≤1)(he:(iU s0 s1 x).2.2.2=0)
include f0 f1 he
theorem aSV(k:x.kind=2):aCN (twA s0 s1 x++A)->aK1 (ok&&decide (IntKind.u64.wrap (((aIt (iU s0 s1 x).1.1 (iU s0 s1 x).1.2 x).st.height:Int)+1)<x.p.t)) x.p (vG (pX x.p.f g0 g1) x.p) (pX x.p.f a0 a1) (pX x.p.f t0 t1)=true∧SI (iU s0 s1 x).1.1 (iU s0 s1 x).1.2 (twA s0 s1 x++A) (aAP (if x.p.f=1 then g0 else vG g0 x.p) (if x.p.f=1 then vG g1 x.p else g1)) (aAP a0 a1) (aAP t0 t1):=λU=>by
 obtain⟨h1,h2⟩:=H U.sub
 obtain⟨S,r1,-⟩:=h2.step U i0 i1 w o0.2 o1.2 o0.1.seq o1.1.seq
 obtain⟨r1,r2⟩:=r1 he k
 refine⟨?_,S.cong (λp=>(aNW f0 f1 p).trans ⟨?_,?_⟩) (λp=>?_) (λp=>?_)⟩
 ·unfold aK1
  have:decide (x.p∈pX x.p.f t0 t1)=false:=decide_eq_false r2
  rw[h1,decide_eq_true r1,this];rfl
 ·exact λh=>h.elim .inl λh=>.inr ⟨he,k,h⟩
 ·exact λh=>h.elim .inl λh=>.inr h.2.2
 ·exact⟨.inl,λh=>h.elim id λh=>by omega⟩
 ·exact⟨.inl,λh=>h.elim id λh=>by omega⟩
theorem aUM(k:x.kind=3):aCN (twA s0 s1 x++A)->aK1 (ok&&decide (x.p∈pX x.p.f g0 g1)) x.p (pX x.p.f g0 g1) (vG (pX x.p.f a0 a1) x.p) (pX x.p.f t0 t1)=true∧SI (iU s0 s1 x).1.1 (iU s0 s1 x).1.2 (twA s0 s1 x++A) (aAP g0 g1) (aAP (if x.p.f=1 then a0 else vG a0 x.p) (if x.p.f=1 then vG a1 x.p else a1)) (aAP t0 t1):=λU=>by
 obtain⟨h1,h2⟩:=H U.sub
 obtain⟨S,-,r1,-⟩:=h2.step U i0 i1 w o0.2 o1.2 o0.1.seq o1.1.seq
 have r1:=r1 he k
 refine⟨?_,S.cong (λp=>?_) (λp=>(aNW f0 f1 p).trans ⟨?_,?_⟩) (λp=>?_)⟩
 ·unfold aK1
  have a1:decide (x.p∈pX x.p.f t0 t1)=false:=decide_eq_false λh=>h2.no _ h r1
  have a2:decide (x.p∈pX x.p.f g0 g1)=true:=decide_eq_true r1
  rw[h1,a1,a2];rfl
 ·exact⟨.inl,λh=>h.elim id λh=>by omega⟩
 ·exact λh=>h.elim .inl λh=>.inr ⟨he,k,h⟩
 ·exact λh=>h.elim .inl λh=>.inr h.2.2
 ·exact⟨.inl,λh=>h.elim id λh=>by omega⟩
theorem aTr(k:x.kind=4):aCN (twA s0 s1 x++A)->aK1 ok x.p (pX x.p.f g0 g1) (pX x.p.f a0 a1) (vG (pX x.p.f t0 t1) x.p)=true∧SI (iU s0 s1 x).1.1 (iU s0 s1 x).1.2 (twA s0 s1 x++A) (aAP g0 g1) (aAP a0 a1) (aAP (if x.p.f=1 then t0 else vG t0 x.p) (if x.p.f=1 then vG t1 x.p else t1)):=λU=>by
 obtain⟨h1,h2⟩:=H U.sub
 obtain⟨S,-,-,r1⟩:=h2.step U i0 i1 w o0.2 o1.2 o0.1.seq o1.1.seq
 have r1:=r1 he k
 refine⟨?_,S.cong (λp=>?_) (λp=>?_) (λp=>(aNW f0 f1 p).trans ⟨?_,?_⟩)⟩
 ·unfold aK1
  have b1:decide (x.p∈pX x.p.f g0 g1)=false:=decide_eq_false r1
  have b2:decide (x.p∈pX x.p.f a0 a1)=false:=decide_eq_false λh=>r1 (h2.ak _ h)
  rw[h1,b1,b2];simp
 ·exact⟨.inl,λh=>h.elim id λh=>by omega⟩
 ·exact⟨.inl,λh=>h.elim id λh=>by omega⟩
 ·exact λh=>h.elim .inl λh=>.inr ⟨he,k,h⟩
 ·exact λh=>h.elim .inl λh=>.inr h.2.2
end
theorem aPo{t c0 c1 m:Nat}{s0 s1:Ch}{h:PH}{F:List Nat}(H:qQ t c0 c1 m s0 s1 h F)(x:lV):∃(c:Nat) (Fc:List Nat),(aEP c0 c1 m)[oD x.id]? =some (pT c 0)∧jX c (aIt s0 s1 x) h Fc∧Bx h t (aEP c0 c1 m):=by
 obtain⟨Fa,Fb,-,⟨-,B⟩,⟨Fc,Fd,-,h0,h1,-⟩,-⟩:=H
 unfold aIt oD
 by_cases e:x.id=1
 ·rw[if_pos e,if_pos e];exact⟨c1,Fd,rfl,h1,B⟩
 ·rw[if_neg e,if_neg e];exact⟨c0,Fc,rfl,h0,B⟩
theorem aUN{z:SIx}{i:Nat}{ok:Bool}{h:PH}(I:aOx z i ok h)(K5:oA z.h5)(S:iR z.h5 9 z.v (z.l.map lV.cells))(hl:z.l.length≤50){x:lV}(hx:z.l[i]? =some x)(wx:x.wf)(hd:x.d.length≤2000){R:eJ}{n48:jE}
  (hk:∀ok2 h2,aOx z (i+1) ok2 h2->n48 [z.v,pT z.t 0,pT z.b8 0,pT z.b9 0,pT z.b10 0,.bool ok2,.int .i64 ((i+1:Nat):Int)] h2):
  pP R n48 z.v (pT z.t 0) (pT z.b8 0) (pT z.b9 0) (pT z.b10 0) (.bool ok) (.int .i64 (i:Int)) h:=by
 unfold pP
 obtain⟨s0,s1,A,n,F,g0,g1,a0,a1,t0,t1,J,N,W,P⟩:=I
 have hlt:i<z.l.length:=(zLx.1 hx).1
 have g:((i:Int)<(z.l.length:Int))=True:=eq_true (by omega)
 have gi:IntKind.i64.wrap ((i:Int)+1)=((i+1:Nat):Int):=by rw[gD (by omega) (by omega)];omega
 have hb:aT PG (binOp BinOp.lss dR (.int .i64 (i:Int)) (.int .i64 (z.l.length:Int)))=some (.bool true):=by simp only[g,eK,reduceIte,eX,Nat.reduceAdd]
 obtain⟨bk,o,q1,q2⟩:=S.tac4 hx
 obtain⟨-,la,-⟩:=q2 h N.ext
 obtain⟨Fa,HT,-,-⟩:=gF.left ((DTw.good _ _ _ _ _ _ _ _ _ _).star (z.maps_good g0 g1 a0 a1 t0 t1)) W
 obtain⟨o0,o1⟩:=aPP HT J.k0 J.k1
 refine aLR (aNO S) ?_
 refine aLR hb ?_
 refine aVV ?_
 refine aLR q1 ?_
 refine aLR la ?_
 refine aRd (z.maps_good g0 g1 a0 a1 t0 t1) J N W K5 S hl hx wx hd λh4 F4 N4 W4 J4=>?_
 have P:=P
 have same:=aRq P J.i0 J.i1 wx o0 o1
 have recv:=aSV P J.i0 J.i1 wx o0 o1
 have ack:=aUM P J.i0 J.i1 wx o0 o1
 have tim:=aTr P J.i0 J.i1 wx o0 o1
 have right:=aTu (x:=x) J.i0 J.i1
 generalize twA s0 s1 x++A=A' at *
 have side:=aPo (x:=x) (gF.left ((DTw.good _ _ _ _ _ _ _ _ _ _).star (z.maps_good g0 g1 a0 a1 t0 t1)) W4).choose_spec.1
 generalize hD:iU s0 s1 x=D at *
 obtain⟨⟨r0,r1⟩,pk,xx,e⟩:=D
 simp only at same recv ack tim right side W4 J4 ⊢
 have go:∀{h2:PH},¬(e=0∧2≤x.kind∧x.kind≤4)->fE h4 h2->n48 [z.v,pT z.t 0,pT z.b8 0,pT z.b9 0,pT z.b10 0,.bool ok,.int .i64 ((i+1:Nat):Int)] h2:=fun {h2} hn u=>hk ok h2 ⟨r0,r1,A',n+1,F4,g0,g1,a0,a1,t0,t1,J4,N4.more u,(z.mem_good _ _ _ _ _ _ (z.maps_good _ _ _ _ _ _)).ext W4 u,same hn⟩
 unfold pM zD
 by_cases he:e=0
 case neg=>
  have qe:(e !=0)=true:=by rw[bne_iff_ne];exact he
  simp only[lR,qe,gi,eK,reduceIte,eX,Nat.reduceAdd]
  exact go (λh=>he h.1) eW.refl
 have qe:(e !=0)=false:=by rw[he];rfl
 obtain⟨c4,-,lp4⟩:=q2 h4 N4.ext
 simp only[lR,qe,q1,eI.f4,lp4,eK,reduceIte,eX,Nat.reduceAdd]
 intro r77 hr77
 try rw[eY]
 refine bR.fill (vs:=x.p.cells) hr77 rfl (Pk.isC _) λh6 B6 u6=>?_
 have N6:=N4.more u6
 have W6:=(z.mem_good _ _ _ _ _ _ (z.maps_good _ _ _ _ _ _)).ext W4 u6
 obtain⟨c6,-,-⟩:=q2 h6 N6.ext
 have lf:bT PG h6 (loadAt dR (pT r77 0))=some (.int .i64 x.p.f):=by rw[dR.load,B6.cell];rfl
 have lp:bT PG h6 (loadAt bR (pT r77 0))=some x.p.v:=B6.pk rfl
 have n77:r77∉F4:=λhm=>(z.mem_good _ _ _ _ _ _ (z.maps_good _ _ _ _ _ _)).known W4 _ hm hr77
 by_cases k2:2≤x.kind
 case neg=>
  have p2:(x.kind<2)=True:=eq_true (by omega)
  simp only[bR.f0,eI.f0,iG,lf,q1,dR.load,c6,p2,gi,eK,reduceIte,eX,Nat.reduceAdd]
  exact go (λh=>k2 h.2.1) u6
 have p2:(x.kind<2)=False:=eq_false (by omega)
 by_cases k4:x.kind≤4
 case neg=>
  have p4:(4<x.kind)=True:=eq_true (by omega)
  simp only[bR.f0,eI.f0,iG,lf,q1,dR.load,c6,p2,p4,gi,eK,reduceIte,eX,Nat.reduceAdd]
  exact go (λh=>k4 h.2.2) u6
 have p4:(4<x.kind)=False:=eq_false (by omega)
 obtain⟨rr,rf⟩:=right he k2 k4
 obtain⟨f0,f1,-⟩:=Pk.right_iff.1 rr
 have d0:(x.p.f<0)=False:=eq_false (by omega)
 have d1:(1<x.p.f)=False:=eq_false (by omega)
 have ix:∀r,aT PG (indexAt fX (pT r 0) (.int .i64 x.p.f))=some (pT r x.p.f.toNat):=λr=>aW9 f0 f1
 -- the maps
 have fG:∀{g0 g1 a0 a1 t0 t1:List Pk} {h:PH} {F:List Nat},z.mem r0 r1 A' r0 r1 (n+1) (z.maps g0 g1 a0 a1 t0 t1) h F->vX h F (pY z.b8 z.x8 z.y8 g0 g1) (λX=>gF (qQ z.t z.c0 z.c1 z.m r0 r1) (gF (DTw z.m z.d0 z.d1 z.b z.mm A' z.K r0 r1 (n+1)) (gF X (gF (pY z.b9 z.x9 z.y9 a0 a1) (pY z.b10 z.x10 z.y10 t0 t1))))):=λH=>((gF.right (qQ.good _ _ _ _ _ _) H).comp λ_ H=>gF.right (DTw.good _ _ _ _ _ _ _ _ _ _) H).comp λ_ H=>gF.left ((pY.good _ _ _ _ _).star (pY.good _ _ _ _ _)) H
 have fK:∀{g0 g1 a0 a1 t0 t1:List Pk} {h:PH} {F:List Nat},z.mem r0 r1 A' r0 r1 (n+1) (z.maps g0 g1 a0 a1 t0 t1) h F->vX h F (pY z.b9 z.x9 z.y9 a0 a1) (λX=>gF (qQ z.t z.c0 z.c1 z.m r0 r1) (gF (DTw z.m z.d0 z.d1 z.b z.mm A' z.K r0 r1 (n+1)) (gF (pY z.b8 z.x8 z.y8 g0 g1) (gF X (pY z.b10 z.x10 z.y10 t0 t1))))):=λH=>(((gF.right (qQ.good _ _ _ _ _ _) H).comp λ_ H=>gF.right (DTw.good _ _ _ _ _ _ _ _ _ _) H).comp λ_ H=>gF.right (pY.good _ _ _ _ _) H).comp λ_ H=>gF.left (pY.good _ _ _ _ _) H
 have fT:∀{g0 g1 a0 a1 t0 t1:List Pk} {h:PH} {F:List Nat},z.mem r0 r1 A' r0 r1 (n+1) (z.maps g0 g1 a0 a1 t0 t1) h F->vX h F (pY z.b10 z.x10 z.y10 t0 t1) (λX=>gF (qQ z.t z.c0 z.c1 z.m r0 r1) (gF (DTw z.m z.d0 z.d1 z.b z.mm A' z.K r0 r1 (n+1)) (gF (pY z.b8 z.x8 z.y8 g0 g1) (gF (pY z.b9 z.x9 z.y9 a0 a1) X)))):=λH=>(((gF.right (qQ.good _ _ _ _ _ _) H).comp λ_ H=>gF.right (DTw.good _ _ _ _ _ _ _ _ _ _) H).comp λ_ H=>gF.right (pY.good _ _ _ _ _) H).comp λ_ H=>gF.right (pY.good _ _ _ _ _) H
 have k3cases:x.kind=2∨x.kind=3∨x.kind=4:=by omega
 rcases k3cases with k|k|k
 ·have p:(x.kind==2)=true:=by simp[k]
  obtain⟨FG,HG,hFG,backG⟩:=fG W6
  obtain⟨lg,Mg⟩:=HG.at f0 f1
  simp only[bR.f0,eI.f0,iG,lf,q1,dR.load,c6,p2,p4,d0,d1,jO,p,ix,lg,lp,eK,reduceIte,eX,Nat.reduceAdd]
  refine aOb Mg x.p λh7 M7 u7=>?_
  obtain⟨HG7,s7⟩:=HG.put f0 f1 M7 u7
  obtain⟨F7,W7,S7⟩:=backG _ h7 FG HG7 s7
  have W7:z.mem r0 r1 A' r0 r1 (n+1) (z.maps _ _ a0 a1 t0 t1) h7 F7:=W7
  have N7:=N6.step S7
  obtain⟨B7,-⟩:=xY B6 n77 S7
  obtain⟨_,HG8,-,-⟩:=fG W7
  obtain⟨_,HK8,-,-⟩:=fK W7
  obtain⟨_,HT8,-,-⟩:=fT W7
  have eg:pX x.p.f (if x.p.f=1 then g0 else vG g0 x.p) (if x.p.f=1 then vG g1 x.p else g1)=vG (pX x.p.f g0 g1) x.p:=by unfold pX;split<;>rfl
  have fin:∀ok',ok'=(ok&&decide (IntKind.u64.wrap (((aIt r0 r1 x).st.height:Int)+1)<x.p.t))->lX R n48 z.v (pT z.t 0) (pT z.b8 0) (pT z.b9 0) (pT z.b10 0) (.bool ok') (.int .i64 (i:Int)) (pT r77 0) (.int .i64 x.p.f) h7:=λok' e'=>by
   refine aNG HG8 HK8 HT8 f0 f1 B7 (by omega) ?_
   rw[eg,e']
   exact hk _ h7 ⟨r0,r1,A',n+1,F7,_,_,a0,a1,t0,t1,J4,N7,W7,recv f0 f1 he k⟩
  cases hok:ok with
  | false=>
   simp only[eK,reduceIte,eX,Nat.reduceAdd]
   exact⟨λh=>absurd h (by decide),fin false (by rw[hok];rfl)⟩
  | true=>
   obtain⟨_,HT7,-,-⟩:=gF.left ((DTw.good _ _ _ _ _ _ _ _ _ _).star (z.maps_good _ _ _ _ _ _)) W7
   obtain⟨c,Fc,hc,HC,Bt⟩:=aPo HT7 x
   obtain⟨sp,m1,cp,nv,bv,lk,PP,perm,okc⟩:=id HC
   obtain⟨Fs,St,-,-⟩:=PP.fSt
   have hsd:=aND x.id
   have rf:=rf k
   have w1:IntKind.i64.wrap (1-x.p.f)=((oD x.id:Nat):Int):=by rw[gD (by omega) (by omega)];omega
   have ixc:=aM5 (r:=z.t) (o:=0) (i:=oD x.id) hsd
   rw[iG] at ixc
   have lc:bT PG h7 (loadAt fO (pT z.t (oD x.id)))=some (pT c 0):=by rw[fO.load,Bt.cell];exact hc
   have lt:bT PG h7 (loadAt dT (pT r77 2))=some (.int .u64 x.p.t):=by rw[dT.load,B7.cell];rfl
   simp only[bR.f2,iW.f0,gH.f0,iC.f0,iG,lt,w1,ixc,lc,Ch.load0 PP.cell,eK,reduceIte,eX,Nat.reduceAdd]
   refine aKZ St ?_
   refine⟨λ_=>lt,?_⟩
   by_cases hgt:IntKind.u64.wrap (((aIt r0 r1 x).st.height:Int)+1)<x.p.t
   ·have pg:=eq_true hgt
    simp only[pg,eK,reduceIte,eX,Nat.reduceAdd]
    exact fin true (by rw[hok,decide_eq_true hgt];rfl)
   ·have pg:=eq_false hgt
    simp only[pg,eK,reduceIte,eX,Nat.reduceAdd]
    exact fin false (by rw[hok,decide_eq_false hgt];rfl)
 ·have p:(x.kind==2)=false:=by simp[k]
  have p3:(x.kind==3)=true:=by simp[k]
  obtain⟨FK,HK,hFK,backK⟩:=fK W6
  obtain⟨lk,Mk⟩:=HK.at f0 f1
  simp only[bR.f0,eI.f0,iG,lf,q1,dR.load,c6,p2,p4,d0,d1,jO,p,p3,ix,lk,lp,eK,reduceIte,eX,Nat.reduceAdd]
  refine aOb Mk x.p λh7 M7 u7=>?_
  obtain⟨HK7,s7⟩:=HK.put f0 f1 M7 u7
  obtain⟨F7,W7,S7⟩:=backK _ h7 FK HK7 s7
  have W7:z.mem r0 r1 A' r0 r1 (n+1) (z.maps g0 g1 _ _ t0 t1) h7 F7:=W7
  have N7:=N6.step S7
  obtain⟨B7,-⟩:=xY B6 n77 S7
  obtain⟨_,HG8,-,-⟩:=fG W7
  obtain⟨_,HK8,-,-⟩:=fK W7
  obtain⟨_,HT8,-,-⟩:=fT W7
  have eg:pX x.p.f (if x.p.f=1 then a0 else vG a0 x.p) (if x.p.f=1 then vG a1 x.p else a1)=vG (pX x.p.f a0 a1) x.p:=by unfold pX;split<;>rfl
  have fin:∀ok',ok'=(ok&&decide (x.p∈pX x.p.f g0 g1))->lX R n48 z.v (pT z.t 0) (pT z.b8 0) (pT z.b9 0) (pT z.b10 0) (.bool ok') (.int .i64 (i:Int)) (pT r77 0) (.int .i64 x.p.f) h7:=λok' e'=>by
   refine aNG HG8 HK8 HT8 f0 f1 B7 (by omega) ?_
   rw[eg,e']
   exact hk _ h7 ⟨r0,r1,A',n+1,F7,g0,g1,_,_,t0,t1,J4,N7,W7,ack f0 f1 he k⟩
  cases hok:ok with
  | false=>
   simp only[eK,reduceIte,eX,Nat.reduceAdd]
   exact fin false (by rw[hok];rfl)
  | true=>
   obtain⟨lg,Mg⟩:=HG8.at f0 f1
   have kg:=aLL Mg x.p
   have lp7:bT PG h7 (loadAt bR (pT r77 0))=some x.p.v:=B7.pk rfl
   simp only[ix,lg,lp7,kg,eK,reduceIte,eX,Nat.reduceAdd]
   exact fin (decide (x.p∈pX x.p.f g0 g1)) (by rw[hok,zLo])
 ·have p:(x.kind==2)=false:=by simp[k]
  have p3:(x.kind==3)=false:=by simp[k]
  have p5:(x.kind==4)=true:=by simp[k]
  obtain⟨FT,HT6,hFT,backT⟩:=fT W6
  obtain⟨lt,Mt⟩:=HT6.at f0 f1
  simp only[bR.f0,eI.f0,iG,lf,q1,dR.load,c6,p2,p4,d0,d1,jO,p,p3,p5,ix,lt,lp,eK,reduceIte,eX,Nat.reduceAdd]
  refine aOb Mt x.p λh7 M7 u7=>?_
  obtain⟨HT7,s7⟩:=HT6.put f0 f1 M7 u7
  obtain⟨F7,W7,S7⟩:=backT _ h7 FT HT7 s7
  have W7:z.mem r0 r1 A' r0 r1 (n+1) (z.maps g0 g1 a0 a1 _ _) h7 F7:=W7
  have N7:=N6.step S7
  obtain⟨B7,-⟩:=xY B6 n77 S7
  obtain⟨_,HG8,-,-⟩:=fG W7
  obtain⟨_,HK8,-,-⟩:=fK W7
  obtain⟨_,HT8,-,-⟩:=fT W7
  have eg:pX x.p.f (if x.p.f=1 then t0 else vG t0 x.p) (if x.p.f=1 then vG t1 x.p else t1)=vG (pX x.p.f t0 t1) x.p:=by unfold pX;split<;>rfl
  refine aNG HG8 HK8 HT8 f0 f1 B7 (by omega) ?_
  rw[eg]
  exact hk _ h7 ⟨r0,r1,A',n+1,F7,g0,g1,a0,a1,_,_,J4,N7,W7,tim f0 f1 he k⟩
theorem aTw{h:PH}(hK:oA h){a b s0 s1:Nat}(ha:a<18446744073709551616)(hb:b<18446744073709551616)(hs0:s0<18446744073709551616)(hs1:s1<18446744073709551616)(z0:s0≠0)(z1:s1≠0){k:eJ}
  (hk:∀h' t F,aLy t (Ch.new 0 a s0) (Ch.new 1 b s1) h' F->gQ h F->fE h h'->k (pT t 0) h'):cR PG uI #[tZ a b,tZ s0 s1] h k:=
 aOu hK ha hb hs0 hs1 z0 z1 λh' t F ⟨c0,c1,m,d0,d1,b,mm,K,Fa,Fb,eF,hT,hD,hd⟩ f u=>hk h' t Fa ⟨c0,c1,m,hT⟩ (λy hy=>f y (by rw[eF];simp[hy])) u
theorem aPs{h:PH}(hK:oA h){k:eJ}(hk:∀h',fE h h'->k (.bool true) h'):cR PG aCC #[] h k:=by
 apply aBE.call
 unfold aBE
 simp only[aXy,aX2,eK,reduceIte,eX,Nat.reduceAdd]
 refine aTw hK (by decide) (by decide) (by decide) (by decide) (by decide) (by decide) λh1 t F1 T1 f1 u1=>?_
 have N1:Now h h1 F1:=⟨u1,f1⟩
 have nilT:∀{h'':PH} {x y:Operand} {c:Nat},bT PG h'' (hQ .eql oB x y (pT c 0) (.pointer none))=some (.bool false):=aEC oB.und
 obtain⟨c0,c1,m,S1⟩:=T1
 have S1:qQ t c0 c1 m xa xb h1 F1:=S1
 have bt:∀{a b:Ch} {h' F'},qQ t c0 c1 m a b h' F'->bT PG h' (loadAt fO (pT t 0))=some (pT c0 0):=λS=>by
  obtain⟨_,_,_,⟨_,B⟩,_,_⟩:=S
  rw[fO.load,B.cell];rfl
 have j0:aT PG (indexAt lM (pT t 0) (.int .i64 0))=some (pT t 0):=aM5 (i:=0) (by decide)
 have foc:∀{a b:Ch} {h' F'},qQ t c0 c1 m a b h' F'->vX h' F' (jX c0 a) (λX=>gF (rH t (aEP c0 c1 m)) (gF X (jX c1 b))):=λS=>(gF.right (rH.good _ _) S).comp λ_ H=>gF.left (jX.good _ _) H
 have q120:({data:=#[120]}:ByteArray)=tx [120]:=rfl
 simp only[nilT,iW.f0,j0,bt S1,q120,eK,reduceIte,eX,Nat.reduceAdd]
 obtain⟨Fa,HA,hFa,back⟩:=foc S1
 refine aOk (t:=20) (N1.k hK) HA [120] (by decide) (by decide) (λhe=>absurd aWt he) λ_ h2 F2 H2 s2=>?_
 obtain⟨F3,W3,s3⟩:=back _ h2 F2 H2 s2
 have S3:qQ t c0 c1 m xa1 xb h2 F3:=W3
 have N3:=N1.step s3
 simp only[eK,reduceIte,eX,Nat.reduceAdd]
 intro r14 hr14
 try rw[eY]
 refine bR.fill (vs:=xp.cells) hr14 rfl (Pk.isC _) λh4 B4 u4=>?_
 have n4:r14∉F3:=λhm=>(qQ.good _ _ _ _ _ _).known S3 _ hm hr14
 have S4:=(qQ.good _ _ _ _ _ _).ext S3 u4
 have N4:=N3.more u4
 simp only[iW.f0,j0,bt S4,eK,reduceIte,eX,Nat.reduceAdd]
 obtain⟨Fb,HB,hFb,back2⟩:=foc S4
 refine aM1 (N4.k hK) HB λh5 F5 H5 s5=>?_
 obtain⟨F6,W6,s6⟩:=back2 _ h5 F5 H5 s5
 have S6:qQ t c0 c1 m xa2 xb h5 F6:=W6
 have N6:=N4.step s6
 obtain⟨B6,n6⟩:=xY B4 n4 s6
 simp only[aXi,aXJ,eK,reduceIte,eX,Nat.reduceAdd]
 refine aRK ⟨c0,c1,m,S6⟩ (N6.k hK) (N6.z hK) (x:=xc1) ⟨by decide,⟨by decide,by decide,by decide,by decide⟩⟩ (by decide) (by decide) λh7 F7 T7 s7=>?_
 rw[aVH] at T7 ⊢
 have N7:=N6.step s7
 obtain⟨B7,n7⟩:=xY B6 n6 s7
 simp only[eK,reduceIte,eX,Nat.reduceAdd]
 intro r32 hr32
 try rw[eY]
 refine bR.fill (vs:=Pk.cells default) hr32 rfl (Pk.isC _) λh8 B8 u8=>?_
 have T8:=(aLy.good _ _ _).ext T7 u8
 have N8:=N7.more u8
 have C8:=B7.ext u8
 have l8:bT PG h8 (loadAt bR (pT r14 0))=some xp.v:=C8.pk rfl
 simp only[l8,aUz,eK,reduceIte,eX,Nat.reduceAdd]
 have w2:xc2.wf:=⟨by decide,aXO⟩
 refine aRK T8 (N8.k hK) (N8.z hK) (x:=xc2) w2 (by decide) (by decide) λh9 F9 T9 s9=>?_
 rw[aU5] at T9 ⊢
 have N9:=N8.step s9
 obtain⟨B9,n9⟩:=xY C8 n7 s9
 simp only[eK,reduceIte,eX,Nat.reduceAdd]
 intro r43 hr43
 try rw[eY]
 refine bR.fill (vs:=Pk.cells default) hr43 rfl (Pk.isC _) λh10 B10 u10=>?_
 have T10:=(aLy.good _ _ _).ext T9 u10
 have N10:=N9.more u10
 have C10:=B9.ext u10
 have l10:bT PG h10 (loadAt bR (pT r14 0))=some xp.v:=C10.pk rfl
 simp only[l10,aUz,eK,reduceIte,eX,Nat.reduceAdd]
 refine aRK T10 (N10.k hK) (N10.z hK) (x:=xc2) w2 (by decide) (by decide) λh11 F11 T11 s11=>?_
 rw[aVP] at T11 ⊢
 have N11:=N10.step s11
 obtain⟨B11,n11⟩:=xY C10 n9 s11
 simp only[eK,reduceIte,eX,Nat.reduceAdd]
 intro r54 hr54
 try rw[eY]
 refine bR.fill (vs:=Pk.cells default) hr54 rfl (Pk.isC _) λh12 B12 u12=>?_
 have ls:bT PG h12 (loadAt dT (pT r14 1))=some (.int .u64 1):=by rw[dT.load,(B11.ext u12).cell];rfl
 have q1:((0:Int)==0)=true:=by decide
 have q2:((1:Int)==1)=true:=by decide
 have q3:(((6:Nat):Int)==6)=true:=by decide
 have q4:((4:Int)==4)=true:=by decide
 simp only[jO,q1,q2,q3,q4,bR.f1,iG,ls,eK,reduceIte,eX,Nat.reduceAdd]
 exact hk h12 (N11.more u12).ext
theorem aTG{h:PH}{b m:Nat}{A:List Tx}{K:List Nat}(H:Bk b m A K h):∃c:Bool,bT PG h (loadAt iV (pT b 3))=some (.bool c)∧(¬aCN A->c=true):=by
 obtain⟨c,A',B,hs⟩:=H
 refine⟨c,?_,λhn=>?_⟩
 ·obtain⟨kv,hv,l,h1,-⟩:=B.here
  rw[iV.load]
  simp[fH,h1]
 ·cases c with
  | true=>rfl
  | false=>
   have U:=B.uniq
   exact absurd (λa ha b hb e=>U a (hs a ha) b (hs b hb) e) hn
theorem aUW{t c0 c1 m d0 d1 b mm:Nat}{K:List Nat}{s0 s1 r0 r1:Ch}{A:List Tx}{n:Nat}{M:mO}{h:PH}{F:List Nat}(W:gF (qQ t c0 c1 m s0 s1) (gF (DTw m d0 d1 b mm A K r0 r1 n) M) h F):∃c:Bool,bT PG h (loadAt lI (pT t 2))=some (pT m 0)∧bT PG h (loadAt jB (pT m 0))=some (pT d0 0)∧bT PG h (loadAt iL (pT d0 0))=some (pT b 0)∧bT PG h (loadAt iV (pT b 3))=some (.bool c)∧(¬aCN A->c=true):=by
 obtain⟨Fa,Fb,-,⟨F1,F2,-,⟨-,Bt⟩,-,-⟩,⟨F3,F4,-,⟨F5,F6,-,⟨F7,F8,-,⟨-,HB⟩,HD,-⟩,⟨F9,F10,-,⟨-,Bm⟩,-,-⟩,-⟩,-,-⟩,-⟩:=W
 obtain⟨c,k1,k2⟩:=aTG HB
 obtain⟨sp,cp,bv,nv,P⟩:=HD
 exact⟨c,by rw[lI.load,Bt.cell];rfl,by rw[jB.load,Bm.cell];rfl,dl0 P.cell,k1,k2⟩
theorem aUX{z:SIx}{ok:Bool}{h:PH}{i:Nat}(I:aOx z i ok h)(hi:i=z.l.length)(S:iR z.h5 9 z.v (z.l.map lV.cells)){R:eJ}{n48:jE}(hk:R (.bool true) h):
  pP R n48 z.v (pT z.t 0) (pT z.b8 0) (pT z.b9 0) (pT z.b10 0) (.bool ok) (.int .i64 (i:Int)) h:=by
 unfold pP
 obtain⟨s0,s1,A,n,F,g0,g1,a0,a1,t0,t1,J,N,W,P⟩:=I
 have g:((i:Int)<(z.l.length:Int))=False:=eq_false (by omega)
 have ll:=aNO S
 cases hok:ok with
 | true=>
  simp only[ll,g,eK,reduceIte,eX,Nat.reduceAdd]
  exact hk
 | false=>
  obtain⟨c,l1,l2,l3,l4,l5⟩:=aUW W
  have hc:c=true:=l5 λU=>by
   have:=(P U).1
   rw[hok] at this
   cases this
  subst hc
  have ix:=aTm (r:=z.m) (o:=0) (i:=0) (by decide)
  rw[iG,show((0:Nat):Int)=0 from rfl] at ix
  simp only[ll,g,iW.f1,lN.f0,eV.f0,iJ.f3,iG,l1,ix,l2,l3,l4,eK,reduceIte,eX,Nat.reduceAdd]
  exact hk
theorem aOm{h:PH}(hK:oA h){a b s0 s1:Nat}(ha:a<18446744073709551616)(hb:b<18446744073709551616)(hs0:s0<18446744073709551616)(hs1:s1<18446744073709551616){v:Value}{l:List lV}(S:iR h 9 v (l.map lV.cells))(w:∀x∈l,x.wf){k:eJ}(hk:∀h',fE h h'->k (.bool true) h'):
  cR PG zT #[tZ a b,tZ s0 s1,v] h k:=by
 apply pU.call
 unfold pU
 intro r1 hr1
 try rw[eY]
 have u1:fE h (h.set r1 (.cells (Value.cells (tZ a b)) gK)):=eW.new hr1
 have B1:Bx (h.set r1 (.cells (Value.cells (tZ a b)) gK)) r1 (u2c a b):=Bx.new
 generalize h.set r1 (.cells (Value.cells (tZ a b)) gK)=h1 at *
 intro r3 hr3
 try rw[eY]
 have u3:fE h1 (h1.set r3 (.cells (Value.cells (tZ s0 s1)) gK)):=eW.new hr3
 have B3:Bx (h1.set r3 (.cells (Value.cells (tZ s0 s1)) gK)) r3 (u2c s0 s1):=Bx.new
 have C1:=B1.ext u3
 generalize h1.set r3 (.cells (Value.cells (tZ s0 s1)) gK)=h3 at *
 have e3:=u1.trans u3
 have la:∀{h'':PH},fE h3 h''->bT PG h'' (loadAt gK (pT r1 0))=some (tZ a b):=λv=>gK.agg (C1.ext v) (by show 0+2≤2;decide)
 have ls:∀{h'':PH},fE h3 h''->bT PG h'' (loadAt gK (pT r3 0))=some (tZ s0 s1):=λv=>gK.agg (B3.ext v) (by show 0+2≤2;decide)
 refine aPs (hK.ext e3) λh4 u4=>?_
 simp only[ls u4,eK,reduceIte,eX,Nat.reduceAdd]
 refine aSu (S.ext (e3.trans u4)) λh5 bb hbb u5=>?_
 have e35:=u4.trans u5
 have e5:=e3.trans e35
 cases bb with
 | false=>
  simp only[eK,reduceIte,eX,Nat.reduceAdd]
  exact hk h5 e5
 | true=>
  obtain⟨z0,z1,hl,hdat⟩:=hbb rfl
  simp only[la e35,ls e35,eK,reduceIte,eX,Nat.reduceAdd]
  refine aOu (hK.ext e5) ha hb hs0 hs1 z0 z1 λh6 t F6 T6 f6 u6=>?_
  have nilT:∀{h'':PH} {x y:Operand} {c:Nat},bT PG h'' (hQ .eql oB x y (pT c 0) (.pointer none))=some (.bool false):=aEC oB.und
  have K5:=hK.ext e5
  have S5:=S.ext e5
  obtain⟨c0,c1,m,d0,d1,bk,mm,K,T6⟩:=T6
  have gT:mU (gF (qQ t c0 c1 m (Ch.new 0 a s0) (Ch.new 1 b s1)) (DTw m d0 d1 bk mm [] K (Ch.new 0 a s0) (Ch.new 1 b s1) 1)):=(qQ.good _ _ _ _ _ _).star (DTw.good _ _ _ _ _ _ _ _ _ _)
  simp only[nilT,eK,reduceIte,eX,Nat.reduceAdd]
  intro b8 hb8
  try rw[eY]
  have u7:fE h6 (h6.set b8 (.cells (fY PG fX) fX)):=eW.new hb8
  have B8:Bx (h6.set b8 (.cells (fY PG fX) fX)) b8 [.map none,.map none]:=fX.zbox
  generalize h6.set b8 (.cells (fY PG fX) fX)=h7 at *
  intro b9 hb9
  try rw[eY]
  have n89:b8≠b9:=B8.apart hb9
  have u8:fE h7 (h7.set b9 (.cells (fY PG fX) fX)):=eW.new hb9
  have B9:Bx (h7.set b9 (.cells (fY PG fX) fX)) b9 [.map none,.map none]:=fX.zbox
  have B8:=B8.ext u8
  generalize h7.set b9 (.cells (fY PG fX) fX)=h8 at *
  intro b10 hb10
  try rw[eY]
  have n810:b8≠b10:=B8.apart hb10
  have n910:b9≠b10:=B9.apart hb10
  have u9:fE h8 (h8.set b10 (.cells (fY PG fX) fX)):=eW.new hb10
  have B10:Bx (h8.set b10 (.cells (fY PG fX) fX)) b10 [.map none,.map none]:=fX.zbox
  have B8:=B8.ext u9
  have B9:=B9.ext u9
  generalize h8.set b10 (.cells (fY PG fX) fX)=h9 at *
  have e69:=(fE.trans u7 u8).trans u9
  have k8:h6 b8=none:=hb8
  have k9:h6 b9=none:=u7.none hb9
  have k10:h6 b10=none:=(fE.trans u7 u8).none hb10
  have kb:∀y∈[b8,b9,b10],h6 y=none:=λy hy=>by
   simp only[jG,mD,or_false] at hy
   rcases hy with rfl|rfl|rfl<;>assumption
  -- what stands behind j rounds
  refine⟨λvs h'=>∃j:Nat,vs=[v,pT t 0,pT b8 0,pT b9 0,pT b10 0,.int .i64 (j:Int)]∧fE h6 h'∧((j=0∧Bx h' b8 [.map none,.map none]∧Bx h' b9 [.map none,.map none]∧Bx h' b10 [.map none,.map none])∨(j=1∧∃x8 x9 x10,Bx h' b8 [.map (some x8),.map none]∧Bx h' b9 [.map (some x9),.map none]∧Bx h' b10 [.map (some x10),.map none]∧kE pkE h' x8 (([]:List Pk).map aA2)∧kE pkE h' x9 (([]:List Pk).map aA2)∧kE pkE h' x10 (([]:List Pk).map aA2)∧(∀y∈[x8,x9,x10],h6 y=none∧y∉[b8,b9,b10])∧x8≠x9∧x8≠x10∧x9≠x10)∨(j=2∧∃x8 y8 x9 y9 x10 y10 F,gF (pY b8 x8 y8 [] []) (gF (pY b9 x9 y9 [] []) (pY b10 x10 y10 [] [])) h' F∧gQ h6 F)),jP 2 5,⟨0,rfl,e69,.inl ⟨rfl,B8,B9,B10⟩⟩,?_⟩
  rintro ρ h' ⟨j,hvs,E,hc⟩
  simp only[jT,kF,mQ,and_true] at hvs
  obtain⟨v0,v1,v2,v3,v4,v5⟩:=hvs
  rw[v0,v1,v2,v3,v4,v5]
  rcases hc with⟨rfl,C8,C9,C10⟩|⟨rfl,x8,x9,x10,C8,C9,C10,M8,M9,M10,hx,m1,m2,m3⟩|⟨rfl,x8,y8,x9,y9,x10,y10,FM,WM,fM⟩
  ·refine aRy C8 C9 C10 rfl rfl rfl n89 n810 n910 (j:=0) (by decide) λh2 x8 x9 x10 Q=>?_
   refine⟨⟨1,rfl,E.fresh Q.upd kb,.inr (.inl ⟨rfl,x8,x9,x10,Q.B8,Q.B9,Q.B10,Q.M8,Q.M9,Q.M10,λy hy=>?_,Q.d1,Q.d2,Q.d3⟩)⟩,by simp[jP,v5]⟩
   have hn:h' y=none:=by
    simp only[jG,mD,or_false] at hy
    rcases hy with rfl|rfl|rfl
    ·exact Q.n8
    ·exact Q.n9
    ·exact Q.n10
   refine⟨E.none hn,λhm=>?_⟩
   simp only[jG,mD,or_false] at hm
   rcases hm with rfl|rfl|rfl
   ·exact C8.known hn
   ·exact C9.known hn
   ·exact C10.known hn
  ·refine aRy C8 C9 C10 rfl rfl rfl n89 n810 n910 (j:=1) (by decide) λh2 y8 y9 y10 Q=>?_
   have nb:∀{y:Nat},h' y=none->y∉[b8,b9,b10]:=λhn hm=>by
    simp only[jG,mD,or_false] at hm
    rcases hm with rfl|rfl|rfl
    ·exact C8.known hn
    ·exact C9.known hn
    ·exact C10.known hn
   have q8:=nb Q.n8
   have q9:=nb Q.n9
   have q10:=nb Q.n10
   obtain⟨p8,r8⟩:=hx x8 (by simp)
   obtain⟨p9,r9⟩:=hx x9 (by simp)
   obtain⟨p10,r10⟩:=hx x10 (by simp)
   have N8:=M8.upd Q.upd r8
   have N9:=M9.upd Q.upd r9
   have N10:=M10.upd Q.upd r10
   have ap:∀{x y:Nat},h' x≠none->h' y=none->x≠y:=λhx hy e=>hx (e▸hy)
   simp only[jG,mD,or_false,not_or] at q8 q9 q10 r8 r9 r10
   have A8:pY b8 x8 y8 [] [] h2 [b8,x8,y8]:=⟨rfl,Q.B8,N8,Q.M8,Ne.symm r8.1,Ne.symm q8.1,ap M8.known Q.n8⟩
   have A9:pY b9 x9 y9 [] [] h2 [b9,x9,y9]:=⟨rfl,Q.B9,N9,Q.M9,Ne.symm r9.2.1,Ne.symm q9.2.1,ap M9.known Q.n9⟩
   have A10:pY b10 x10 y10 [] [] h2 [b10,x10,y10]:=⟨rfl,Q.B10,N10,Q.M10,Ne.symm r10.2.2,Ne.symm q10.2.2,ap M10.known Q.n10⟩
   have e89:x8≠y9:=ap M8.known Q.n9
   have e810:x8≠y10:=ap M8.known Q.n10
   have e98:y8≠x9:=(ap M9.known Q.n8).symm
   have e108:y8≠x10:=(ap M10.known Q.n8).symm
   have e910:x9≠y10:=ap M9.known Q.n10
   have e109:y9≠x10:=(ap M10.known Q.n9).symm
   refine⟨⟨2,rfl,E.fresh Q.upd kb,.inr (.inr ⟨rfl,x8,y8,x9,y9,x10,y10,_,gF.mk A8 (gF.mk A9 A10 (λy hy hm=>?_)) (λy hy hm=>?_),λy hy=>?_⟩)⟩,by simp[jP,v5]⟩
   ·simp only[jG,mD,or_false] at hy hm
    obtain⟨s1,s2,s3⟩:=q8;obtain⟨s4,s5,s6⟩:=q9;obtain⟨s7,s8,s9⟩:=q10
    obtain⟨o1,o2,o3⟩:=r8;obtain⟨o4,o5,o6⟩:=r9;obtain⟨o7,o8,o9⟩:=r10
    rcases hy with rfl|rfl|rfl<;>rcases hm with hm|hm|hm<;>first|exact absurd hm (by assumption)|exact absurd hm.symm (by assumption)|exact Q.d3 hm
   ·simp only[kR,jG,mD,or_false] at hy hm
    obtain⟨s1,s2,s3⟩:=q8;obtain⟨s4,s5,s6⟩:=q9;obtain⟨s7,s8,s9⟩:=q10
    obtain⟨o1,o2,o3⟩:=r8;obtain⟨o4,o5,o6⟩:=r9;obtain⟨o7,o8,o9⟩:=r10
    rcases hy with rfl|rfl|rfl<;>rcases hm with(hm|hm|hm)|(hm|hm|hm)<;>first|exact absurd hm (by assumption)|exact absurd hm.symm (by assumption)|exact Q.d1 hm|exact Q.d2 hm
   ·simp only[kR,jG,mD,or_false] at hy
    rcases hy with(rfl|rfl|rfl)|((rfl|rfl|rfl)|(rfl|rfl|rfl))
    ·exact k8
    ·exact p8
    ·exact E.none Q.n8
    ·exact k9
    ·exact p9
    ·exact E.none Q.n9
    ·exact k10
    ·exact p10
    ·exact E.none Q.n10
  ·unfold sA
   have g:(((2:Nat):Int)<2)=False:=eq_false (by decide)
   simp only[g,eK,reduceIte,eX,Nat.reduceAdd]
   let z:SIx:=⟨h5,v,l,t,c0,c1,m,d0,d1,bk,mm,K,b8,b9,b10,x8,y8,x9,y9,x10,y10⟩
   have W0:z.mem (Ch.new 0 a s0) (Ch.new 1 b s1) [] (Ch.new 0 a s0) (Ch.new 1 b s1) 1 (z.maps [] [] [] [] [] []) h' (F6++FM):=by
    have T6':=gT.ext T6 E
    obtain⟨Fa,Fb,rfl,hA,hB,hd⟩:=T6'
    rw[qU]
    have dis:∀y∈Fa++Fb,y∉FM:=λy hy hm=>gT.known T6 y hy (fM y hm)
    exact gF.mk hA (gF.mk hB WM (λy hy=>dis y (by simp[hy]))) (λy hy hm=>by
     rcases kR.1 hm with hm|hm
     ·exact hd y hy hm
     ·exact dis y (by simp[hy]) hm)
   have N0:Now h5 h' (F6++FM):=⟨u6.trans E,λy hy=>by
    rcases kR.1 hy with hy|hy
    ·exact f6 y hy
    ·exact u6.none (fM y hy)⟩
   have J0:SIs z 0 (Ch.new 0 a s0) (Ch.new 1 b s1) [] 1:=⟨by omega,by omega,sL _,sL _,⟨by simp[Ch.new],by simp[Ch.new,zH]⟩,⟨by simp[Ch.new],by simp[Ch.new,zH]⟩,rfl,rfl⟩
   have emp:∀p,aAP [] [] p↔False:=λp=>by unfold aAP pX;split<;>simp
   have I0:aOx z 0 true h':=⟨_,_,[],1,_,[],[],[],[],[],[],J0,N0,W0,λ_=>⟨rfl,SI.new.cong emp emp emp⟩⟩
   refine⟨λvs h2=>∃(i:Nat) (ok:Bool),vs=[v,pT t 0,pT b8 0,pT b9 0,pT b10 0,.bool ok,.int .i64 (i:Int)]∧aOx z i ok h2,jP l.length 6,⟨0,true,rfl,I0⟩,?_⟩
   rintro ρ h2 ⟨i,ok,hvs,I⟩
   simp only[jT,kF,mQ,and_true] at hvs
   obtain⟨w0,w1,w2,w3,w4,w5,w6⟩:=hvs
   rw[w0,w1,w2,w3,w4,w5,w6]
   by_cases hlt:i<l.length
   ·obtain⟨x,hx⟩:∃x,l[i]? =some x:=⟨_,nM hlt⟩
    have hm:=uJ hx
    refine aUN (z:=z) I K5 S5 hl hx (w x hm) (hdat x hm).1 λok2 h3 I3=>?_
    exact⟨⟨i+1,ok2,rfl,I3⟩,by simp[jP,w6];omega⟩
   ·obtain⟨s0',s1',A',n',F',g0,g1,a0,a1,t0,t1,J,N,W,P⟩:=id I
    have:=J.hi
    exact aUX (z:=z) I (by show i=l.length;have:i≤l.length:=this;omega) S5 (hk h2 (e5.trans N.ext))
end Go.Proofs.YtcoajnpchhmgjaaGreatDoor
namespace Go.Proofs.YtcoajnpchhmgjaaGreatDoor
open Go
theorem aOO{h:PH}(hK:oA h){v:Value}{rows:List (List Value)}(S:iR h 9 v rows){a b s0 s1:Nat}(ha:a<18446744073709551616)(hb:b<18446744073709551616)(hs0:s0<18446744073709551616)(hs1:s1<18446744073709551616)(e:∃l:List lV,rows=l.map lV.cells∧∀x∈l,x.wf){k:eJ}(hk:∀h',fE h h'->k (.bool true) h'):
  cR PG zT #[tZ a b,tZ s0 s1,v] h k:=by
 obtain⟨l,rfl,w⟩:=e
 exact aOm hK ha hb hs0 hs1 S w hk
end Go.Proofs.YtcoajnpchhmgjaaGreatDoor
namespace Go.Proofs.YtcoajnpchhmgjaaGreatDoor.chainSafe
open Go Go.ChangeShapes Go.WideShapes Go.ChangeAt Go.WideMaps Go.WideElems Go.RowKit
theorem own:ownKnob Tryz.prog.godebug=none:=by kernel_rfl
theorem lifted(os:Os)(started:os.Started)(H:Type)(enc:TypeId×Value->H):
  ReturnsInHanded {} Tryz.checked os 3 .any (λw args=>(Rows.chainSafeSpec.pre enc Tryz.prog Tryz.f3 [] false w args∧laidMetH Tryz.prog aMV w)∧sizedMet enc Tryz.prog Tryz.f3 (OpenSpec.ofChange Rows.chainSafeSpec) false w args)
   (Rows.chainSafeSpec.post enc Tryz.prog Tryz.f3 false true false false):=by
 refine returnsInHanded_of_change_and (C:=Tryz.checked) (X:=λw _=>laidMetH Tryz.prog aMV w) (λ_ _ _ hh h=>h.of_heap hh) own started (by kernel_rfl) Tryz.func3
  (ChangeSpec.witness_shaped (enc:=enc) (C:=Tryz.checked) (os:=os) (X:=λw _=>laidMetH Tryz.prog aMV w) false (World.doorLaid Tryz.prog 400 os) #[.agg #[.int .u64 0,.int .u64 0],.agg #[.int .u64 0,.int .u64 0],.slice none 0 0] 8 rfl (World.shaped_of_RefB (by kernel_rfl) (by kernel_rfl)) (by kernel_rfl) (by kernel_rfl) (by kernel_rfl) (aTb os _)) ?_
 intro W base args ds gs before hval0 hW _ _ hL _
 have hval:∀(j:Nat) t v,Tryz.f3.params[j]? =some t->args[j]? =some v->Value.okWide Tryz.prog W .any base t v:=hval0
 have hW':=hW
 obtain⟨p,q,hA0,hV,rfl,hfz,hnd⟩:=hW
 have hA:DataW.TrodAll enc Tryz.prog W 0 (λ_=>true) true Tryz.f3.params.toList args.toList ds p:=hA0
 rw[Tryz.params3] at hA hval
 obtain⟨v0,vs0,d0,ds0,p0,q0,hargs,rfl,rfl,h0,r0⟩:=trodAll_cons hA
 obtain⟨v1,vs1,d1,ds1,p1,q1,rfl,rfl,rfl,h1,r1⟩:=trodAll_cons r0
 obtain⟨v2,vs2,d2,ds2,p2,q2,rfl,rfl,rfl,h2,r2⟩:=trodAll_cons r1
 obtain⟨rfl,rfl,rfl⟩:=trodAll_nil r2
 obtain rfl:args= #[v0,v1,v2]:=by cases args;simp_all
 obtain⟨rfl,rfl⟩:=trodVars_none hV
 obtain⟨x0,y0,rfl,m0,n0⟩:=aQK (hval 0 23 v0 rfl rfl) h0
 obtain⟨x1,y1,rfl,m1,n1⟩:=aQK (hval 1 23 v1 rfl rfl) h1
 obtain⟨rows2,s2,o2⟩:=aVL jD.und (by rw[eI.cells];decide) (hval 2 _ v2 rfl rfl) h2
 rw[eI.cells] at s2
 have e2:=lV.rds o2
 refine(aQy (aOO (kOf hL) s2 m0 n0 m1 n1 e2 λh' hx=>⟨rfl,hx⟩)).mono λe W' ⟨he,hk⟩=>?_
 subst he
 exact⟨_,rfl,aOi aW0 aV6 (by rw[Tryz.params3];decide +kernel) Tryz.underlying4 (by kernel_rfl) rfl hW' hk rfl rfl rfl⟩
theorem over:Rows.chainSafeRow.holds Tryz.pinned (OpenSpec.ofChange Rows.chainSafeSpec):=
 OpenClaim.holds_of_wide 3 Tryz.f3 rfl rfl rfl rfl rfl rfl rfl ⟨rfl,rfl,rfl,rfl,rfl⟩ rfl rfl rfl rfl rfl (by kernel_rfl) Tryz.func3 (by kernel_rfl)
  (of_decide_eq_true (by kernel_rfl)) (by unfold Func.isWrapper;first|(rw[if_pos (by decide +kernel)];kernel_rfl)|(rw[if_neg (by decide +kernel)];exact⟨rfl,rfl⟩))
  (λos started H enc _=>lifted os started H enc)
theorem proved:Rows.ChainSafeCardSaid:=
 Claim7.holds_tied_plain_at .later [] [.data] true (true,"ffc9c4e58fb005edcfc3584b561f2ad7ef77368ac970e35ab2fb2d70755663e1") false
  over (λ_ h=>by cases h) (by kernel_rfl) (λ_ h=>by cases h) chainSafe_row_tie rfl ⟨rfl,rfl⟩ (by kernel_rfl) rfl
  (λf fn hf hfn=>by
   obtain rfl:f=3:=aJf ((show Tryz.prog.funcNamed Rows.chainSafeRow.func=some 3 by kernel_rfl).symm.trans hf) |>.symm
   obtain rfl:fn=Tryz.f3:=(aJf (Tryz.func3.symm.trans hfn)).symm
   exact⟨by kernel_rfl,λj t ht=>by
    have hall:(Tryz.f3.params.toList.all λu=>!Tryz.prog.wantsStandIn u)=true:=by kernel_rfl
    have hm:t∈Tryz.f3.params.toList:=by simpa using Array.mem_of_getElem? ht
    exact(show Tryz.prog.wantsStandIn t=false by simpa using aCB.1 hall t hm)⟩)
  (by kernel_rfl)
#print axioms proved
end Go.Proofs.YtcoajnpchhmgjaaGreatDoor.chainSafe
