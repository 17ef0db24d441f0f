/- chain: the card of ChainOnce: each packet is sent, received and settled once. -/
import Derived.Test.YtcoajnpchhmgjaaGreatDoorDeVC8
set_option linter.unusedSimpArgs false
set_option linter.unusedVariables false
set_option linter.unusedSectionVars false
set_option maxRecDepth 100000
open Go.Instr (loadAt fieldAt indexAt extract buildSlice build)
namespace Go.Proofs.YtcoajnpchhmgjaaGreatDoor
open Go
theorem aSR{α:Type}{j:Nat}{a x y:α}:(if j=1 then(if j=1 then a else x) else y)=if j=1 then a else y:=by split<;>rfl
theorem aSM{α:Type}{j:Nat}{a x y:α}:(if j=1 then y else(if j=1 then x else a))=if j=1 then y else a:=by split<;>rfl
theorem aT4{R0:kG}(gR:kN R0){b9 x9 y9 b10 x10 y10 b11 x11 y11 j i:Nat}{L:List Nt}{sO gO oO:Pk->Nat}{h:PH}{F F4:List Nat}{v:Value}(W:dT R0 (aGW b9 x9 y9 b10 x10 y10 b11 x11 y11 j (L.take i) sO gO oO) h F)(hj:j<2)(O:eS h eQ 5 v (L.map Nt.cells) F4)(hF4:∀x∈F4,x∉F)(hl:L.length≤1000){n:Nt}(hn:L[i]? =some n){t:Value}{ok:Bool}{R:cD}{n64 n95:gP}
  (hk:∀h2 F2,dT R0 (aGW b9 x9 y9 b10 x10 y10 b11 x11 y11 j (L.take (i+1)) sO gO oO) h2 F2->eS h2 eQ 5 v (L.map Nt.cells) F4->(∀x∈F4,x∉F2)->iR h F h2 F2->n95 [t,pT b9 0,pT b10 0,pT b11 0,.bool (ok&&aG5 (j:Int) (L.take (i+1)) n),.int .i64 (j:Int),v,.int .i64 ((i+1:Nat):Int)] h2):
  rX R n64 n95 t (pT b9 0) (pT b10 0) (pT b11 0) (.bool ok) (.int .i64 (j:Int)) v (.int .i64 (i:Int)) h:=by
 unfold rX rC aCc aCe
 have hlt:i<L.length:=(zLx.1 hn).1
 have ll:cV PG (Builtin.len_ #[dB] bT #[v])=some (.int .i64 (L.length:Int)):=by
  have:=O.slR.len (t':=bT) dB.und
  rw[jC] at this
  exact this
 have g:((i:Int)<(L.length:Int))=True:=eq_true (by omega)
 have gi:=rA (i:=i) (by omega)
 have w1:IntKind.i64.wrap (1-(j:Int))=((1-j:Nat):Int):=by rw[eZ (by omega) (by omega)];omega
 have e1j:((1-j:Nat):Int)=1-(j:Int):=by omega
 have hj2:1-j<2:=by omega
 obtain⟨bk,o,a1,a2⟩:=O.slR.ntd hn
 obtain⟨-,lp⟩:=a2 h cU.refl
 have gN:=λl=>aGW.good b9 x9 y9 b10 x10 y10 b11 x11 y11 j l sO gO oO
 have gC:=λb x y c d=>nW.good b x y c d
 have f9:∀{l:List Nt} {h:PH} {F:List Nat},dT R0 (aGW b9 x9 y9 b10 x10 y10 b11 x11 y11 j l sO gO oO) h F->uJ h F (nW b9 x9 y9 (if j=1 then sO else cS l) (if j=1 then cS l else sO)) (λX=>dT R0 (dT X (dT (nW b10 x10 y10 (if 1-j=1 then gO else cR l) (if 1-j=1 then cR l else gO)) (nW b11 x11 y11 (if j=1 then oO else cO l) (if j=1 then cO l else oO))))):=λH=>(dT.right gR H).comp λ_ H=>dT.left ((gC _ _ _ _ _).star (gC _ _ _ _ _)) H
 have f10:∀{l:List Nt} {h:PH} {F:List Nat},dT R0 (aGW b9 x9 y9 b10 x10 y10 b11 x11 y11 j l sO gO oO) h F->uJ h F (nW b10 x10 y10 (if 1-j=1 then gO else cR l) (if 1-j=1 then cR l else gO)) (λX=>dT R0 (dT (nW b9 x9 y9 (if j=1 then sO else cS l) (if j=1 then cS l else sO)) (dT X (nW b11 x11 y11 (if j=1 then oO else cO l) (if j=1 then cO l else oO))))):=λH=>((dT.right gR H).comp λ_ H=>dT.right (gC _ _ _ _ _) H).comp λ_ H=>dT.left (gC _ _ _ _ _) H
 have f11:∀{l:List Nt} {h:PH} {F:List Nat},dT R0 (aGW b9 x9 y9 b10 x10 y10 b11 x11 y11 j l sO gO oO) h F->uJ h F (nW b11 x11 y11 (if j=1 then oO else cO l) (if j=1 then cO l else oO)) (λX=>dT R0 (dT (nW b9 x9 y9 (if j=1 then sO else cS l) (if j=1 then cS l else sO)) (dT (nW b10 x10 y10 (if 1-j=1 then gO else cR l) (if 1-j=1 then cR l else gO)) X))):=λH=>((dT.right gR H).comp λ_ H=>dT.right (gC _ _ _ _ _) H).comp λ_ H=>dT.right (gC _ _ _ _ _) H
 simp only[ll,g,a1,eQ.f1,lp,cE,reduceIte,cT,Nat.reduceAdd]
 intro r hr
 try rw[cZ]
 refine aR.fill (vs:=n.p.cells) hr rfl (Pk.isC _) λh3 B3 u3=>?_
 have W3:=(gR.star (gN _)).ext W u3
 have O3:=O.ext u3
 obtain⟨ck,-⟩:=a2 h3 u3
 have nr:r∉F:=λhm=>(gR.star (gN _)).known W _ hm hr
 have lp3:cG PG h3 (loadAt aR (pT r 0))=some n.p.v:=B3.pk rfl
 -- behind the count
 have nxt:∀{h7:PH} {F7:List Nat} {ok':Bool},dT R0 (aGW b9 x9 y9 b10 x10 y10 b11 x11 y11 j (L.take (i+1)) sO gO oO) h7 F7->iR h3 F h7 F7->ok'=(ok&&aG5 (j:Int) (L.take (i+1)) n)->n95 [t,pT b9 0,pT b10 0,pT b11 0,.bool ok',.int .i64 (j:Int),v,.int .i64 ((i+1:Nat):Int)] h7:=fun {h7 F7 ok'} W7 s7 e=>by
  rw[e]
  refine hk h7 F7 W7 (O3.upd s7.upd (λx hx hm=>hF4 x hx hm)) (λx hx hm=>?_) ((iR.ext u3).trans s7)
  rcases s7.grow x hm with h1|h1
  ·exact hF4 x hx h1
  ·exact O3.known x hx h1
 have hcs:=aWF hn
 have hcr:=aWP hn
 have hco:=aVr hn
 by_cases k1:n.k=1
 ·have p1:(n.k==1)=true:=by simp[k1]
  rw[if_pos k1] at hcs
  rw[if_neg (λx=>by omega)] at hcr
  rw[if_neg (λx=>x.1 k1)] at hco
  obtain⟨F9,H9,hF9,back⟩:=f9 W3
  obtain⟨l9,M9,m9,c9⟩:=H9.at hj
  rw[aIn] at c9
  have lk:=aFu m9 c9 n.p
  have hle:=aYK (L.take i) n.p
  have hlt2:(L.take i).length≤1000:=by rw[rN];omega
  have gw:IntKind.i64.wrap (((cS (L.take i) n.p:Nat):Int)+1)=((cS (L.take i) n.p+1:Nat):Int):=by rw[eZ (by omega) (by omega)];omega
  simp only[a1,eQ.f0,bT.load,ck,hE,p1,aJP hj,l9,lp3,lk,gw,cE,reduceIte,cT,Nat.reduceAdd]
  refine aNs m9 c9 n.p λh7 M7 m7 c7 u7=>?_
  obtain⟨H7,s7⟩:=H9.put hj m7 c7 u7
  obtain⟨F7,W7,S7⟩:=back _ h7 F9 H7 s7
  rw[aSR,aSM,←hcs,←hcr,←hco] at W7
  have W7:dT R0 (aGW b9 x9 y9 b10 x10 y10 b11 x11 y11 j (L.take (i+1)) sO gO oO) h7 F7:=W7
  obtain⟨B7,-⟩:=xE B3 nr S7
  obtain⟨_,K9,-,-⟩:=f9 W7
  obtain⟨l7,N7,m7',c7'⟩:=K9.at hj
  rw[aIn] at c7'
  have lk7:=aFu m7' c7' n.p
  have lf:cG PG h7 (loadAt bT (pT r 0))=some (.int .i64 n.p.f):=by rw[bT.load,B7.cell];rfl
  have lp7:cG PG h7 (loadAt aR (pT r 0))=some n.p.v:=B7.pk rfl
  have ec:aG5 (j:Int) (L.take (i+1)) n=((n.p.f==(j:Int))&&(((cS (L.take (i+1)) n.p:Nat):Int)==1)):=by unfold aG5;rw[if_pos k1]
  cases hok:ok with
  | false=>
   simp only[gi,cE,reduceIte,cT,Nat.reduceAdd]
   exact nxt W7 S7 (by rw[hok];rfl)
  | true=>
   cases hf:n.p.f==(j:Int) with
   | false=>
    simp only[aR.f0,lf,hE,hf,gi,cE,reduceIte,cT,Nat.reduceAdd]
    exact nxt W7 S7 (by rw[hok,ec,hf];rfl)
   | true=>
    simp only[aR.f0,lf,hE,hf,aJP hj,l7,lp7,lk7,gi,cE,reduceIte,cT,Nat.reduceAdd]
    exact nxt W7 S7 (by rw[hok,ec,hf];rfl)
 ·have p1:(n.k==1)=false:=by simp[k1]
  by_cases k2:n.k=2
  ·have p2:(n.k==2)=true:=by simp[k2]
   rw[if_neg k1] at hcs
   rw[if_pos k2] at hcr
   rw[if_neg (λx=>x.2 k2)] at hco
   obtain⟨F9,H9,hF9,back⟩:=f10 W3
   obtain⟨l9,M9,m9,c9⟩:=H9.at hj2
   rw[aIn] at c9
   have lk:=aFu m9 c9 n.p
   have hle:=aYH (L.take i) n.p
   have hlt2:(L.take i).length≤1000:=by rw[rN];omega
   have gw:IntKind.i64.wrap (((cR (L.take i) n.p:Nat):Int)+1)=((cR (L.take i) n.p+1:Nat):Int):=by rw[eZ (by omega) (by omega)];omega
   simp only[a1,eQ.f0,bT.load,ck,hE,p1,p2,w1,aJP hj2,l9,lp3,lk,gw,cE,reduceIte,cT,Nat.reduceAdd]
   refine aNs m9 c9 n.p λh7 M7 m7 c7 u7=>?_
   obtain⟨H7,s7⟩:=H9.put hj2 m7 c7 u7
   obtain⟨F7,W7,S7⟩:=back _ h7 F9 H7 s7
   rw[aSR,aSM,←hcs,←hcr,←hco] at W7
   have W7:dT R0 (aGW b9 x9 y9 b10 x10 y10 b11 x11 y11 j (L.take (i+1)) sO gO oO) h7 F7:=W7
   obtain⟨B7,-⟩:=xE B3 nr S7
   obtain⟨_,K9,-,-⟩:=f10 W7
   obtain⟨l7,N7,m7',c7'⟩:=K9.at hj2
   rw[aIn] at c7'
   have lk7:=aFu m7' c7' n.p
   have lf:cG PG h7 (loadAt bT (pT r 0))=some (.int .i64 n.p.f):=by rw[bT.load,B7.cell];rfl
   have lp7:cG PG h7 (loadAt aR (pT r 0))=some n.p.v:=B7.pk rfl
   have ec:aG5 (j:Int) (L.take (i+1)) n=((n.p.f==((1-j:Nat):Int))&&(((cR (L.take (i+1)) n.p:Nat):Int)==1)):=by unfold aG5;rw[if_neg k1,if_pos k2,e1j]
   cases hok:ok with
   | false=>
    simp only[gi,cE,reduceIte,cT,Nat.reduceAdd]
    exact nxt W7 S7 (by rw[hok];rfl)
   | true=>
    cases hf:n.p.f==((1-j:Nat):Int) with
    | false=>
     simp only[aR.f0,lf,w1,hE,hf,gi,cE,reduceIte,cT,Nat.reduceAdd]
     exact nxt W7 S7 (by rw[hok,ec,hf];rfl)
    | true=>
     simp only[aR.f0,lf,w1,hE,hf,aJP hj2,l7,lp7,lk7,gi,cE,reduceIte,cT,Nat.reduceAdd]
     exact nxt W7 S7 (by rw[hok,ec,hf];rfl)
  ·have p2:(n.k==2)=false:=by simp[k2]
   rw[if_neg k1] at hcs
   rw[if_neg k2] at hcr
   rw[if_pos ⟨k1,k2⟩] at hco
   obtain⟨F9,H9,hF9,back⟩:=f11 W3
   obtain⟨l9,M9,m9,c9⟩:=H9.at hj
   rw[aIn] at c9
   have lk:=aFu m9 c9 n.p
   have hle:=aYc (L.take i) n.p
   have hlt2:(L.take i).length≤1000:=by rw[rN];omega
   have gw:IntKind.i64.wrap (((cO (L.take i) n.p:Nat):Int)+1)=((cO (L.take i) n.p+1:Nat):Int):=by rw[eZ (by omega) (by omega)];omega
   simp only[a1,eQ.f0,bT.load,ck,hE,p1,p2,aJP hj,l9,lp3,lk,gw,cE,reduceIte,cT,Nat.reduceAdd]
   refine aNs m9 c9 n.p λh7 M7 m7 c7 u7=>?_
   obtain⟨H7,s7⟩:=H9.put hj m7 c7 u7
   obtain⟨F7,W7,S7⟩:=back _ h7 F9 H7 s7
   rw[aSR,aSM,←hcs,←hcr,←hco] at W7
   have W7:dT R0 (aGW b9 x9 y9 b10 x10 y10 b11 x11 y11 j (L.take (i+1)) sO gO oO) h7 F7:=W7
   obtain⟨B7,-⟩:=xE B3 nr S7
   obtain⟨_,K9,-,-⟩:=f11 W7
   obtain⟨l7,N7,m7',c7'⟩:=K9.at hj
   rw[aIn] at c7'
   have lk7:=aFu m7' c7' n.p
   obtain⟨_,K8,-,-⟩:=f9 W7
   obtain⟨l8,N8,m8',c8'⟩:=K8.at hj
   rw[aIn] at c8'
   have lk8:=aFu m8' c8' n.p
   have lf:cG PG h7 (loadAt bT (pT r 0))=some (.int .i64 n.p.f):=by rw[bT.load,B7.cell];rfl
   have lp7:cG PG h7 (loadAt aR (pT r 0))=some n.p.v:=B7.pk rfl
   have ec:aG5 (j:Int) (L.take (i+1)) n=((n.p.f==(j:Int))&&((((cO (L.take (i+1)) n.p:Nat):Int)==1)&&(((cS (L.take (i+1)) n.p:Nat):Int)==1))):=by unfold aG5;rw[if_neg k1,if_neg k2]
   cases hok:ok with
   | false=>
    simp only[gi,cE,reduceIte,cT,Nat.reduceAdd]
    exact nxt W7 S7 (by rw[hok];rfl)
   | true=>
    cases hf:n.p.f==(j:Int) with
    | false=>
     simp only[aR.f0,lf,hE,hf,gi,cE,reduceIte,cT,Nat.reduceAdd]
     exact nxt W7 S7 (by rw[hok,ec,hf];rfl)
    | true=>
     cases hv:(((cO (L.take (i+1)) n.p:Nat):Int)==1) with
     | false=>
      simp only[aR.f0,lf,hE,hf,aJP hj,l7,lp7,lk7,hv,gi,cE,reduceIte,cT,Nat.reduceAdd]
      exact nxt W7 S7 (by rw[hok,ec,hf,hv];rfl)
     | true=>
      simp only[aR.f0,lf,hE,hf,aJP hj,l7,lp7,lk7,hv,l8,lk8,gi,cE,reduceIte,cT,Nat.reduceAdd]
      exact nxt W7 S7 (by rw[hok,ec,hf,hv];rfl)
theorem dT.assoc{A B C:kG}{h:PH}{F:List Nat}(H:dT A (dT B C) h F):dT (dT A B) C h F:=by
 obtain⟨Fa,Fx,rfl,ha,⟨Fb,Fc,rfl,hb,hc,d1⟩,d2⟩:=H
 refine⟨Fa++Fb,Fc,(pH _ _ _).symm,⟨Fa,Fb,rfl,ha,hb,λx hx hm=>d2 x hx (by simp[hm])⟩,hc,λx hx hm=>?_⟩
 rcases jJ.1 hx with hx|hx
 ·exact d2 x hx (by simp[hm])
 ·exact d1 x hx hm
theorem dT.unassoc{A B C:kG}{h:PH}{F:List Nat}(H:dT (dT A B) C h F):dT A (dT B C) h F:=by
 obtain⟨Fx,Fc,rfl,⟨Fa,Fb,rfl,ha,hb,d1⟩,hc,d2⟩:=H
 refine⟨Fa,Fb++Fc,pH _ _ _,ha,⟨Fb,Fc,rfl,hb,hc,λx hx hm=>d2 x (by simp[hx]) hm⟩,λx hx hm=>?_⟩
 rcases jJ.1 hm with hm|hm
 ·exact d1 x hx hm
 ·exact d2 x (by simp[hx]) hm
def SIx.cnt(z:SIx)(j:Nat)(l:List Nt)(sO gO oO:Pk->Nat):kG:=aGW z.b8 z.x8 z.y8 z.b9 z.x9 z.y9 z.b10 z.x10 z.y10 j l sO gO oO
def aNp(j:Nat)(a:Ch):Ch:=if j=1 then a else a.committed
def aNl(j:Nat)(b:Ch):Ch:=if j=1 then b.committed else b
def aIp(j:Nat)(a b:Ch):Ch:=if j=1 then b else a
def aMS(j:Nat)(a b:Ch):List Nt:=(aIp j a b).committed.blk.flatten
theorem aV1(t c0 c1 m:Nat){j:Nat}(hj:j<2)(a b:Ch):∃(c:Nat) (W:kG->kG),(aCF c0 c1 m)[j]? =some (pT c 0)∧(∀{h F},pC t c0 c1 m a b h F->uJ h F (iO c (aIp j a b)) W)∧∀{h F},W (iO c (aIp j a b).committed) h F->pC t c0 c1 m (aNp j a) (aNl j b) h F:=by
 have:j=0∨j=1:=by omega
 rcases this with rfl|rfl
 ·exact⟨c0,λX=>dT (pM t (aCF c0 c1 m)) (dT X (iO c1 b)),rfl,λH=>(dT.right (pM.good _ _) H).comp λ_ H=>dT.left (iO.good _ _) H,λH=>H⟩
 ·exact⟨c1,λX=>dT (pM t (aCF c0 c1 m)) (dT (iO c0 a) X),rfl,λH=>(dT.right (pM.good _ _) H).comp λ_ H=>dT.right (iO.good _ _) H,λH=>H⟩
theorem aUn{s:Ch}(hl:s.tot≤1000){h:PH}{c:Nat}{F:List Nat}(H:iO c s.committed h F):(aEI s.committed ⟨(s.committed.first:Int),0⟩ 1000).1=s.committed.blk.flatten∧s.committed.blk.flatten.length≤s.tot:=by
 obtain⟨_,_,_,_,_,_,P3,_,ok3⟩:=H
 have hne:s.committed.blk≠[]:=by
  intro e
  have h1:=P3.okst.h1
  have h2:=ok3.len
  rw[e] at h2
  simp only[zLK] at h2
  omega
 have:=((aNo.first hne).log ok3.first 1000).1
 have e1:(aEI s.committed ⟨(s.committed.first:Int),0⟩ 1000).1=(s.committed.blk.flatten.drop 0).take 1000:=this
 have e2:s.committed.tot=s.tot:=aOA s
 unfold Ch.tot at e2
 have e3:s.tot=s.blk.flatten.length+s.nts.length:=rfl
 refine⟨?_,by omega⟩
 rw[e1,zLa,mV (by omega)]
theorem aRB{t c0 c1 m:Nat}{a b:Ch}{h:PH}{F:List Nat}(H:pC t c0 c1 m a b h F):Bx h t (aCF c0 c1 m):=by
 obtain⟨_,_,_,⟨_,B⟩,_,_⟩:=H
 exact B
theorem aOW{z:SIx}{j:Nat}(hj:j<2){a b:Ch}{A:List Tx}{r0 r1:Ch}{n:Nat}{sO gO oO:Pk->Nat}{h:PH}{F:List Nat}(W:z.mem a b A r0 r1 n (z.cnt j [] sO gO oO) h F)(N:Now z.h5 h F)(K5:mK z.h5)(hta:a.tot≤50)(htb:b.tot≤50){ok:Bool}{R:cD}{n64:gP}
  (hk:∀(h2:PH) (F2:List Nat) (ok2:Bool),z.mem (aNp j a) (aNl j b) A r0 r1 n (z.cnt j (aMS j a b) sO gO oO) h2 F2->Now z.h5 h2 F2->(tO (j:Int) (aMS j a b)->ok=true->ok2=true)->n64 [pT z.t 0,pT z.b8 0,pT z.b9 0,pT z.b10 0,.bool ok2,.int .i64 ((j+1:Nat):Int)] h2):
  mP R n64 (pT z.t 0) (pT z.b8 0) (pT z.b9 0) (pT z.b10 0) (.bool ok) (.int .i64 (j:Int)) h:=by
 unfold mP
 have g:((j:Int)<2)=True:=eq_true (by omega)
 have gi:=rA (i:=j) (by omega)
 have gM:∀l,kN (z.cnt j l sO gO oO):=λl=>aGW.good _ _ _ _ _ _ _ _ _ _ _ _ _ _
 have gD:kN (DTw z.m z.d0 z.d1 z.b z.mm A z.K r0 r1 n):=DTw.good _ _ _ _ _ _ _ _ _ _
 obtain⟨F0,S,hF0,back0⟩:=dT.left (gD.star (gM [])) W
 obtain⟨c,Wc,hc,foc,hW⟩:=aV1 z.t z.c0 z.c1 z.m hj a b
 have hst:(aIp j a b).tot≤50:=by unfold aIp;split<;>assumption
 obtain⟨Fa,HA,hFa,back⟩:=foc S
 have ix:=aN0 (r:=z.t) (o:=0) hj
 rw[fL] at ix
 have Bt:=aRB S
 have lc:cG PG h (loadAt dG (pT z.t j))=some (pT c 0):=by rw[dG.load,Bt.cell];exact hc
 simp only[g,fZ.f0,ix,lc,cE,reduceIte,cT,Nat.reduceAdd]
 refine aKY (N.k K5) HA λh1 F1 H1 s1=>?_
 obtain⟨F2,W2,s2⟩:=back _ h1 F1 H1 s1
 have T2:=hW W2
 obtain⟨F3,W3,s3⟩:=back0 (pC z.t z.c0 z.c1 z.m (aNp j a) (aNl j b)) h1 F2 T2 s2
 have N3:=N.step s3
 have Bt2:=aRB T2
 have lc2:∀{h2:PH},dC h1 h2->cG PG h2 (loadAt dG (pT z.t j))=some (pT c 0):=λu=>by rw[dG.load,(Bt2.ext u).cell];exact hc
 simp only[fZ.f0,eD.f0,fL,ix,lc2 cU.refl,cE,reduceIte,cT,Nat.reduceAdd]
 refine aSm H1 λh3 u3=>?_
 refine⟨lc2 u3,?_⟩
 have H3:=(iO.good _ _).ext H1 u3
 obtain⟨eL,lL⟩:=aUn (by omega) H3
 obtain⟨_,_,_,_,_,_,P3,_,ok3⟩:=id H3
 have hb3:=P3.okst.h4
 have hfst:=ok3.first
 refine aWb H3 (q:=⟨((aIp j a b).committed.first:Int),0⟩) (most:=1000) (by show(0:Int)≤((aIp j a b).committed.first:Int);omega) (by show((aIp j a b).committed.first:Int)<_;omega) (by show _≤(0:Int);decide) (by show(0:Int)<_;decide) (by decide) (by decide) λh4 v4 F4 O4 f4 u4=>?_
 rw[eL] at O4
 have eLL:(aIp j a b).committed.blk.flatten=aMS j a b:=rfl
 rw[eLL] at O4 lL
 simp only[cE,reduceIte,cT,Nat.reduceAdd]
 intro r5 hr5
 try rw[cZ]
 refine dX.fill (vs:=(aEI (aIp j a b).committed ⟨((aIp j a b).committed.first:Int),0⟩ 1000).2.cells) hr5 rfl (Pl.isC _) λh6 B6 u6=>?_
 clear B6
 have e36:=(u3.trans u4).trans u6
 have g3:kN (dT (pC z.t z.c0 z.c1 z.m (aNp j a) (aNl j b)) (dT (DTw z.m z.d0 z.d1 z.b z.mm A z.K r0 r1 n) (z.cnt j [] sO gO oO))):=(pC.good _ _ _ _ _ _).star (gD.star (gM []))
 have W6:=g3.ext W3 e36
 have O6:=O4.ext u6
 have dis:∀x∈F4,x∉F3:=λx hx hm=>g3.known (g3.ext W3 u3) x hm (f4 x hx)
 have N6:=N3.more e36
 have gR0:kN (dT (pC z.t z.c0 z.c1 z.m (aNp j a) (aNl j b)) (DTw z.m z.d0 z.d1 z.b z.mm A z.K r0 r1 n)):=(pC.good _ _ _ _ _ _).star gD
 have hl:(aMS j a b).length≤1000:=by omega
 generalize aMS j a b=L at *
 refine⟨λvs h'=>∃(i:Nat) (F:List Nat) (ok2:Bool),i≤L.length∧vs=[pT z.t 0,pT z.b8 0,pT z.b9 0,pT z.b10 0,.bool ok2,.int .i64 (j:Int),v4,.int .i64 (i:Int)]∧Now z.h5 h' F∧dT (dT (pC z.t z.c0 z.c1 z.m (aNp j a) (aNl j b)) (DTw z.m z.d0 z.d1 z.b z.mm A z.K r0 r1 n)) (z.cnt j (L.take i) sO gO oO) h' F∧eS h' eQ 5 v4 (L.map Nt.cells) F4∧(∀x∈F4,x∉F)∧(tO (j:Int) L->ok=true->ok2=true),iE L.length 7,⟨0,F3,ok,by omega,rfl,N6,dT.assoc W6,O6,dis,λ_ h=>h⟩,?_⟩
 rintro ρ h' ⟨i,FF,ok2,hi,hvs,NN,WW,OO,dd,hok⟩
 simp only[iH,iU,lF,and_true] at hvs
 obtain⟨v0,v1,v2,v3,w4,v5,v6,v7⟩:=hvs
 rw[v0,v1,v2,v3,w4,v5,v6,v7]
 by_cases hlt:i<L.length
 ·have hx:L[i]? =some L[i]:=lS hlt
  refine aT4 gR0 WW hj OO dd hl hx λh2 F5 W5 O5 d5 s5=>?_
  refine⟨⟨i+1,F5,_,by omega,rfl,NN.step s5,W5,O5,d5,λH1 H2=>?_⟩,by simp[iE,v7];omega⟩
  rw[hok H1 H2,(aTn _ _ _).2 (H1 i _ hx)];rfl
 ·unfold rX
  have ll:cV PG (Builtin.len_ #[dB] bT #[v4])=some (.int .i64 (L.length:Int)):=by
   have:=OO.slR.len (t':=bT) dB.und
   rw[jC] at this
   exact this
  have g2:((i:Int)<(L.length:Int))=False:=eq_false (by omega)
  simp only[ll,g2,gi,cE,reduceIte,cT,Nat.reduceAdd]
  rw[mV (by omega)] at WW
  exact hk h' FF ok2 (dT.unassoc WW) NN hok
structure Mi3(h h':PH)(b8 b9 b10:Nat)(cs8 cs9 cs10:List Value)(j x8 x9 x10:Nat):Prop where
 B8:Bx h' b8 (cs8.set j (.map (some x8)))
 B9:Bx h' b9 (cs9.set j (.map (some x9)))
 B10:Bx h' b10 (cs10.set j (.map (some x10)))
 M8:iQ pkE h' x8 ([]:List (Pk×Value))
 M9:iQ pkE h' x9 ([]:List (Pk×Value))
 M10:iQ pkE h' x10 ([]:List (Pk×Value))
 n8:h x8=none
 n9:h x9=none
 n10:h x10=none
 d1:x8≠x9
 d2:x8≠x10
 d3:x9≠x10
 upd:cU [b8,b9,b10] h h'
theorem aS5{h:PH}{b8 b9 b10:Nat}{cs8 cs9 cs10:List Value}(B8:Bx h b8 cs8)(B9:Bx h b9 cs9)(B10:Bx h b10 cs10)(l8:cs8.length=2)(l9:cs9.length=2)(l10:cs10.length=2)(d1:b8≠b9)(d2:b8≠b10)(d3:b9≠b10){j:Nat}(hj:j<2){t:Value}{R:cD}{n23:gP}
  (hk:∀h' x8 x9 x10,Mi3 h h' b8 b9 b10 cs8 cs9 cs10 j x8 x9 x10->n23 [t,pT b8 0,pT b9 0,pT b10 0,.int .i64 ((j+1:Nat):Int)] h'):
  oP R n23 t (pT b8 0) (pT b9 0) (pT b10 0) (.int .i64 (j:Int)) h:=by
 unfold oP
 have g:((j:Int)<2)=True:=eq_true (by omega)
 have gi:=rA (i:=j) (by omega)
 simp only[g,aEa,cE,reduceIte,cT,Nat.reduceAdd]
 intro x8 hx8
 refine fT ?_
 try rw[cZ]
 have u1:dC h (h.set x8 (.map #[] 0)):=cU.new hx8
 have M8:iQ pkE (h.set x8 (.map #[] 0)) x8 ([]:List (Pk×Value)):=iQ.new
 generalize h.set x8 (.map #[] 0)=h1 at *
 intro x9 hx9
 refine fT ?_
 try rw[cZ]
 have u2:dC h1 (h1.set x9 (.map #[] 0)):=cU.new hx9
 have M9:iQ pkE (h1.set x9 (.map #[] 0)) x9 ([]:List (Pk×Value)):=iQ.new
 generalize h1.set x9 (.map #[] 0)=h2 at *
 intro x10 hx10
 refine fT ?_
 try rw[cZ]
 have u3:dC h2 (h2.set x10 (.map #[] 0)):=cU.new hx10
 have M10:iQ pkE (h2.set x10 (.map #[] 0)) x10 ([]:List (Pk×Value)):=iQ.new
 generalize h2.set x10 (.map #[] 0)=h3 at *
 have k81:=M8.known
 have k82:=(M8.ext u2).known
 have k92:=M9.known
 have y1:x8≠x9:=λe=>k81 (e▸hx9)
 have y2:x8≠x10:=λe=>k82 (e▸hx10)
 have y3:x9≠x10:=λe=>k92 (e▸hx10)
 have M9:=M9.ext u3
 have M8:=M8.ext (u2.trans u3)
 have e3:=(dC.trans u1 u2).trans u3
 have n8:h x8=none:=hx8
 have n9:h x9=none:=u1.none hx9
 have n10:h x10=none:=(dC.trans u1 u2).none hx10
 have k8:=B8.known
 have k9:=B9.known
 have k10:=B10.known
 have ne:∀{x b:Nat},h x=none->h b≠none->x∉[b]:=λhx hb hm=>by
  simp only[fW] at hm
  subst hm
  exact hb hx
 have nb:∀{b c:Nat},b≠c->b∉[c]:=λhh hm=>by simp only[fW] at hm;exact hh hm
 have ix:∀r,cV PG (indexAt dW (pT r 0) (.int .i64 (j:Int)))=some (pT r j):=λr=>aJP hj
 simp only[ix,cE,reduceIte,cT,Nat.reduceAdd]
 refine dO.put (B8.ext e3) (o:=j) (by omega) rfl λh4 C8 u4=>?_
 refine dO.put ((B9.ext e3).upd u4 (nb d1.symm)) (o:=j) (by omega) rfl λh5 C9 u5=>?_
 refine dO.put (((B10.ext e3).upd u4 (nb d2.symm)).upd u5 (nb d3.symm)) (o:=j) (by omega) rfl λh6 C10 u6=>?_
 simp only[gi,cE,reduceIte,cT,Nat.reduceAdd]
 refine hk h6 x8 x9 x10 ⟨(C8.upd u5 (nb d1)).upd u6 (nb d2),C9.upd u6 (nb d3),C10,((M8.upd u4 (ne n8 k8)).upd u5 (ne n8 k9)).upd u6 (ne n8 k10),((M9.upd u4 (ne n9 k8)).upd u5 (ne n9 k9)).upd u6 (ne n9 k10),((M10.upd u4 (ne n10 k8)).upd u5 (ne n10 k9)).upd u6 (ne n10 k10),n8,n9,n10,y1,y2,y3,?_⟩
 refine e3.upd.trans ((u4.mono λy hy=>.inl ?_).trans ((u5.mono λy hy=>.inl ?_).trans (u6.mono λy hy=>.inl ?_)))
 ·simp only[fW] at hy;simp[hy]
 ·simp only[fW] at hy;simp[hy]
 ·simp only[fW] at hy;simp[hy]
def oQ:Pk->Nat:=λ_=>0
theorem aUg{h6 h9:PH}(e69:dC h6 h9){b8 b9 b10:Nat}(B8:Bx h9 b8 [.map none,.map none])(B9:Bx h9 b9 [.map none,.map none])(B10:Bx h9 b10 [.map none,.map none])(k8:h6 b8=none)(k9:h6 b9=none)(k10:h6 b10=none)(n89:b8≠b9)(n810:b8≠b10)(n910:b9≠b10){t:Value}{R:cD}
  (hk:∀h' x8 y8 x9 y9 x10 y10 F,dC h6 h'->eP h6 F->dT (nW b8 x8 y8 oQ oQ) (dT (nW b9 x9 y9 oQ oQ) (nW b10 x10 y10 oQ oQ)) h' F->iL [7,9,10,11,13,14] (λn64 ρ h=>mP R n64 (ρ 7) (ρ 9) (ρ 10) (ρ 11) (ρ 13) (ρ 14) h) [t,pT b8 0,pT b9 0,pT b10 0,.bool true,.int .i64 0] h'):
  iL [7,9,10,11,12] (λn39 ρ h=>oP R n39 (ρ 7) (ρ 9) (ρ 10) (ρ 11) (ρ 12) h) [t,pT b8 0,pT b9 0,pT b10 0,.int .i64 0] h9:=by
 have kb:∀y∈[b8,b9,b10],h6 y=none:=λy hy=>by
  simp only[gZ,kW,or_false] at hy
  rcases hy with rfl|rfl|rfl<;>assumption
 refine⟨λvs h'=>∃j:Nat,vs=[t,pT b8 0,pT b9 0,pT b10 0,.int .i64 (j:Int)]∧dC h6 h'∧((j=0∧Bx h' b8 [.map none,.map none]∧Bx h' b9 [.map none,.map none]∧Bx h' b10 [.map none,.map none])∨(j=1∧∃x8 x9 x10,Bx h' b8 [.map (some x8),.map none]∧Bx h' b9 [.map (some x9),.map none]∧Bx h' b10 [.map (some x10),.map none]∧iQ pkE h' x8 ([]:List (Pk×Value))∧iQ pkE h' x9 ([]:List (Pk×Value))∧iQ pkE h' x10 ([]:List (Pk×Value))∧(∀y∈[x8,x9,x10],h6 y=none∧y∉[b8,b9,b10])∧x8≠x9∧x8≠x10∧x9≠x10)∨(j=2∧∃x8 y8 x9 y9 x10 y10 F,dT (nW b8 x8 y8 oQ oQ) (dT (nW b9 x9 y9 oQ oQ) (nW b10 x10 y10 oQ oQ)) h' F∧eP h6 F)),iE 2 4,⟨0,rfl,e69,.inl ⟨rfl,B8,B9,B10⟩⟩,?_⟩
 rintro ρ h' ⟨j,hvs,E,hc⟩
 simp only[iH,iU,lF,and_true] at hvs
 obtain⟨v0,v1,v2,v3,v4⟩:=hvs
 rw[v0,v1,v2,v3,v4]
 rcases hc with⟨rfl,C8,C9,C10⟩|⟨rfl,x8,x9,x10,C8,C9,C10,M8,M9,M10,hx,m1,m2,m3⟩|⟨rfl,x8,y8,x9,y9,x10,y10,FM,WM,fM⟩
 ·refine aS5 C8 C9 C10 rfl rfl rfl n89 n810 n910 (j:=0) (by decide) λh2 x8 x9 x10 Q=>?_
  refine⟨⟨1,rfl,E.fresh Q.upd kb,.inr (.inl ⟨rfl,x8,x9,x10,Q.B8,Q.B9,Q.B10,Q.M8,Q.M9,Q.M10,λy hy=>?_,Q.d1,Q.d2,Q.d3⟩)⟩,by simp[iE,v4]⟩
  have hn:h' y=none:=by
   simp only[gZ,kW,or_false] at hy
   rcases hy with rfl|rfl|rfl
   ·exact Q.n8
   ·exact Q.n9
   ·exact Q.n10
  refine⟨E.none hn,λhm=>?_⟩
  simp only[gZ,kW,or_false] at hm
  rcases hm with rfl|rfl|rfl
  ·exact C8.known hn
  ·exact C9.known hn
  ·exact C10.known hn
 ·refine aS5 C8 C9 C10 rfl rfl rfl n89 n810 n910 (j:=1) (by decide) λh2 y8 y9 y10 Q=>?_
  have nb:∀{y:Nat},h' y=none->y∉[b8,b9,b10]:=λhn hm=>by
   simp only[gZ,kW,or_false] at hm
   rcases hm with rfl|rfl|rfl
   ·exact C8.known hn
   ·exact C9.known hn
   ·exact C10.known hn
  have q8:=nb Q.n8
  have q9:=nb Q.n9
  have q10:=nb Q.n10
  obtain⟨p8,r8⟩:=hx x8 (by simp)
  obtain⟨p9,r9⟩:=hx x9 (by simp)
  obtain⟨p10,r10⟩:=hx x10 (by simp)
  have N8:=M8.upd Q.upd r8
  have N9:=M9.upd Q.upd r9
  have N10:=M10.upd Q.upd r10
  have ap:∀{x y:Nat},h' x≠none->h' y=none->x≠y:=λhx hy e=>hx (e▸hy)
  simp only[gZ,kW,or_false,not_or] at q8 q9 q10 r8 r9 r10
  have A8:nW b8 x8 y8 oQ oQ h2 [b8,x8,y8]:=⟨rfl,Q.B8,⟨_,N8,CM.nil⟩,⟨_,Q.M8,CM.nil⟩,Ne.symm r8.1,Ne.symm q8.1,ap M8.known Q.n8⟩
  have A9:nW b9 x9 y9 oQ oQ h2 [b9,x9,y9]:=⟨rfl,Q.B9,⟨_,N9,CM.nil⟩,⟨_,Q.M9,CM.nil⟩,Ne.symm r9.2.1,Ne.symm q9.2.1,ap M9.known Q.n9⟩
  have A10:nW b10 x10 y10 oQ oQ h2 [b10,x10,y10]:=⟨rfl,Q.B10,⟨_,N10,CM.nil⟩,⟨_,Q.M10,CM.nil⟩,Ne.symm r10.2.2,Ne.symm q10.2.2,ap M10.known Q.n10⟩
  have e89:x8≠y9:=ap M8.known Q.n9
  have e810:x8≠y10:=ap M8.known Q.n10
  have e98:y8≠x9:=(ap M9.known Q.n8).symm
  have e108:y8≠x10:=(ap M10.known Q.n8).symm
  have e910:x9≠y10:=ap M9.known Q.n10
  have e109:y9≠x10:=(ap M10.known Q.n9).symm
  refine⟨⟨2,rfl,E.fresh Q.upd kb,.inr (.inr ⟨rfl,x8,y8,x9,y9,x10,y10,_,dT.mk A8 (dT.mk A9 A10 (λy hy hm=>?_)) (λy hy hm=>?_),λy hy=>?_⟩)⟩,by simp[iE,v4]⟩
  ·simp only[gZ,kW,or_false] at hy hm
   obtain⟨s1,s2,s3⟩:=q8;obtain⟨s4,s5,s6⟩:=q9;obtain⟨s7,s8,s9⟩:=q10
   obtain⟨o1,o2,o3⟩:=r8;obtain⟨o4,o5,o6⟩:=r9;obtain⟨o7,o8,o9⟩:=r10
   rcases hy with rfl|rfl|rfl<;>rcases hm with hm|hm|hm<;>first|exact absurd hm (by assumption)|exact absurd hm.symm (by assumption)|exact Q.d3 hm
  ·simp only[jJ,gZ,kW,or_false] at hy hm
   obtain⟨s1,s2,s3⟩:=q8;obtain⟨s4,s5,s6⟩:=q9;obtain⟨s7,s8,s9⟩:=q10
   obtain⟨o1,o2,o3⟩:=r8;obtain⟨o4,o5,o6⟩:=r9;obtain⟨o7,o8,o9⟩:=r10
   rcases hy with rfl|rfl|rfl<;>rcases hm with(hm|hm|hm)|(hm|hm|hm)<;>first|exact absurd hm (by assumption)|exact absurd hm.symm (by assumption)|exact Q.d1 hm|exact Q.d2 hm
  ·simp only[jJ,gZ,kW,or_false] at hy
   rcases hy with(rfl|rfl|rfl)|((rfl|rfl|rfl)|(rfl|rfl|rfl))
   ·exact k8
   ·exact p8
   ·exact E.none Q.n8
   ·exact k9
   ·exact p9
   ·exact E.none Q.n9
   ·exact k10
   ·exact p10
   ·exact E.none Q.n10
 ·unfold oP
  have g:(((2:Nat):Int)<2)=False:=eq_false (by decide)
  simp only[g,cE,reduceIte,cT,Nat.reduceAdd]
  exact hk h' x8 y8 x9 y9 x10 y10 FM E fM WM
theorem aVm(c o:Ch)(a:kM):(jU c o a).1.st.blocks.length≤c.st.blocks.length+1:=by
 rcases aHZ c o a with⟨-,-,e,-⟩|⟨-,b,-,e,-⟩|⟨-,-,e,-⟩|⟨-,-,e,-⟩|⟨-,-,e,-⟩|⟨-,e⟩|⟨e,-⟩<;>rw[e]
 ·exact yN _
 ·exact yN _
 ·exact yN _
 ·exact yN _
 ·exact yN _
 ·rw[(tU c).1]
  by_cases he:(jO c.st).2.2=0
  ·rw[(aCY he).1];simp
  ·rw[aBc he];omega
 ·omega
theorem aYJ{a b:Ch}{i:Nat}(ha:a.st.blocks.length≤i)(hb:b.st.blocks.length≤i)(x:kM):(gL a b x).1.1.st.blocks.length≤i+1∧(gL a b x).1.2.st.blocks.length≤i+1:=by
 unfold gL
 split
 ·refine⟨by show a.st.blocks.length≤i+1;omega,?_⟩
  show(jU b a x).1.st.blocks.length≤i+1
  have:=aVm b a x;omega
 ·refine⟨?_,by show b.st.blocks.length≤i+1;omega⟩
  show(jU a b x).1.st.blocks.length≤i+1
  have:=aVm a b x;omega
structure TwI(s0 s1:Ch)(A:List Tx):Prop where
 a:nQ s0 s1 A
 b:nQ s1 s0 A
theorem nQ.new{i j:Int}{a b s t:Nat}:nQ (Ch.new i a s) (Ch.new j b t) [] where
 ok:=tO.nil _
 s1:=λp hp=>by simp[Ch.all,Ch.new] at hp
 s2:=⟨λq hq=>by simp[Ch.new] at hq,λb hb q hq=>by
  simp only[Ch.new,fW] at hb
  subst hb;cases hq⟩
 s3:=λp hp=>by simp[Ch.all,Ch.new] at hp
 s4:=λp hp=>by simp[Ch.all,Ch.new] at hp
 s5:=λp hp=>by simp[Ch.all,Ch.new] at hp
 cl:=λy hy=>by simp[Ch.new] at hy
 mx:=λ_=>rfl
theorem TwI.new{a b s t:Nat}:TwI (Ch.new 0 a s) (Ch.new 1 b t) []:=⟨nQ.new,nQ.new⟩
theorem TwI.step{s0 s1:Ch}{x:kM}{A:List Tx}(H:TwI s0 s1 A)(U:wK (twA s0 s1 x++A))(i0:s0.id=0)(i1:s1.id=1)(w:x.wf)(ok0:s0.st.Ok)(ok1:s1.st.Ok)(q0:s0.seq<18446744073709551616)(q1:s1.seq<18446744073709551616):TwI (gL s0 s1 x).1.1 (gL s0 s1 x).1.2 (twA s0 s1 x++A):=by
 unfold gL twA at *
 by_cases c:x.id=1
 ·rw[if_pos c] at U
  rw[if_pos c,if_pos c]
  obtain⟨h1,h2⟩:=aOP H.b H.a U (by rw[i0,i1];decide) w ok1 ok0 q1
  exact⟨h2,h1⟩
 ·rw[if_neg c] at U
  rw[if_neg c,if_neg c]
  obtain⟨h1,h2⟩:=aOP H.a H.b U (by rw[i0,i1];decide) w ok0 ok1 q0
  exact⟨h1,h2⟩
theorem TwI.com{s0 s1:Ch}{A:List Tx}(H:TwI s0 s1 A)(ok0:s0.st.Ok):TwI s0.committed s1 A:=by
 refine⟨H.a.com,H.b.other (λp hp=>by rw[aNz];exact hp) (λx b hx=>?_)⟩
 rw[(tU s0).1];exact aMf ok0 hx
theorem nQ.flat{c o:Ch}{A:List Tx}(H:nQ c o A)(hb:c.st.blocks.length<4096):c.committed.blk.flatten=c.all:=by
 unfold Ch.committed
 by_cases he:(jO c.st).2.2=0
 ·rw[if_pos he];unfold Ch.all;simp
 ·rw[if_neg he]
  have hm:c.st.height=18446744073709551615:=by
   unfold jO at he
   by_cases h1:c.st.height=18446744073709551615
   ·exact h1
   ·rw[if_neg h1,if_neg (by omega)] at he;exact absurd rfl he
  unfold Ch.all
  rw[H.mx hm,zLN]
theorem nQ.sentOne{c o:Ch}{A:List Tx}(H:nQ c o A)(K:nQ o c A){p:Pk}(h:cR c.all p≠0):cS o.all p=1:=by
 have hm:(⟨2,p⟩:Nt)∈c.all:=by
  by_cases hx:(⟨2,p⟩:Nt)∈c.all
  ·exact hx
  ·exact absurd (aRQ λn hn e1 e2=>hx (by rw[←aR0 e1 e2];exact hn)) h
 exact K.ok.one _ (H.s5 p hm)
theorem aLq{α:Type}{x:Option α}{a:α}{k:α->Prop}(h:x=some a)(hk:k a):dZ x k:=by rw[h];exact hk
theorem aW2{a b:Prop}(h:a):dH (.bool true) a b:=h
theorem wK.sub{A B:List Tx}(U:wK (B++A)):wK A:=λa ha b hb e=>U a (zLk _ ha) b (zLk _ hb) e
section
variable{z:SIx}{i:Nat}{s0 s1:Ch}{A:List Tx}{ok:Bool}{g0 g1 a0 a1 t0 t1:List Pk}{x:kM}(H:wK A->ok=true∧SI s0 s1 A (aUJ g0 g1) (aUJ a0 a1) (aUJ t0 t1))(i0:s0.id=0)(i1:s1.id=1)(w:x.wf)(o0:s0.DOk∧s0.st.Ok)(o1:s1.DOk∧s1.st.Ok)
include H i0 i1 w o0 o1
variable(f0:0≤x.p.f)(f1:x.p.f≤1)(he:(gL s0 s1 x).2.2.2=0)
include f0 f1 he
end
theorem aUV{h:PH}(hK:mK h){a b s0 s1:Nat}(ha:a<18446744073709551616)(hb:b<18446744073709551616)(hs0:s0<18446744073709551616)(hs1:s1<18446744073709551616)(z0:s0≠0)(z1:s1≠0){k:cD}
  (hk:∀h' t F,aMd t (Ch.new 0 a s0) (Ch.new 1 b s1) h' F->eP h F->dC h h'->k (pT t 0) h'):aT PG uI #[tS a b,tS s0 s1] h k:=
 aPa hK ha hb hs0 hs1 z0 z1 λh' t F ⟨c0,c1,m,d0,d1,b,mm,K,Fa,Fb,eF,hT,hD,hd⟩ f u=>hk h' t Fa ⟨c0,c1,m,hT⟩ (λy hy=>f y (by rw[eF];simp[hy])) u
theorem aQU{h:PH}(hK:mK h){k:cD}(hk:∀h',dC h h'->k (.bool true) h'):aT PG aCR #[] h k:=by
 apply aA6.call
 unfold aA6
 simp only[aYu,aZD,cE,reduceIte,cT,Nat.reduceAdd]
 refine aUV hK (by decide) (by decide) (by decide) (by decide) (by decide) (by decide) λh1 t F1 T1 f1 u1=>?_
 have N1:Now h h1 F1:=⟨u1,f1⟩
 have nilT:∀{h'':PH} {x y:Operand} {c:Nat},cG PG h'' (jQ .eql mU x y (pT c 0) (.pointer none))=some (.bool false):=aEH mU.und
 obtain⟨c0,c1,m,S1⟩:=T1
 have S1:pC t c0 c1 m xa xb h1 F1:=S1
 have bt:∀{a b:Ch} {h' F'},pC t c0 c1 m a b h' F'->cG PG h' (loadAt dG (pT t 0))=some (pT c0 0):=λS=>by
  obtain⟨_,_,_,⟨_,B⟩,_,_⟩:=S
  rw[dG.load,B.cell];rfl
 have j0:cV PG (indexAt jP (pT t 0) (.int .i64 0))=some (pT t 0):=aN0 (i:=0) (by decide)
 have foc:∀{a b:Ch} {h' F'},pC t c0 c1 m a b h' F'->uJ h' F' (iO c0 a) (λX=>dT (pM t (aCF c0 c1 m)) (dT X (iO c1 b))):=λS=>(dT.right (pM.good _ _) S).comp λ_ H=>dT.left (iO.good _ _) H
 have q120:({data:=#[120]}:ByteArray)=tx [120]:=rfl
 simp only[nilT,fZ.f0,j0,bt S1,q120,cE,reduceIte,cT,Nat.reduceAdd]
 obtain⟨Fa,HA,hFa,back⟩:=foc S1
 refine aPY (t:=20) (N1.k hK) HA [120] (by decide) (by decide) (λhe=>absurd aXT he) λ_ h2 F2 H2 s2=>?_
 obtain⟨F3,W3,s3⟩:=back _ h2 F2 H2 s2
 have S3:pC t c0 c1 m xa1 xb h2 F3:=W3
 have N3:=N1.step s3
 simp only[cE,reduceIte,cT,Nat.reduceAdd]
 intro r14 hr14
 try rw[cZ]
 refine aR.fill (vs:=xp.cells) hr14 rfl (Pk.isC _) λh4 B4 u4=>?_
 have n4:r14∉F3:=λhm=>(pC.good _ _ _ _ _ _).known S3 _ hm hr14
 have S4:=(pC.good _ _ _ _ _ _).ext S3 u4
 have N4:=N3.more u4
 simp only[fZ.f0,j0,bt S4,cE,reduceIte,cT,Nat.reduceAdd]
 obtain⟨Fb,HB,hFb,back2⟩:=foc S4
 refine aKY (N4.k hK) HB λh5 F5 H5 s5=>?_
 obtain⟨F6,W6,s6⟩:=back2 _ h5 F5 H5 s5
 have S6:pC t c0 c1 m xa2 xb h5 F6:=W6
 have N6:=N4.step s6
 obtain⟨B6,n6⟩:=xE B4 n4 s6
 simp only[aYY,aYn,cE,reduceIte,cT,Nat.reduceAdd]
 refine aRY ⟨c0,c1,m,S6⟩ (N6.k hK) (N6.z hK) (x:=xc1) ⟨by decide,⟨by decide,by decide,by decide,by decide⟩⟩ (by decide) (by decide) λh7 F7 T7 s7=>?_
 rw[aW5] at T7 ⊢
 have N7:=N6.step s7
 obtain⟨B7,n7⟩:=xE B6 n6 s7
 simp only[cE,reduceIte,cT,Nat.reduceAdd]
 intro r32 hr32
 try rw[cZ]
 refine aR.fill (vs:=Pk.cells default) hr32 rfl (Pk.isC _) λh8 B8 u8=>?_
 have T8:=(aMd.good _ _ _).ext T7 u8
 have N8:=N7.more u8
 have C8:=B7.ext u8
 have l8:cG PG h8 (loadAt aR (pT r14 0))=some xp.v:=C8.pk rfl
 simp only[l8,aVo,cE,reduceIte,cT,Nat.reduceAdd]
 have w2:xc2.wf:=⟨by decide,aYT⟩
 refine aRY T8 (N8.k hK) (N8.z hK) (x:=xc2) w2 (by decide) (by decide) λh9 F9 T9 s9=>?_
 rw[aWN] at T9 ⊢
 have N9:=N8.step s9
 obtain⟨B9,n9⟩:=xE C8 n7 s9
 simp only[cE,reduceIte,cT,Nat.reduceAdd]
 intro r43 hr43
 try rw[cZ]
 refine aR.fill (vs:=Pk.cells default) hr43 rfl (Pk.isC _) λh10 B10 u10=>?_
 have T10:=(aMd.good _ _ _).ext T9 u10
 have N10:=N9.more u10
 have C10:=B9.ext u10
 have l10:cG PG h10 (loadAt aR (pT r14 0))=some xp.v:=C10.pk rfl
 simp only[l10,aVo,cE,reduceIte,cT,Nat.reduceAdd]
 refine aRY T10 (N10.k hK) (N10.z hK) (x:=xc2) w2 (by decide) (by decide) λh11 F11 T11 s11=>?_
 rw[aV2] at T11 ⊢
 have N11:=N10.step s11
 obtain⟨B11,n11⟩:=xE C10 n9 s11
 simp only[cE,reduceIte,cT,Nat.reduceAdd]
 intro r54 hr54
 try rw[cZ]
 refine aR.fill (vs:=Pk.cells default) hr54 rfl (Pk.isC _) λh12 B12 u12=>?_
 have ls:cG PG h12 (loadAt cA (pT r14 1))=some (.int .u64 1):=by rw[cA.load,(B11.ext u12).cell];rfl
 have q1:((0:Int)==0)=true:=by decide
 have q2:((1:Int)==1)=true:=by decide
 have q3:(((6:Nat):Int)==6)=true:=by decide
 have q4:((4:Int)==4)=true:=by decide
 simp only[hE,q1,q2,q3,q4,aR.f1,fL,ls,cE,reduceIte,cT,Nat.reduceAdd]
 exact hk h12 (N11.more u12).ext
theorem aU8{h:PH}{b m:Nat}{A:List Tx}{K:List Nat}(H:Bk b m A K h):∃c:Bool,cG PG h (loadAt gF (pT b 3))=some (.bool c)∧(¬wK A->c=true):=by
 obtain⟨c,A',B,hs⟩:=H
 refine⟨c,?_,λhn=>?_⟩
 ·obtain⟨kv,hv,l,h1,-⟩:=B.here
  rw[gF.load]
  simp[dD,h1]
 ·cases c with
  | true=>rfl
  | false=>
   have U:=B.uniq
   exact absurd (λa ha b hb e=>U a (hs a ha) b (hs b hb) e) hn
theorem aUO{t c0 c1 m d0 d1 b mm:Nat}{K:List Nat}{s0 s1 r0 r1:Ch}{A:List Tx}{n:Nat}{M:kG}{h:PH}{F:List Nat}(W:dT (pC t c0 c1 m s0 s1) (dT (DTw m d0 d1 b mm A K r0 r1 n) M) h F):∃c:Bool,cG PG h (loadAt kD (pT t 2))=some (pT m 0)∧cG PG h (loadAt gV (pT m 0))=some (pT d0 0)∧cG PG h (loadAt fU (pT d0 0))=some (pT b 0)∧cG PG h (loadAt gF (pT b 3))=some (.bool c)∧(¬wK A->c=true):=by
 obtain⟨Fa,Fb,-,⟨F1,F2,-,⟨-,Bt⟩,-,-⟩,⟨F3,F4,-,⟨F5,F6,-,⟨F7,F8,-,⟨-,HB⟩,HD,-⟩,⟨F9,F10,-,⟨-,Bm⟩,-,-⟩,-⟩,-,-⟩,-⟩:=W
 obtain⟨c,k1,k2⟩:=aU8 HB
 obtain⟨sp,cp,bv,nv,P⟩:=HD
 exact⟨c,by rw[kD.load,Bt.cell];rfl,by rw[gV.load,Bm.cell];rfl,dl0 P.cell,k1,k2⟩
theorem CM.of_mem{M:List (Pk×Value)}{c:Pk->Nat}(H:CM M c){p:Pk}{v:Value}(h:(p,v)∈M):c p≠0:=λe=>by
 have h1:=H p
 rw[if_pos e] at h1
 unfold rP at h1
 rw[Option.map_eq_none_iff,List.find?_eq_none] at h1
 exact h1 _ h (by simp)
def SIx.cms(z:SIx)(p0 p1 q0 q1 o0 o1:Pk->Nat):kG:=dT (nW z.b8 z.x8 z.y8 p0 p1) (dT (nW z.b9 z.x9 z.y9 q0 q1) (nW z.b10 z.x10 z.y10 o0 o1))
theorem SIx.cms_good(z:SIx)(p0 p1 q0 q1 o0 o1:Pk->Nat):kN (z.cms p0 p1 q0 q1 o0 o1):=(nW.good _ _ _ _ _).star ((nW.good _ _ _ _ _).star (nW.good _ _ _ _ _))
theorem aSr{z:SIx}{s0 s1 r0 r1:Ch}{A:List Tx}{n:Nat}{p0 p1 q0 q1 o0 o1:Pk->Nat}{h:PH}{F:List Nat}(W:z.mem s0 s1 A r0 r1 n (z.cms p0 p1 q0 q1 o0 o1) h F):(∃F8,nW z.b8 z.x8 z.y8 p0 p1 h F8)∧∃F9,nW z.b9 z.x9 z.y9 q0 q1 h F9:=by
 obtain⟨_,_,-,-,⟨_,_,-,-,⟨F8,_,-,h8,⟨F9,_,-,h9,-,-⟩,-⟩,-⟩,-⟩:=W
 exact⟨⟨F8,h8⟩,F9,h9⟩
theorem aWO{z:SIx}{s0 s1 r0 r1:Ch}{A:List Tx}{n:Nat}{p0 p1 q0 q1 o0 o1:Pk->Nat}{h:PH}{F:List Nat}(N:Now z.h5 h F)(W:z.mem s0 s1 A r0 r1 n (z.cms p0 p1 q0 q1 o0 o1) h F){ok:Bool}(P:wK A->ok=true)(Q:wK A->∀j,j<2->∀p,aPT j q0 q1 p≠0->aPT j p0 p1 p=1){R:cD}(hk:∀h',dC z.h5 h'->R (.bool true) h'):
  iL [7,9,10,13,19] (λn299 ρ h=>xG R n299 (ρ 7) (ρ 9) (ρ 10) (ρ 13) (ρ 19) h) [pT z.t 0,pT z.b8 0,pT z.b9 0,.bool ok,.int .i64 0] h:=by
 have gW:kN (z.mem s0 s1 A r0 r1 n (z.cms p0 p1 q0 q1 o0 o1)):=z.mem_good _ _ _ _ _ _ (z.cms_good _ _ _ _ _ _)
 refine⟨λvs h'=>∃(j:Nat) (ok:Bool),j≤2∧vs=[pT z.t 0,pT z.b8 0,pT z.b9 0,.bool ok,.int .i64 (j:Int)]∧dC h h'∧(wK A->ok=true),iE 2 4,⟨0,ok,by omega,rfl,cU.refl,P⟩,?_⟩
 clear P ok
 rintro ρ h' ⟨j,ok,hj,hvs,u,P⟩
 simp only[iH,iU,lF,and_true] at hvs
 obtain⟨v0,v1,v2,v3,v4⟩:=hvs
 rw[v0,v1,v2,v3,v4]
 unfold xG
 have W':=gW.ext W u
 by_cases hlt:j<2
 ·have g:((j:Int)<2)=True:=eq_true (by omega)
  have gi:=rA (i:=j) (by omega)
  obtain⟨-,F9,H9⟩:=aSr W'
  obtain⟨l9,M,m9,c9⟩:=H9.at hlt
  simp only[g,aJP hlt,l9,cE,reduceIte,cT,Nat.reduceAdd]
  refine aPm dO.und m9 λit h1 hit HI u1=>?_
  refine⟨λvs h2=>∃(D:List (Pk×Value)) (ok:Bool),vs=[pT z.t 0,pT z.b8 0,pT z.b9 0,.bool ok,.int .i64 (j:Int),pT it 0]∧aBZ pkE h2 (atC j z.x9 z.y9) it M D∧dC h' h2∧(wK A->ok=true),λ_ h2=>aJa M.length it h2,⟨[],ok,rfl,HI,u1,P⟩,?_⟩
  clear P
  rintro ρ2 h2 ⟨D,ok2,hvs2,HI2,u2,P2⟩
  simp only[iH,iU,lF,and_true] at hvs2
  obtain⟨w0,w1,w2,w3,w4,w5⟩:=hvs2
  rw[w0,w1,w2,w3,w4,w5]
  unfold aCZ
  refine aRU HI2 (λhperm=>?_) (λa v h3 hmem hnot HI3 u3=>?_)
  ·simp only[gi,cE,reduceIte,cT,Nat.reduceAdd]
   exact⟨⟨j+1,ok2,by omega,rfl,u.trans u2,P2⟩,by simp[iE,v4];omega⟩
  ·have e3:dC h' h3:=u2.fresh u3 (eP.one hit)
   simp only[cE,reduceIte,cT,Nat.reduceAdd]
   refine aQL HI3 ?_
   have ek:pkE a=a.v:=rfl
   simp only[ek,cE,reduceIte,cT,Nat.reduceAdd]
   intro r hr
   try rw[cZ]
   refine aR.fill (vs:=a.cells) hr rfl (Pk.isC _) λh4 B4 u4=>?_
   have e4:=e3.trans u4
   have HI4:=HI3.upd u4 (by simp) (by simp)
   obtain⟨⟨F8,H8⟩,-⟩:=aSr (gW.ext W' e4)
   obtain⟨l8,M8,m8,c8⟩:=H8.at hlt
   have lk:=aFu m8 c8 a
   have lp:cG PG h4 (loadAt aR (pT r 0))=some a.v:=B4.pk rfl
   have left:aJa M.length it h4<aJa M.length it h2:=by
    rw[HI4.left,HI2.left]
    have:=HI4.le
    simp only[jE,tT,zLK] at this ⊢
    omega
   cases ok2 with
   | false=>
    simp only[cE,reduceIte,cT,Nat.reduceAdd]
    exact⟨⟨_,false,by trivial,HI4,e4,P2⟩,left⟩
   | true=>
    simp only[aJP hlt,l8,lp,lk,hE,cE,reduceIte,cT,Nat.reduceAdd]
    refine⟨⟨_,_,by trivial,HI4,e4,λU=>?_⟩,left⟩
    rw[Q U j hlt a (c9.of_mem hmem)];rfl
 ·have g:((j:Int)<2)=False:=eq_false (by omega)
  have N':=N.more u
  cases hok:ok with
  | true=>
   simp only[g,cE,reduceIte,cT,Nat.reduceAdd]
   exact hk h' N'.ext
  | false=>
   obtain⟨c,l1,l2,l3,l4,l5⟩:=aUO W'
   have hc:c=true:=l5 λU=>by
    have:=P U
    rw[hok] at this
    cases this
   subst hc
   have ix:=aVK (r:=z.m) (o:=0) (i:=0) (by decide)
   rw[fL,show((0:Nat):Int)=0 from rfl] at ix
   simp only[g,fZ.f1,kH.f0,cQ.f0,fS.f3,fL,l1,ix,l2,l3,l4,cE,reduceIte,cT,Nat.reduceAdd]
   exact hk h' N'.ext
def aMg:kG:=λ_ F=>F=[]
theorem aMg.good:kN aMg:=⟨λH b hb=>(by rw[show _=[] from H] at hb;cases hb),λH _ _=>H⟩
def aR9(z:SIx)(i:Nat)(h:PH):Prop:=∃(s0 s1:Ch) (A:List Tx) (n:Nat) (F:List Nat),SIs z i s0 s1 A n∧Now z.h5 h F∧z.mem s0 s1 A s0 s1 n aMg h F∧(s0.tot≤i∧s1.tot≤i)∧(s0.st.blocks.length≤i+1∧s1.st.blocks.length≤i+1)∧(wK A->TwI s0 s1 A)
theorem aUP{z:SIx}{i:Nat}{h:PH}(I:aR9 z i h)(K5:mK z.h5)(S:fY z.h5 9 z.v (z.l.map kM.cells))(hl:z.l.length≤50){x:kM}(hx:z.l[i]? =some x)(wx:x.wf)(hd:x.d.length≤2000){R:cD}{n17:gP}
  (hk:∀h2,aR9 z (i+1) h2->n17 [z.v,pT z.t 0,.int .i64 ((i+1:Nat):Int)] h2):
  rV R n17 z.v (pT z.t 0) (.int .i64 (i:Int)) h:=by
 unfold rV
 obtain⟨s0,s1,A,n,F,J,N,W,⟨t0,t1⟩,⟨b0,b1⟩,P⟩:=I
 have hlt:i<z.l.length:=(zLx.1 hx).1
 have g:((i:Int)<(z.l.length:Int))=True:=eq_true (by omega)
 have gi:=rA (i:=i) (by omega)
 have hb:cV PG (binOp BinOp.lss bT (.int .i64 (i:Int)) (.int .i64 (z.l.length:Int)))=some (.bool true):=by simp only[g,cE,reduceIte,cT,Nat.reduceAdd]
 obtain⟨bk,o,q1,q2⟩:=S.tac4 hx
 obtain⟨-,la,-⟩:=q2 h N.ext
 obtain⟨Fa,HT,-,-⟩:=dT.left ((DTw.good _ _ _ _ _ _ _ _ _ _).star aMg.good) W
 obtain⟨o0,o1⟩:=aMO HT J.k0 J.k1
 refine aLq (aN8 S) ?_
 refine aLq hb ?_
 refine aW2 ?_
 refine aLq q1 ?_
 refine aLq la ?_
 refine aRe aMg.good J N W K5 S hl hx wx hd λh4 F4 N4 W4 J4=>?_
 simp only[gi,cE,reduceIte,cT,Nat.reduceAdd]
 exact hk h4 ⟨_,_,_,_,F4,J4,N4,W4,aXN t0 t1 x,aYJ b0 b1 x,λU=>(P U.sub).step U J.i0 J.i1 wx o0.2 o1.2 o0.1.seq o1.1.seq⟩
theorem aRk{z:SIx}{s0 s1:Ch}{A:List Tx}{r0 r1:Ch}{n:Nat}{h:PH}{F:List Nat}(W:z.mem s0 s1 A r0 r1 n (z.cms oQ oQ oQ oQ oQ oQ) h F)(N:Now z.h5 h F)(K5:mK z.h5)(i0:s0.id=0)(i1:s1.id=1)(t0:s0.tot≤50)(t1:s1.tot≤50)(b0:s0.st.blocks.length≤51)(b1:s1.st.blocks.length≤51)(ok0:s0.st.Ok)(P:wK A->TwI s0 s1 A){R:cD}(hk:∀h',dC z.h5 h'->R (.bool true) h'):
  iL [7,9,10,11,13,14] (λn64 ρ h=>mP R n64 (ρ 7) (ρ 9) (ρ 10) (ρ 11) (ρ 13) (ρ 14) h) [pT z.t 0,pT z.b8 0,pT z.b9 0,pT z.b10 0,.bool true,.int .i64 0] h:=by
 generalize eL0:aMS 0 s0 s1=L0
 generalize eL1:aMS 1 s0.committed s1=L1
 have tc:s0.committed.tot≤50:=by rw[aOA];exact t0
 have bc:s0.committed.st.blocks.length≤52:=by
  rw[(tU s0).1]
  by_cases he:(jO s0.st).2.2=0
  ·rw[(aCY he).1];simp;omega
  ·rw[aBc he];omega
 -- what is known where no two texts clash
 have PP:wK A->L0=s0.all∧L1=s1.all∧tO 0 L0∧tO 1 L1∧(∀p,cR s1.all p≠0->cS s0.all p=1)∧∀p,cR s0.all p≠0->cS s1.all p=1:=λU=>by
  have T:=P U
  have e0:L0=s0.all:=by rw[←eL0];exact T.a.flat (by omega)
  have e1:L1=s1.all:=by rw[←eL1];exact T.b.flat (by omega)
  have o0:=T.a.ok
  have o1:=T.b.ok
  rw[i0] at o0
  rw[i1] at o1
  exact⟨e0,e1,by rw[e0];exact o0,by rw[e1];exact o1,λp hp=>T.b.sentOne T.a hp,λp hp=>T.a.sentOne T.b hp⟩
 refine⟨λvs h'=>∃(j:Nat) (ok:Bool) (F:List Nat),vs=[pT z.t 0,pT z.b8 0,pT z.b9 0,pT z.b10 0,.bool ok,.int .i64 (j:Int)]∧Now z.h5 h' F∧(wK A->ok=true)∧((j=0∧z.mem s0 s1 A r0 r1 n (z.cms oQ oQ oQ oQ oQ oQ) h' F)∨(j=1∧z.mem s0.committed s1 A r0 r1 n (z.cms (cS L0) oQ oQ (cR L0) (cO L0) oQ) h' F)∨(j=2∧z.mem s0.committed s1.committed A r0 r1 n (z.cms (cS L0) (cS L1) (cR L1) (cR L0) (cO L0) (cO L1)) h' F)),iE 2 5,⟨0,true,F,rfl,N,λ_=>rfl,.inl ⟨rfl,W⟩⟩,?_⟩
 clear W N F
 rintro ρ h' ⟨j,ok,F,hvs,N,hok,hc⟩
 simp only[iH,iU,lF,and_true] at hvs
 obtain⟨v0,v1,v2,v3,v4,v5⟩:=hvs
 rw[v0,v1,v2,v3,v4,v5]
 rcases hc with⟨rfl,W⟩|⟨rfl,W⟩|⟨rfl,W⟩
 ·have e:z.cnt 0 [] oQ oQ oQ=z.cms oQ oQ oQ oQ oQ oQ:=rfl
  rw[←e] at W
  refine aOW (j:=0) (by decide) W N K5 t0 t1 λh2 F2 ok2 W2 N2 hok2=>?_
  rw[eL0] at W2 hok2
  exact⟨⟨1,ok2,F2,rfl,N2,λU=>hok2 (PP U).2.2.1 (hok U),.inr (.inl ⟨rfl,W2⟩)⟩,by simp[iE,v5]⟩
 ·have e:z.cnt 1 [] (cS L0) (cR L0) (cO L0)=z.cms (cS L0) oQ oQ (cR L0) (cO L0) oQ:=rfl
  rw[←e] at W
  refine aOW (j:=1) (by decide) W N K5 tc t1 λh2 F2 ok2 W2 N2 hok2=>?_
  rw[eL1] at W2 hok2
  exact⟨⟨2,ok2,F2,rfl,N2,λU=>hok2 (PP U).2.2.2.1 (hok U),.inr (.inr ⟨rfl,W2⟩)⟩,by simp[iE,v5]⟩
 ·unfold mP
  have g:(((2:Nat):Int)<2)=False:=eq_false (by decide)
  simp only[g,cE,reduceIte,cT,Nat.reduceAdd]
  refine aWO N W hok (λU j hj p hp=>?_) hk
  obtain⟨e0,e1,-,-,q0,q1⟩:=PP U
  rw[e0,e1] at hp ⊢
  have:j=0∨j=1:=by omega
  rcases this with rfl|rfl
  ·exact q0 p hp
  ·exact q1 p hp
theorem aPl{h:PH}(hK:mK h){a b s0 s1:Nat}(ha:a<18446744073709551616)(hb:b<18446744073709551616)(hs0:s0<18446744073709551616)(hs1:s1<18446744073709551616){v:Value}{l:List kM}(S:fY h 9 v (l.map kM.cells))(w:∀x∈l,x.wf){k:cD}(hk:∀h',dC h h'->k (.bool true) h'):
  aT PG zL #[tS a b,tS s0 s1,v] h k:=by
 apply oZ.call
 unfold oZ
 intro r1 hr1
 try rw[cZ]
 have u1:dC h (h.set r1 (.cells (Value.cells (tS a b)) eJ)):=cU.new hr1
 have B1:Bx (h.set r1 (.cells (Value.cells (tS a b)) eJ)) r1 (u2c a b):=Bx.new
 generalize h.set r1 (.cells (Value.cells (tS a b)) eJ)=h1 at *
 intro r3 hr3
 try rw[cZ]
 have u3:dC h1 (h1.set r3 (.cells (Value.cells (tS s0 s1)) eJ)):=cU.new hr3
 have B3:Bx (h1.set r3 (.cells (Value.cells (tS s0 s1)) eJ)) r3 (u2c s0 s1):=Bx.new
 have C1:=B1.ext u3
 generalize h1.set r3 (.cells (Value.cells (tS s0 s1)) eJ)=h3 at *
 have e3:=u1.trans u3
 have la:∀{h'':PH},dC h3 h''->cG PG h'' (loadAt eJ (pT r1 0))=some (tS a b):=λv=>eJ.agg (C1.ext v) (by show 0+2≤2;decide)
 have ls:∀{h'':PH},dC h3 h''->cG PG h'' (loadAt eJ (pT r3 0))=some (tS s0 s1):=λv=>eJ.agg (B3.ext v) (by show 0+2≤2;decide)
 refine aQU (hK.ext e3) λh4 u4=>?_
 simp only[ls u4,cE,reduceIte,cT,Nat.reduceAdd]
 refine aSa (S.ext (e3.trans u4)) λh5 bb hbb u5=>?_
 have e35:=u4.trans u5
 have e5:=e3.trans e35
 cases bb with
 | false=>
  simp only[cE,reduceIte,cT,Nat.reduceAdd]
  exact hk h5 e5
 | true=>
  obtain⟨z0,z1,hl,hdat⟩:=hbb rfl
  simp only[la e35,ls e35,cE,reduceIte,cT,Nat.reduceAdd]
  refine aPa (hK.ext e5) ha hb hs0 hs1 z0 z1 λh6 t F6 T6 f6 u6=>?_
  have nilT:∀{h'':PH} {x y:Operand} {c:Nat},cG PG h'' (jQ .eql mU x y (pT c 0) (.pointer none))=some (.bool false):=aEH mU.und
  have K5:=hK.ext e5
  have S5:=S.ext e5
  obtain⟨c0,c1,m,d0,d1,bk,mm,K,T6⟩:=T6
  have gT:kN (dT (pC t c0 c1 m (Ch.new 0 a s0) (Ch.new 1 b s1)) (DTw m d0 d1 bk mm [] K (Ch.new 0 a s0) (Ch.new 1 b s1) 1)):=(pC.good _ _ _ _ _ _).star (DTw.good _ _ _ _ _ _ _ _ _ _)
  simp only[nilT,cE,reduceIte,cT,Nat.reduceAdd]
  let z:SIx:=⟨h5,v,l,t,c0,c1,m,d0,d1,bk,mm,K,0,0,0,0,0,0,0,0,0⟩
  have I0:aR9 z 0 h6:=by
   obtain⟨Fa,Fb,eF,hA,hB,hd⟩:=T6
   refine⟨_,_,[],1,Fa++(Fb++[]),⟨by omega,by omega,qZ _,qZ _,⟨by simp[Ch.new],by simp[Ch.new,yX]⟩,⟨by simp[Ch.new],by simp[Ch.new,yX]⟩,rfl,rfl⟩,⟨u6,λy hy=>f6 y (by rw[eF];simpa using hy)⟩,dT.mk hA (dT.mk hB rfl (λy _ hm=>by cases hm)) (λy hy hm=>hd y hy (by simpa using hm)),⟨qZ _,qZ _⟩,⟨by simp[Ch.new],by simp[Ch.new]⟩,λ_=>TwI.new⟩
  refine⟨λvs h2=>∃i:Nat,i≤l.length∧vs=[v,pT t 0,.int .i64 (i:Int)]∧aR9 z i h2,iE l.length 2,⟨0,by omega,rfl,I0⟩,?_⟩
  rintro ρ h2 ⟨i,hi,hvs,I⟩
  simp only[iH,iU,lF,and_true] at hvs
  obtain⟨w0,w1,w2⟩:=hvs
  rw[w0,w1,w2]
  by_cases hlt:i<l.length
  ·obtain⟨x,hx⟩:∃x,l[i]? =some x:=⟨_,lS hlt⟩
   have hm:=sH hx
   refine aUP (z:=z) I K5 S5 hl hx (w x hm) (hdat x hm).1 λh3 I3=>?_
   exact⟨⟨i+1,by omega,rfl,I3⟩,by simp[iE,w2];omega⟩
  ·obtain⟨r0,r1,A,n,F,J,N,W,⟨t0,t1⟩,⟨q0,q1⟩,P⟩:=I
   unfold rV
   have g:((i:Int)<(l.length:Int))=False:=eq_false (by omega)
   have ll:=aN8 S5
   simp only[ll,g,cE,reduceIte,cT,Nat.reduceAdd]
   intro b8 hb8
   try rw[cZ]
   have u7:dC h2 (h2.set b8 (.cells (dP PG dW) dW)):=cU.new hb8
   have B8:Bx (h2.set b8 (.cells (dP PG dW) dW)) b8 [.map none,.map none]:=dW.zbox
   generalize h2.set b8 (.cells (dP PG dW) dW)=h7 at *
   intro b9 hb9
   try rw[cZ]
   have n89:b8≠b9:=B8.apart hb9
   have u8:dC h7 (h7.set b9 (.cells (dP PG dW) dW)):=cU.new hb9
   have B9:Bx (h7.set b9 (.cells (dP PG dW) dW)) b9 [.map none,.map none]:=dW.zbox
   have B8:=B8.ext u8
   generalize h7.set b9 (.cells (dP PG dW) dW)=h8 at *
   intro b10 hb10
   try rw[cZ]
   have n810:b8≠b10:=B8.apart hb10
   have n910:b9≠b10:=B9.apart hb10
   have u9:dC h8 (h8.set b10 (.cells (dP PG dW) dW)):=cU.new hb10
   have B10:Bx (h8.set b10 (.cells (dP PG dW) dW)) b10 [.map none,.map none]:=dW.zbox
   have B8:=B8.ext u9
   have B9:=B9.ext u9
   generalize h8.set b10 (.cells (dP PG dW) dW)=h9 at *
   have e69:=(dC.trans u7 u8).trans u9
   have k8:h2 b8=none:=hb8
   have k9:h2 b9=none:=u7.none hb9
   have k10:h2 b10=none:=(dC.trans u7 u8).none hb10
   refine aUg e69 B8 B9 B10 k8 k9 k10 n89 n810 n910 λh' x8 y8 x9 y9 x10 y10 FM E fM WM=>?_
   let z':SIx:=⟨h5,v,l,t,c0,c1,m,d0,d1,bk,mm,K,b8,b9,b10,x8,y8,x9,y9,x10,y10⟩
   have gW:kN (z.mem r0 r1 A r0 r1 n aMg):=z.mem_good _ _ _ _ _ _ aMg.good
   obtain⟨Fa,Fx,eF,hA,⟨Fb,Fe,eX,hB,he,d1⟩,d2⟩:=gW.ext W E
   have he:Fe=[]:=he
   subst he eX eF
   have dis:∀y∈Fa++(Fb++[]),y∉FM:=λy hy hm=>gW.known W y hy (fM y hm)
   have W':z'.mem r0 r1 A r0 r1 n (z'.cms oQ oQ oQ oQ oQ oQ) h' (Fa++(Fb++FM)):=dT.mk hA (dT.mk hB WM (λy hy=>dis y (by simp[hy]))) (λy hy hm=>by
    rcases jJ.1 hm with hm|hm
    ·exact d2 y hy (by simp[hm])
    ·exact dis y (by simp[hy]) hm)
   have N':Now h5 h' (Fa++(Fb++FM)):=⟨N.ext.trans E,λy hy=>by
    simp only[jJ] at hy
    rcases hy with hy|hy|hy
    ·exact N.fr y (by simp[hy])
    ·exact N.fr y (by simp[hy])
    ·exact N.ext.none (fM y hy)⟩
   obtain⟨⟨_,o0⟩,-⟩:=aMO hA J.k0 J.k1
   exact aRk (z:=z') W' N' K5 J.i0 J.i1 (by omega) (by omega) (by omega) (by omega) o0 P (λh'' u''=>hk h'' (e5.trans u''))
end Go.Proofs.YtcoajnpchhmgjaaGreatDoor
namespace Go.Proofs.YtcoajnpchhmgjaaGreatDoor
open Go
theorem aO2{h:PH}(hK:mK h){v:Value}{rows:List (List Value)}(S:fY h 9 v rows){a b s0 s1:Nat}(ha:a<18446744073709551616)(hb:b<18446744073709551616)(hs0:s0<18446744073709551616)(hs1:s1<18446744073709551616)(e:∃l:List kM,rows=l.map kM.cells∧∀x∈l,x.wf){k:cD}(hk:∀h',dC h h'->k (.bool true) h'):
  aT PG zL #[tS a b,tS s0 s1,v] h k:=by
 obtain⟨l,rfl,w⟩:=e
 exact aPl hK ha hb hs0 hs1 S w hk
end Go.Proofs.YtcoajnpchhmgjaaGreatDoor
namespace Go.Proofs.YtcoajnpchhmgjaaGreatDoor.chainOnce
open Go Go.ChangeShapes Go.WideShapes Go.ChangeAt Go.WideMaps Go.WideElems Go.RowKit
theorem own:ownKnob Tryz.prog.godebug=none:=by kernel_rfl
theorem lifted(os:Os)(started:os.Started)(H:Type)(enc:TypeId×Value->H):
  ReturnsInHanded {} Tryz.checked os 5 .any (λw args=>(Rows.chainOnceSpec.pre enc Tryz.prog Tryz.f5 [] false w args∧laidMetH Tryz.prog aM2 w)∧sizedMet enc Tryz.prog Tryz.f5 (OpenSpec.ofChange Rows.chainOnceSpec) false w args)
   (Rows.chainOnceSpec.post enc Tryz.prog Tryz.f5 false true false false):=by
 refine returnsInHanded_of_change_and (C:=Tryz.checked) (X:=λw _=>laidMetH Tryz.prog aM2 w) (λ_ _ _ hh h=>h.of_heap hh) own started (by kernel_rfl) Tryz.func5
  (ChangeSpec.witness_shaped (enc:=enc) (C:=Tryz.checked) (os:=os) (X:=λw _=>laidMetH Tryz.prog aM2 w) false (World.doorLaid Tryz.prog 400 os) #[.agg #[.int .u64 0,.int .u64 0],.agg #[.int .u64 0,.int .u64 0],.slice none 0 0] 8 rfl (World.shaped_of_RefB (by kernel_rfl) (by kernel_rfl)) (by kernel_rfl) (by kernel_rfl) (by kernel_rfl) (aUj os _)) ?_
 intro W base args ds gs before hval0 hW _ _ hL _
 have hval:∀(j:Nat) t v,Tryz.f5.params[j]? =some t->args[j]? =some v->Value.okWide Tryz.prog W .any base t v:=hval0
 have hW':=hW
 obtain⟨p,q,hA0,hV,rfl,hfz,hnd⟩:=hW
 have hA:DataW.TrodAll enc Tryz.prog W 0 (λ_=>true) true Tryz.f5.params.toList args.toList ds p:=hA0
 rw[Tryz.params5] at hA hval
 obtain⟨v0,vs0,d0,ds0,p0,q0,hargs,rfl,rfl,h0,r0⟩:=trodAll_cons hA
 obtain⟨v1,vs1,d1,ds1,p1,q1,rfl,rfl,rfl,h1,r1⟩:=trodAll_cons r0
 obtain⟨v2,vs2,d2,ds2,p2,q2,rfl,rfl,rfl,h2,r2⟩:=trodAll_cons r1
 obtain⟨rfl,rfl,rfl⟩:=trodAll_nil r2
 obtain rfl:args= #[v0,v1,v2]:=by cases args;simp_all
 obtain⟨rfl,rfl⟩:=trodVars_none hV
 obtain⟨x0,y0,rfl,m0,n0⟩:=aRP (hval 0 23 v0 rfl rfl) h0
 obtain⟨x1,y1,rfl,m1,n1⟩:=aRP (hval 1 23 v1 rfl rfl) h1
 obtain⟨rows2,s2,o2⟩:=aWp iN.und (by rw[cH.cells];decide) (hval 2 _ v2 rfl rfl) h2
 rw[cH.cells] at s2
 have e2:=kM.rds o2
 refine(aRz (aO2 (kOf hL) s2 m0 n0 m1 n1 e2 λh' hx=>⟨rfl,hx⟩)).mono λe W' ⟨he,hk⟩=>?_
 subst he
 exact⟨_,rfl,aPj aXH aXh (by rw[Tryz.params5];decide +kernel) Tryz.underlying4 (by kernel_rfl) rfl hW' hk rfl rfl rfl⟩
theorem over:Rows.chainOnceRow.holds Tryz.pinned (OpenSpec.ofChange Rows.chainOnceSpec):=
 OpenClaim.holds_of_wide 5 Tryz.f5 rfl rfl rfl rfl rfl rfl rfl ⟨rfl,rfl,rfl,rfl,rfl⟩ rfl rfl rfl rfl rfl (by kernel_rfl) Tryz.func5 (by kernel_rfl)
  (of_decide_eq_true (by kernel_rfl)) (by unfold Func.isWrapper;first|(rw[if_pos (by decide +kernel)];kernel_rfl)|(rw[if_neg (by decide +kernel)];exact⟨rfl,rfl⟩))
  (λos started H enc _=>lifted os started H enc)
theorem proved:Rows.ChainOnceCardSaid:=
 Claim7.holds_tied_plain_at .later [] [.data] true (true,"ffc9c4e58fb005edcfc3584b561f2ad7ef77368ac970e35ab2fb2d70755663e1") false
  over (λ_ h=>by cases h) (by kernel_rfl) (λ_ h=>by cases h) chainOnce_row_tie rfl ⟨rfl,rfl⟩ (by kernel_rfl) rfl
  (λf fn hf hfn=>by
   obtain rfl:f=5:=aJJ ((show Tryz.prog.funcNamed Rows.chainOnceRow.func=some 5 by kernel_rfl).symm.trans hf) |>.symm
   obtain rfl:fn=Tryz.f5:=(aJJ (Tryz.func5.symm.trans hfn)).symm
   exact⟨by kernel_rfl,λj t ht=>by
    have hall:(Tryz.f5.params.toList.all λu=>!Tryz.prog.wantsStandIn u)=true:=by kernel_rfl
    have hm:t∈Tryz.f5.params.toList:=by simpa using Array.mem_of_getElem? ht
    exact(show Tryz.prog.wantsStandIn t=false by simpa using aCD.1 hall t hm)⟩)
  (by kernel_rfl)
#print axioms proved
end Go.Proofs.YtcoajnpchhmgjaaGreatDoor.chainOnce
