/- The texts of this claim, put together. -/
import Derived.Test.YtiohehjhlghikaaGreatDoorJgSVC8
import Derived.Test.YtiohehjhlghikaaGreatDoorCards
import Derived.Test.YtiohehjhlghikaaGreatDoorTie
import Derived.WalkKit
import Derived.ProofKit
import Derived.Lay
import Derived.SevenTiedAt
set_option linter.all false
set_option maxRecDepth 100000
open Go.Instr (loadAt fieldAt indexAt extract buildSlice build)
namespace Go.Proofs.YtiohehjhlghikaaGreatDoor
section
open Go
abbrev JP:=Option (Nat×Nat×Jn)
def aE9:JP->Value
 | none=>.pointer none
 | some (_,j,_)=>pT j 0
def aE9.isC(p:JP):fL (aE9 p)=true:=by cases p<;>rfl
def PrA(a:Nat)(d:Dk):JP->aPm
 | none=>oQ a d
 | some (w,j,x)=>wQ a w j d x
def DpA(m:Nat)(d:Dk):JP->aPm
 | none=>oF m d
 | some (w,j,x)=>JoA m w j d x
def PrA.good(a:Nat)(d:Dk)(p:JP):aH7 (PrA a d p):=by
 cases p with
 | none=>exact oQ.good a d
 | some t=>exact wQ.good a t.1 t.2.1 d t.2.2
def DpA.good(a:Nat)(d:Dk)(p:JP):aH7 (DpA a d p):=by
 cases p with
 | none=>exact oF.good a d
 | some t=>exact JoA.good a t.1 t.2.1 d t.2.2
def PrA.disk{a:Nat}{d:Dk}{p:JP}{h:PH}{F:List Nat}(H:PrA a d p h F):∃Fd,oQ a d h Fd∧∀b∈Fd,b∈F:=by
 cases p with
 | none=>exact⟨F,H,λb hb=>hb⟩
 | some t=>
  obtain⟨w,j,x⟩:=t;have H:wQ a w j d x h F:=H;obtain⟨Fw,iv,rfl,B,W,-⟩:=H.here;obtain⟨Fd,rfl,Bw,D,-⟩:=W.here;exact⟨Fd,D,λb hb=>by simp[hb]⟩
def DpA.disk{a:Nat}{d:Dk}{p:JP}{h:PH}{F:List Nat}(H:DpA a d p h F):∃Fd,oF a d h Fd∧∀b∈Fd,b∈F:=by
 cases p with
 | none=>exact⟨F,H,λb hb=>hb⟩
 | some t=>
  obtain⟨w,j,x⟩:=t;have H:JoA a w j d x h F:=H;obtain⟨Fw,iv,rfl,B,W,-⟩:=H.here;obtain⟨Fd,rfl,Bw,D,-⟩:=W.here;exact⟨Fd,D,λb hb=>by simp[hb]⟩
def eA.wide{h h':PH}{F F' G:List Nat}(s:eA h F h' F')(hG:∀b∈F,b∈G):eA h G h' F':=
 ⟨s.upd.mono λb hb=>.inl (hG b hb),λb hb=>(s.grow b hb).imp (hG b) id⟩
def eA.app{h h':PH}{F F':List Nat}(L:List Nat)(s:eA h F h' F'):eA h (L++F) h' (L++F'):=
 ⟨s.upd.mono λb hb=>.inl (by simp[hb]),λb hb=>by
  rcases tK.1 hb with hb|hb
  ·exact .inl (by simp[hb])
  ·exact(s.grow b hb).imp (λx=>by simp[x]) id⟩
def eA.appR{h h':PH}{F F':List Nat}(L:List Nat)(s:eA h F h' F'):eA h (F++L) h' (F'++L):=
 ⟨s.upd.mono λb hb=>.inl (by simp[hb]),λb hb=>by
  rcases tK.1 hb with hb|hb
  ·exact(s.grow b hb).imp (λx=>by simp[x]) id
  ·exact .inl (by simp[hb])⟩
def eA.of{h h':PH}{F K:List Nat}(u:cX K h h')(hK:∀b∈K,b∈F):eA h F h' F:=⟨u.mono λb hb=>.inl (hK b hb),λb hb=>.inl hb⟩
def aCr(a m:Nat)(jp:JP)(e:Int)(vp:JP)(room:Int)(p q:Pl):List Value:=
 [pT a 0,aE9 jp,.int .i64 e,pT m 0,aE9 vp,.int .i64 room,.int .u64 p.h,.int .i64 p.i,.int .u64 q.h,.int .i64 q.i]
structure kR(r a m:Nat)(d:Dk)(jp:JP)(e:Int)(d2:Dk)(vp:JP)(room:Int)(p q:Pl)(h:PH)(F:List Nat):Prop where
 here:∃Fa Fm,F=r::(Fa++Fm)∧Bx h r (aCr a m jp e vp room p q)∧PrA a d jp h Fa∧DpA m d2 vp h Fm∧r∉Fa∧r∉Fm∧∀b∈Fa,b∉Fm
def kR.known{r a m:Nat}{d d2:Dk}{jp vp:JP}{e room:Int}{p q:Pl}{h:PH}{F:List Nat}(H:kR r a m d jp e d2 vp room p q h F):∀b∈F,h b≠none:=by
 obtain⟨Fa,Fm,rfl,B,P,D,-⟩:=H.here;intro b hb;simp only[iW,tK] at hb;rcases hb with rfl|hb|hb
 ·exact B.known
 ·exact(PrA.good a d jp).known P b hb
 ·exact(DpA.good m d2 vp).known D b hb
def kR.upd{r a m:Nat}{d d2:Dk}{jp vp:JP}{e room:Int}{p q:Pl}{h h':PH}{F K:List Nat}(H:kR r a m d jp e d2 vp room p q h F)(u:cX K h h')(hK:∀b∈F,b∉K):kR r a m d jp e d2 vp room p q h' F:=by
 obtain⟨Fa,Fm,rfl,B,P,D,n⟩:=H.here;exact⟨⟨Fa,Fm,rfl,B.upd u (hK r (by simp)),(PrA.good a d jp).upd P u (λb hb=>hK b (by simp[hb])),(DpA.good m d2 vp).upd D u (λb hb=>hK b (by simp[hb])),n⟩⟩
def kR.good(r a m:Nat)(d:Dk)(jp:JP)(e:Int)(d2:Dk)(vp:JP)(room:Int)(p q:Pl):aH7 (kR r a m d jp e d2 vp room p q):=⟨λH=>H.known,λH u hK=>H.upd u hK⟩
def kR.ext{r a m:Nat}{d d2:Dk}{jp vp:JP}{e room:Int}{p q:Pl}{h h':PH}{F:List Nat}(H:kR r a m d jp e d2 vp room p q h F)(u:dA h h'):kR r a m d jp e d2 vp room p q h' F:=(kR.good r a m d jp e d2 vp room p q).ext H u
def kR.prog{r a m:Nat}{d d2 d':Dk}{jp vp jp':JP}{e e' room:Int}{p q:Pl}{h h':PH}{Fa Fm Fa':List Nat}(B:Bx h r (aCr a m jp e vp room p q))(D:DpA m d2 vp h Fm)(n1:r∉Fa)(n2:r∉Fm)(n3:∀b∈Fa,b∉Fm)(s:eA h Fa h' Fa'):
  Bx h' r (aCr a m jp e vp room p q)∧DpA m d2 vp h' Fm∧r∉Fa'∧(∀b∈Fa',b∉Fm):=
 ⟨B.upd s.upd n1,(DpA.good m d2 vp).upd D s.upd (λb hb hm=>n3 b hm hb),(B.step s n1).2,λb hb hm=>by
  rcases s.grow b hb with x|x
  ·exact n3 b x hm
  ·exact(DpA.good m d2 vp).known D b hm x⟩
def kR.docu{r a m:Nat}{d d2:Dk}{jp vp:JP}{e room:Int}{p q:Pl}{h h':PH}{Fa Fm Fm':List Nat}(B:Bx h r (aCr a m jp e vp room p q))(P:PrA a d jp h Fa)(n1:r∉Fa)(n2:r∉Fm)(n3:∀b∈Fa,b∉Fm)(s:eA h Fm h' Fm'):
  Bx h' r (aCr a m jp e vp room p q)∧PrA a d jp h' Fa∧r∉Fm'∧(∀b∈Fa,b∉Fm'):=
 ⟨B.upd s.upd n2,(PrA.good a d jp).upd P s.upd n3,(B.step s n2).2,λb hb hm=>by
  rcases s.grow b hm with x|x
  ·exact n3 b hb x
  ·exact(PrA.good a d jp).known P b hb x⟩
def aX7(a m:Nat)(room:Int)(p q:Pl):cB PG (build cW #[(0,pT a 0),(3,pT m 0),(5,.int .i64 room),(6,lO p q)])=some (.agg (aCr a m none 0 none room p q).toArray):=by kernel_rfl
def aOK{h:PH}(size sectors:Nat)(ok:gB size)(h1:1≤sectors)(h2:sectors≤4096)(room:Int)(p q:Pl){k:cE}
  (hk:∀h' r a m F,kR r a m (Dk.new size sectors) none 0 (Dk.new size sectors) none room p q h' F->eD h F->dA h h'->k (pT r 0) h'):bT PG xW #[.int .i64 (size:Int),.int .i64 (sectors:Int),.int .i64 room,lO p q] h k:=by
 apply tH.call;unfold tH;intro r1 hr1
 try rw[cR]
 have u1:dA h (h.set r1 (.cells (Value.cells (lO p q)) cU)):=cX.new hr1;have B1:Bx (h.set r1 (.cells (Value.cells (lO p q)) cU)) r1 (p.cells++q.cells):=Bx.new;generalize h.set r1 (.cells (Value.cells (lO p q)) cU)=g1 at *;refine aWn size sectors ok h1 h2 λh2 a Fa D2 f2 u2=>?_;have q0:((0:Int) !=0)=false:=rfl;have pn:∀{h:PH} {x y:Operand},cD PG h (fV .eql fY x y (pT a 0) (.pointer none))=some (.bool false):=fun {h x y}=>yE (P:=PG) (a:=some ⟨a,0,none⟩) fY.und;have l2:cD PG h2 (loadAt cU (pT r1 0))=some (lO p q):=cU.agg (B1.ext u2) (by show 0+4≤4;decide);simp only[eI,q0,pn,l2,cC,reduceIte,cI,Nat.reduceAdd];refine aUX size sectors ok h1 (by assumption) λh3 m Fm D3 f3 u3=>?_;have l3:cD PG h3 (loadAt cU (pT r1 0))=some (lO p q):=cU.agg ((B1.ext u2).ext u3) (by show 0+4≤4;decide);refine⟨l3,?_⟩;simp only[aX7,cC,reduceIte,cI,Nat.reduceAdd];intro r20 hr20
 try rw[cR]
 have u4:dA h3 (h3.set r20 (.cells (Value.cells (.agg (aCr a m none 0 none room p q).toArray)) cW)):=cX.new hr20;have B4:Bx (h3.set r20 (.cells (Value.cells (.agg (aCr a m none 0 none room p q).toArray)) cW)) r20 (aCr a m none 0 none room p q):=Bx.new;generalize h3.set r20 (.cells (Value.cells (.agg (aCr a m none 0 none room p q).toArray)) cW)=h4 at *;have e2:=u1.trans u2;have e3:=e2.trans u3;refine hk h4 r20 a m (r20::(Fa++Fm)) ⟨⟨Fa,Fm,rfl,B4,(D2.ext u3).ext u4,D3.ext u4,λhm=>(D2.ext u3).known r20 hm hr20,λhm=>D3.known r20 hm hr20,λb hb hm=>D2.known b hb (f3 b hm)⟩⟩ (λb hb=>?_) (e3.trans u4);simp only[iW,tK] at hb;rcases hb with rfl|hb|hb
 ·exact e3.none hr20
 ·exact u1.none (f2 b hb)
 ·exact e2.none (f3 b hb)
def aCM(A:Dk×Jn×Int)(jp:JP):Prop:=(A.2.2=0->∃w j,jp=some (w,j,A.2.1))∧(A.2.2≠0->jp=none)
def aNp{h:PH}{a:Nat}{d:Dk}{F:List Nat}(D:oQ a d h F)(room:Int)(p q:Pl)(wp:p.wf)(wq:q.wf)(hs:d.sectors≤1000)(hb:d.buf.length≤800000){k:cE}
  (hk:∀h' F' jp',PrA a (fU d room p q).1 jp' h' F'->eA h F h' F'->aCM (fU d room p q) jp'->k (.tuple #[aE9 jp',.int .i64 (fU d room p q).2.2]) h'):bT PG wT #[pT a 0,.int .i64 room,lO p q] h k:=by
 refine aVQ D room p q wp wq hs hb (λh1 F1 D1 s1 ne=>?_) (λh1 F1 w j J1 s1 e0=>?_)
 ·exact hk h1 F1 none D1 s1 ⟨λe=>absurd e ne,λ_=>rfl⟩
 ·have:=hk h1 F1 (some (w,j,(fU d room p q).2.1)) J1 s1 ⟨λ_=>⟨w,j,rfl⟩,λne=>absurd e0 ne⟩;rw[e0] at this;exact this
def aUU{h:PH}{a:Nat}{d:Dk}{F:List Nat}(D:oF a d h F)(room:Int)(p q:Pl)(wp:p.wf)(wq:q.wf)(hs:d.sectors≤1000)(hb:d.buf.length≤800000){k:cE}
  (hrep:∀(h:PH) (v:Value),iH h 1 v ((fA d).2.1.2.map jI)->(fA d).2.1.2≠[]->∀{k:cE},(∀h' v',jT h' v' (yM room (fA d).2.1.2).1.its->iQ h v'->dA h h'->k (.tuple #[(yM room (fA d).2.1.2).1.v v',.int .i64 (yM room (fA d).2.1.2).2]) h')->bT PG oM #[.int .i64 room,v] h k)
  (hk:∀h' F' jp',DpA a (fU d room p q).1 jp' h' F'->eA h F h' F'->aCM (fU d room p q) jp'->k (.tuple #[aE9 jp',.int .i64 (fU d room p q).2.2]) h'):bT PG xN #[pT a 0,.int .i64 room,lO p q] h k:=by
 refine aTF D room p q wp wq hs hb hrep (λh1 F1 D1 s1 ne=>?_) (λh1 F1 w j J1 s1 e0=>?_)
 ·exact hk h1 F1 none D1 s1 ⟨λe=>absurd e ne,λ_=>rfl⟩
 ·have:=hk h1 F1 (some (w,j,(fU d room p q).2.1)) J1 s1 ⟨λ_=>⟨w,j,rfl⟩,λne=>absurd e0 ne⟩;rw[e0] at this;exact this
def aK2{h:PH}{x y:Operand}(p:JP):cD PG h (fV .eql eR x y (aE9 p) (.pointer none))=some (.bool p.isNone):=by
 cases p with
 | none=>exact yE (P:=PG) (a:=none) eR.und
 | some t=>exact yE (P:=PG) (a:=some ⟨t.2.1,0,none⟩) eR.und
def aXr{h:PH}{x y:Operand}(p:JP):cD PG h (fV .eql fE x y (aE9 p) (.pointer none))=some (.bool p.isNone):=by
 cases p with
 | none=>exact yE (P:=PG) (a:=none) fE.und
 | some t=>exact yE (P:=PG) (a:=some ⟨t.2.1,0,none⟩) fE.und
def aCM.nil{A:Dk×Jn×Int}{jp:JP}(o:aCM A jp):jp.isNone=decide (A.2.2≠0):=by
 by_cases c:A.2.2=0
 ·obtain⟨w,j,e⟩:=o.1 c;rw[e,decide_eq_false (λx=>x c)];rfl
 ·rw[o.2 c,decide_eq_true c];rfl
def aYz{h:PH}{x y:Operand}(a b:Bool):cD PG h (fV .eql gR x y (.bool a) (.bool b))=some (.bool (a==b)):=by
 cases a<;>cases b<;>kernel_rfl
def aPr{h:PH}{r a m:Nat}{d d2:Dk}{jp vp:JP}{e room:Int}{p q:Pl}{F:List Nat}(H:kR r a m d jp e d2 vp room p q h F)(wp:p.wf)(wq:q.wf)(hs:d.sectors≤1000)(hs2:d2.sectors≤1000)(hb:d.buf.length≤800000)(hb2:d2.buf.length≤800000){k:cE}
  (hrep:∀(h:PH) (v:Value),iH h 1 v ((fA d2).2.1.2.map jI)->(fA d2).2.1.2≠[]->∀{k:cE},(∀h' v',jT h' v' (yM room (fA d2).2.1.2).1.its->iQ h v'->dA h h'->k (.tuple #[(yM room (fA d2).2.1.2).1.v v',.int .i64 (yM room (fA d2).2.1.2).2]) h')->bT PG oM #[.int .i64 room,v] h k)
  (hk:∀h' F' jp' vp',kR r a m (fU d room p q).1 jp' (fU d room p q).2.2 (fU d2 room p q).1 vp' room p q h' F'->eA h F h' F'->aCM (fU d room p q) jp'->aCM (fU d2 room p q) vp'->k (.bool (decide ((fU d room p q).2.2=(fU d2 room p q).2.2))) h'):bT PG jR #[pT r 0] h k:=by
 apply oN.call;unfold oN;obtain⟨Fa,Fm,rfl,B,P,D,n1,n2,n3⟩:=H.here;obtain⟨Fd,Da,hFd⟩:=PrA.disk P;have c0:cV h ⟨r,0,none⟩=some (pT a 0):=B.cell 0;have c5:cV h ⟨r,0+5,none⟩=some (.int .i64 room):=B.cell 5;have l6:cD PG h (loadAt cU (pT r (0+6)))=some (lO p q):=cU.agg B (by show 0+6+4≤10;decide);simp only[cW.f0,cW.f5,cW.f6,fY.load,aR.load,c0,c5,l6,cC,reduceIte,cI,Nat.reduceAdd];refine aNp Da room p q wp wq hs hb λh1 Fa' jp' P1 s1 o1=>?_;obtain⟨B1,D1,n1',n3'⟩:=kR.prog (d:=d) (d':=d) (jp':=jp) (e':=e) B D n1 n2 n3 (s1.wide hFd);obtain⟨A,hA⟩:∃A,fU d room p q=A:=⟨_,rfl⟩;rw[hA] at hk P1 o1 ⊢;simp only[cW.f1,cW.f2,cC,reduceIte,cI,Nat.reduceAdd];refine eR.put B1 (o:=1) (by show 1<10;decide) (aE9.isC jp') λh2 B2 u2=>?_;refine dK.put B2 (o:=2) (by show 2<10;decide) rfl λh3 B3 u3=>?_;have B3:Bx h3 r (aCr a m jp' A.2.2 vp room p q):=B3;have u23:=u2.trans u3;have P3:=(PrA.good a A.1 jp').upd P1 u23 (kN n1');have D3:=(DpA.good m d2 vp).upd D1 u23 (kN n2);have c3:cV h3 ⟨r,0+3,none⟩=some (pT m 0):=B3.cell 3;have c5':cV h3 ⟨r,0+5,none⟩=some (.int .i64 room):=B3.cell 5;have l6':cD PG h3 (loadAt cU (pT r (0+6)))=some (lO p q):=cU.agg B3 (by show 0+6+4≤10;decide);obtain⟨Fdm,Dm,hFm⟩:=DpA.disk D3;simp only[cW.f3,cW.f5,cW.f6,eJ.load,aR.load,c3,c5',l6',cC,reduceIte,cI,Nat.reduceAdd];refine aUU Dm room p q wp wq hs2 hb2 hrep λh4 Fm' vp' P4 s4 o4=>?_;obtain⟨B4,Pa4,n2',n3''⟩:=kR.docu (d2:=d2) B3 P3 n1' n2 n3' (s4.wide hFm);obtain⟨A2,hA2⟩:∃A,fU d2 room p q=A:=⟨_,rfl⟩;rw[hA2] at hk P4 o4 ⊢;simp only[cW.f4,cC,reduceIte,cI,Nat.reduceAdd];refine fE.put B4 (o:=4) (by show 4<10;decide) (aE9.isC vp') λh5 B5 u5=>?_;have B5:Bx h5 r (aCr a m jp' A.2.2 vp' room p q):=B5;have P5:=(PrA.good a A.1 jp').upd Pa4 u5 (kN n1');have D5:=(DpA.good m A2.1 vp').upd P4 u5 (kN n2');have c1:cV h5 ⟨r,0+1,none⟩=some (aE9 jp'):=B5.cell 1;have c2:cV h5 ⟨r,0+2,none⟩=some (.int .i64 A.2.2):=B5.cell 2;have c4:cV h5 ⟨r,0+4,none⟩=some (aE9 vp'):=B5.cell 4;have fin:k (.bool (decide (A.2.2=A2.2.2))) h5:=by
  refine hk h5 (r::(Fa'++Fm')) jp' vp' ⟨⟨Fa',Fm',rfl,B5,P5,D5,n1',n2',n3''⟩⟩ ?_ o1 o4;have t1:eA h (r::(Fa++Fm)) h1 (r::(Fa'++Fm)):=eA.app [r] (eA.appR Fm (s1.wide hFd));have t2:eA h1 (r::(Fa'++Fm)) h3 (r::(Fa'++Fm)):=eA.of u23 (by simp);have t3:eA h3 (r::(Fa'++Fm)) h4 (r::(Fa'++Fm')):=eA.app (r::Fa') (s4.wide hFm);have t4:eA h4 (r::(Fa'++Fm')) h5 (r::(Fa'++Fm')):=eA.of u5 (by simp);exact((t1.trans t2).trans t3).trans t4
 have qe:(A.2.2==A2.2.2)=decide (A.2.2=A2.2.2):=by rw[xF,beq_iff_eq,decide_eq_true_iff]
 by_cases c:A.2.2=A2.2.2
 ·rw[decide_eq_true c] at fin;have qt:(A.2.2==A2.2.2)=true:=by rw[qe,decide_eq_true c]
  have eb:(jp'.isNone==vp'.isNone)=true:=by rw[o1.nil,o4.nil,c];simp
  simp only[cW.f1,cW.f2,cW.f4,dK.load,eR.load,fE.load,c1,c2,c4,gA,qt,aK2,aXr,aYz,eb,cC,reduceIte,cI,Nat.reduceAdd];exact fin
 ·rw[decide_eq_false c] at fin;have qf:(A.2.2==A2.2.2)=false:=by rw[qe,decide_eq_false c]
  simp only[cW.f2,dK.load,c2,gA,qf,cC,reduceIte,cI,Nat.reduceAdd];exact fin
def aCS{t:Tx}{c:Nat}(h:t.length<c):fK (0,t) c=(0,((6:Int),t)):=by
 unfold fK;rw[aNt h];rfl
def aKz{e:Int}{t:Tx}{n:Int}(he:e≠0):mL (e,t) n=([],(e,t)):=by
 unfold mL;rw[if_neg (λh=>he h.1)];simp only;rw[if_neg he]
def aGu{e:Int}{t:Tx}{c:Nat}(he:e≠0):fK (e,t) c=(0,(e,t)):=by
 unfold fK;rw[aKz he];rfl
def aSp{e:Int}{t:Tx}(he:e≠0):vT (e,t)=([],(e,t)):=by
 unfold vT;rw[aGu he,aKz he]
def aSg{t:Tx}{c:Nat}:fK ((6:Int),t) c=(0,((6:Int),t)):=aGu (by decide)
def aMx{t:Tx}:vT ((6:Int),t)=([],((6:Int),t)):=aSp (by decide)
def aOq(s:Tx):
  (s.length<16∧(gU (0,s)).1=Pl.zero∧(gU (0,s)).2.1=6)∨
  (16≤s.length∧65535<lG ((s.drop 8).take 8)∧(gU (0,s)).1=Pl.zero∧(gU (0,s)).2.1=5)∨
  (16≤s.length∧lG ((s.drop 8).take 8)≤65535∧gU (0,s)=(⟨(lG (s.take 8):Nat),(lG ((s.drop 8).take 8):Nat)⟩,((0:Int),s.drop 16))):=by
 by_cases h16:s.length<16
 ·left;refine⟨h16,?_⟩;unfold gU;by_cases h8:s.length<8
  ·rw[aCS h8];simp only;rw[aGu (by decide)];exact⟨rfl,rfl⟩
  ·rw[pJ (t:=s) (c:=8) (by omega)];simp only;rw[aCS (t:=s.drop 8) (by rw[jC];omega)];exact⟨rfl,rfl⟩
 ·right;have e1:fK (0,s) 8=(lG (s.take 8),((0:Int),s.drop 8)):=pJ (by omega);have e2:fK (0,s.drop 8) 8=(lG ((s.drop 8).take 8),((0:Int),s.drop 16)):=by
   rw[pJ (by rw[jC];omega),qK]
  unfold gU;rw[e1];simp only;rw[e2];simp only;by_cases c:65535<lG ((s.drop 8).take 8)
  ·left;rw[if_pos c];exact⟨by omega,c,rfl,rfl⟩
  ·right;rw[if_neg c];exact⟨by omega,by omega,rfl⟩
def aV0:cB PG (build cG #[])=some (.agg Pl.zero.cells.toArray):=by kernel_rfl
def aYE(a b:Int):cB PG (build cG #[(0,.int .u64 a),(1,.int .i64 b)])=some (.agg (Pl.cells ⟨a,b⟩).toArray):=by kernel_rfl
def aVf(n:Nat)(hn:n<9223372036854775808):cB PG (convert cJ aR (.int .u64 (n:Int)))=some (.int .i64 (n:Int)):=by
 rw[show cB PG (convert cJ aR (.int .u64 (n:Int)))=some (.int .i64 (IntKind.i64.wrap (n:Int))) from by kernel_rfl,eB (by omega) (by omega)]
def aK6{h:PH}(s:Tx)(hs:s.length≤1000000){k:cE}(hk:∀h',dA h h'->k (.tuple #[.agg (gU (0,s)).1.cells.toArray,.int .i64 (if (gU (0,s)).2.1=0 then 16 else 0),.int .i64 (gU (0,s)).2.1]) h'):bT PG sM #[.string (tx s)] h k:=by
 apply wY.call;unfold wY;intro r1 hr1
 try rw[cR]
 have Z1:Bx (h.set r1 (.cells (dJ PG cG) cG)) r1 Pl.zero.cells:=cG.zbox;have u1:dA h (h.set r1 (.cells (dJ PG cG) cG)):=cX.new hr1;generalize h.set r1 (.cells (dJ PG cG) cG)=h1 at *;have fin:∀{h':PH} (q:Pl) (n e:Int),(gU (0,s)).1=q->(gU (0,s)).2.1=e->(if e=0 then(16:Int) else 0)=n->Bx h' r1 Pl.zero.cells->dA h h'->cN PG (cP cG (pT r1 0) (.agg q.cells.toArray)) h' λ_ h8=>bY (cD PG h8 (loadAt cG (pT r1 0))) λv9=>k (.tuple #[v9,.int .i64 n,.int .i64 e]) h8:=by
  intro h' q n e hq he hn B w;refine cG.put B (vs:=q.cells) (o:=0) rfl (by show 0+2≤2;decide) (by simp[Pl.cells,fL]) λh2 B2 u2=>?_;have B2:Bx h2 r1 q.cells:=B2;have l2:cD PG h2 (loadAt cG (pT r1 0))=some (.agg q.cells.toArray):=aCR B2 rfl;simp only[l2,iO,zPP];have:=hk h2 (w.fresh u2 (eD.one hr1));rw[hq,he,hn] at this;exact this
 rcases aOq s with⟨c,e1,e2⟩|⟨c,c2,e1,e2⟩|⟨c,c2,e⟩
 ·have g:((s.length:Int)<16)=True:=eq_true (by omega);simp only[iV,g,aV0,cC,reduceIte,cI,Nat.reduceAdd];exact fin Pl.zero 0 6 e1 e2 rfl Z1 u1
 ·have g:((s.length:Int)<16)=False:=eq_false (by omega);have c1:cB PG (Instr.sliceAt aT (.string (tx s)) (some (.int .i64 8)) (some (.int .i64 16)) none)=some (.string (tx ((s.drop 8).take 8))):=by
   have:=kD (P:=PG) (t:=aT) (l:=s) (i:=8) (j:=16) (lo:=some (.int .i64 8)) (hi:=some (.int .i64 16)) aT.und (.inr ⟨_,rfl⟩) (.inr ⟨_,rfl⟩) (by omega) (by omega);rw[this,zLy]
  have g2:((65535:Int)<(lG ((s.drop 8).take 8):Int))=True:=eq_true (by omega);simp only[iV,g,c1,cC,reduceIte,cI,Nat.reduceAdd];refine aCF (by rw[lU];omega) ?_;simp only[g2,aV0,cC,reduceIte,cI,Nat.reduceAdd];exact fin Pl.zero 0 5 e1 e2 rfl Z1 u1
 ·have g:((s.length:Int)<16)=False:=eq_false (by omega);have c1:cB PG (Instr.sliceAt aT (.string (tx s)) (some (.int .i64 8)) (some (.int .i64 16)) none)=some (.string (tx ((s.drop 8).take 8))):=by
   have:=kD (P:=PG) (t:=aT) (l:=s) (i:=8) (j:=16) (lo:=some (.int .i64 8)) (hi:=some (.int .i64 16)) aT.und (.inr ⟨_,rfl⟩) (.inr ⟨_,rfl⟩) (by omega) (by omega);rw[this,zLy]
  have c0:cB PG (Instr.sliceAt aT (.string (tx s)) none (some (.int .i64 8)) none)=some (.string (tx (s.take 8))):=by
   have:=kD (P:=PG) (t:=aT) (l:=s) (i:=0) (j:=8) (lo:=none) (hi:=some (.int .i64 8)) aT.und (.inl ⟨rfl,rfl⟩) (.inr ⟨_,rfl⟩) (by omega) (by omega);rw[this,zLb]
  have g2:((65535:Int)<(lG ((s.drop 8).take 8):Int))=False:=eq_false (by omega);simp only[iV,g,c1,cC,reduceIte,cI,Nat.reduceAdd];refine aCF (by rw[lU];omega) ?_;simp only[g2,c0,cC,reduceIte,cI,Nat.reduceAdd];refine aCF (by rw[lU];omega) ?_;simp only[aVf _ (show lG ((s.drop 8).take 8)<9223372036854775808 by omega),aYE,cC,reduceIte,cI,Nat.reduceAdd];exact fin _ 16 0 (by rw[e]) (by rw[e]) rfl Z1 u1
def dpN(s:Tx):Nat:=lG ((s.drop 17).take 2)
def dpk(s:Tx):Pk:=⟨(lG (s.take 1):Nat),(lG ((s.drop 1).take 8):Nat),(lG ((s.drop 9).take 8):Nat),tx ((s.drop 19).take (dpN s))⟩
def aIa(s:Tx):
  ((s.length<19∨s.length<19+dpN s)∧(oP (0,s)).1=default∧(oP (0,s)).2.1=6)∨
  (19+dpN s≤s.length∧(dpk s).right=false∧(oP (0,s)).1=default∧(oP (0,s)).2.1=5)∨
  (19+dpN s≤s.length∧(dpk s).right=true∧oP (0,s)=(dpk s,((0:Int),s.drop (19+dpN s)))):=by
 have bad:∀{t:Tx},(rC (0,s)).2=((6:Int),t)->(oP (0,s)).1=default∧(oP (0,s)).2.1=6:=fun {t} h=>by
  have e:(if (rC (0,s)).1.right then(rC (0,s)).2 else xR (rC (0,s)).2 5)=((6:Int),t):=by
   split
   ·exact h
   ·rw[h];rfl
  unfold oP;simp only;rw[e];exact⟨rfl,rfl⟩
 by_cases h1:s.length<1
 ·refine .inl ⟨.inl (by omega),bad (t:=s) ?_⟩;unfold rC rB rA;rw[aCS h1];simp only[aSg,aMx]
 have e1:fK (0,s) 1=(lG (s.take 1),((0:Int),s.drop 1)):=pJ (by omega);by_cases h9:s.length<9
 ·refine .inl ⟨.inl (by omega),bad (t:=s.drop 1) ?_⟩;unfold rC rB rA;rw[e1];simp only;rw[aCS (t:=s.drop 1) (c:=8) (by rw[jC];omega)];simp only[aSg,aMx]
 have e2:fK (0,s.drop 1) 8=(lG ((s.drop 1).take 8),((0:Int),s.drop 9)):=by rw[pJ (by rw[jC];omega),qK]
 by_cases h17:s.length<17
 ·refine .inl ⟨.inl (by omega),bad (t:=s.drop 9) ?_⟩;unfold rC rB rA;rw[e1];simp only;rw[e2];simp only;rw[aCS (t:=s.drop 9) (c:=8) (by rw[jC];omega)];simp only[aMx]
 have e3:fK (0,s.drop 9) 8=(lG ((s.drop 9).take 8),((0:Int),s.drop 17)):=by rw[pJ (by rw[jC];omega),qK]
 by_cases h19:s.length<19
 ·refine .inl ⟨.inl (by omega),bad (t:=s.drop 17) ?_⟩;unfold rC rB rA vT;rw[e1];simp only;rw[e2];simp only;rw[e3];simp only;rw[aCS (t:=s.drop 17) (c:=2) (by rw[jC];omega)];simp only;rw[aKz (by decide)]
 have e4:fK (0,s.drop 17) 2=(dpN s,((0:Int),s.drop 19)):=by rw[pJ (by rw[jC];omega),qK];rfl
 by_cases hn:s.length<19+dpN s
 ·refine .inl ⟨.inr hn,bad (t:=s.drop 19) ?_⟩;unfold rC rB rA vT;rw[e1];simp only;rw[e2];simp only;rw[e3];simp only;rw[e4];simp only;rw[aNt (by rw[jC];omega)]
 right;have eC:rC (0,s)=(dpk s,((0:Int),s.drop (19+dpN s))):=by
  unfold rC rB rA vT;rw[e1];simp only;rw[e2];simp only;rw[e3];simp only;rw[e4];simp only;rw[aJP (by rw[jC];omega),qK];rfl
 cases cr:(dpk s).right with
 | false=>
  left;refine⟨by omega,rfl,?_⟩;unfold oP;simp only;rw[eC];simp only;rw[cr];exact⟨rfl,rfl⟩
 | true=>
  right;refine⟨by omega,rfl,?_⟩;unfold oP;simp only;rw[eC];simp only;rw[cr];rfl
def aJi{h:PH}{r:Nat}{x:Pk}(B:Bx h r x.cells):cD PG h (loadAt bX (pT r 0))=some (.agg x.cells.toArray):=bX.agg B (by show 0+4≤4;decide)
def aW1(a b c:Int)(d:ByteArray):cB PG (build bX #[(0,.int .i64 a),(1,.int .u64 b),(2,.int .u64 c),(3,.string d)])=some (.agg (Pk.cells ⟨a,b,c,d⟩).toArray):=by kernel_rfl
def Pk.isC(x:Pk):∀v∈x.cells,fL v=true:=by simp[Pk.cells,fL]
def aS6(s:Tx):dpN s<65536:=by
 have:=aJY ((s.drop 17).take 2);have h2:((s.drop 17).take 2).length≤2:=by rw[lU];omega
 have h3:256^((s.drop 17).take 2).length≤256^2:=aNb (by decide) h2;unfold dpN;omega
def aUk{h:PH}(s:Tx)(hs:s.length≤1000000){k:cE}(hk:∀h',dA h h'->k (.tuple #[.agg (oP (0,s)).1.cells.toArray,.int .i64 (if (oP (0,s)).2.1=0 then((19+dpN s:Nat):Int) else 0),.int .i64 (oP (0,s)).2.1]) h'):bT PG aCZ #[.string (tx s)] h k:=by
 apply uH.call;unfold uH;intro r1 hr1
 try rw[cR]
 have Z1:Bx (h.set r1 (.cells (dJ PG bX) bX)) r1 (Pk.cells default):=bX.zbox;have u1:dA h (h.set r1 (.cells (dJ PG bX) bX)):=cX.new hr1;generalize h.set r1 (.cells (dJ PG bX) bX)=h1 at *;have fin:∀{h':PH} (q:Pk) (n e:Int),(oP (0,s)).1=q->(oP (0,s)).2.1=e->(if e=0 then((19+dpN s:Nat):Int) else 0)=n->Bx h' r1 (Pk.cells default)->dA h h'->cN PG (cP bX (pT r1 0) (.agg q.cells.toArray)) h' λ_ h8=>bY (cD PG h8 (loadAt bX (pT r1 0))) λv9=>k (.tuple #[v9,.int .i64 n,.int .i64 e]) h8:=by
  intro h' q n e hq he hn B w;refine bX.put B (vs:=q.cells) (o:=0) rfl (by show 0+4≤4;decide) q.isC λh2 B2 u2=>?_;have B2:Bx h2 r1 q.cells:=B2;simp only[aJi B2,iO,zPP];have:=hk h2 (w.fresh u2 (eD.one hr1));rw[hq,he,hn] at this;exact this
 by_cases h19:s.length<19
 ·have g:((s.length:Int)<19)=True:=eq_true (by omega);rcases aIa s with⟨c,e1,e2⟩|⟨c,c2,e1,e2⟩|⟨c,c2,e⟩
  ·simp only[iV,g,aLf,cC,reduceIte,cI,Nat.reduceAdd];exact fin default 0 6 e1 e2 rfl Z1 u1
  ·omega
  ·omega
 ·have g:((s.length:Int)<19)=False:=eq_false (by omega);have c17:cB PG (Instr.sliceAt aT (.string (tx s)) (some (.int .i64 17)) (some (.int .i64 19)) none)=some (.string (tx ((s.drop 17).take 2))):=by
   have:=kD (P:=PG) (t:=aT) (l:=s) (i:=17) (j:=19) (lo:=some (.int .i64 17)) (hi:=some (.int .i64 19)) aT.und (.inr ⟨_,rfl⟩) (.inr ⟨_,rfl⟩) (by omega) (by omega);rw[this,zLy]
  have hdl:=aS6 s;have w1:IntKind.i64.wrap ((19:Int)+(dpN s:Int))=((19+dpN s:Nat):Int):=by rw[eB (by omega) (by omega)];omega
  simp only[iV,g,c17,cC,reduceIte,cI,Nat.reduceAdd];refine aCF (by rw[lU];omega) ?_;rw[show lG ((s.drop 17).take 2)=dpN s from rfl];by_cases hn:s.length<19+dpN s
  ·have g2:((s.length:Int)<((19+dpN s:Nat):Int))=True:=eq_true (by omega);rcases aIa s with⟨c,e1,e2⟩|⟨c,c2,e1,e2⟩|⟨c,c2,e⟩
   ·simp only[aVf (dpN s) (by omega),iV,w1,g2,aLf,cC,reduceIte,cI,Nat.reduceAdd];exact fin default 0 6 e1 e2 rfl Z1 u1
   ·omega
   ·omega
  ·have g2:((s.length:Int)<((19+dpN s:Nat):Int))=False:=eq_false (by omega);obtain⟨b0,hb0⟩:∃b,s[0]? =some b:=⟨_,kF (by omega)⟩;have i0:cB PG (Instr.index aT (.string (tx s)) (.int .i64 0))=some (.int .u8 b0.toNat):=oB (j:=0) aT.und hb0;have d0:lG (s.take 1)=b0.toNat:=by have:=aJt hb0;rw[zLb] at this;exact this
   have c1:cB PG (Instr.sliceAt aT (.string (tx s)) (some (.int .i64 1)) (some (.int .i64 9)) none)=some (.string (tx ((s.drop 1).take 8))):=by
    have:=kD (P:=PG) (t:=aT) (l:=s) (i:=1) (j:=9) (lo:=some (.int .i64 1)) (hi:=some (.int .i64 9)) aT.und (.inr ⟨_,rfl⟩) (.inr ⟨_,rfl⟩) (by omega) (by omega);rw[this,zLy]
   have c9:cB PG (Instr.sliceAt aT (.string (tx s)) (some (.int .i64 9)) (some (.int .i64 17)) none)=some (.string (tx ((s.drop 9).take 8))):=by
    have:=kD (P:=PG) (t:=aT) (l:=s) (i:=9) (j:=17) (lo:=some (.int .i64 9)) (hi:=some (.int .i64 17)) aT.und (.inr ⟨_,rfl⟩) (.inr ⟨_,rfl⟩) (by omega) (by omega);rw[this,zLy]
   have c19:cB PG (Instr.sliceAt aT (.string (tx s)) (some (.int .i64 19)) (some (.int .i64 ((19+dpN s:Nat):Int))) none)=some (.string (tx ((s.drop 19).take (dpN s)))):=by
    have:=kD (P:=PG) (t:=aT) (l:=s) (i:=19) (j:=19+dpN s) (lo:=some (.int .i64 19)) (hi:=some (.int .i64 ((19+dpN s:Nat):Int))) aT.und (.inr ⟨_,rfl⟩) (.inr ⟨_,rfl⟩) (by omega) (by omega);rw[this,zLy,aCb]
   simp only[aVf (dpN s) (by omega),iV,w1,g2,i0,aHJ,c1,c9,c19,cC,reduceIte,cI,Nat.reduceAdd];refine aCF (by rw[lU];omega) ?_;refine aCF (by rw[lU];omega) ?_;rw[←d0];show bY (cB PG (build bX #[(0,.int .i64 (dpk s).f),(1,.int .u64 (dpk s).s),(2,.int .u64 (dpk s).t),(3,.string (dpk s).d)])) _;simp only[aW1,iO,zPP];intro r31 hr31
   try rw[cR]
   refine bX.fill (vs:=(dpk s).cells) hr31 rfl (dpk s).isC λh5 B5 u5=>?_;have e5:=u1.trans u5;simp only[aJi B5,cC,reduceIte,cI,Nat.reduceAdd];refine aIX (dpk s) (Int.natCast_nonneg _) (Int.natCast_nonneg _) λh6 u6=>?_;have e6:=e5.trans u6;rcases aIa s with⟨c,e1,e2⟩|⟨c,c2,e1,e2⟩|⟨c,c2,e⟩
   ·omega
   ·simp only[c2,aLf,cC,reduceIte,cI,Nat.reduceAdd];exact fin default 0 5 e1 e2 rfl ((Z1.ext u5).ext u6) e6
   ·simp only[c2,aJi (B5.ext u6),w1,cC,reduceIte,cI,Nat.reduceAdd];exact fin (dpk s) _ 0 (by rw[e]) (by rw[e]) (if_pos rfl) ((Z1.ext u5).ext u6) e6
def aZJ{t:Tx}:(oP ((6:Int),t)).2.1=6:=by
 have e:(rC ((6:Int),t)).2=((6:Int),t):=by
  unfold rC rB rA;simp only[aSg,aMx]
 have e2:(if (rC ((6:Int),t)).1.right then(rC ((6:Int),t)).2 else xR (rC ((6:Int),t)).2 5)=((6:Int),t):=by
  split
  ·exact e
  ·rw[e];rfl
 unfold oP;simp only;rw[e2]
def aPd(g:Int):(aAx g (0,[])).2.1=6:=by
 unfold aAx;rw[aCS (t:=[]) (c:=1) (by simp)];simp only;rw[if_pos (.inl (by decide))];unfold xR;rw[aZJ,if_neg (by decide)]
def aTD(g:Int)(b:UInt8)(t:Tx):aAx g (0,b::t)=(((b.toNat:Int),(oP (0,t)).1),if (b.toNat:Int)<1∨g<(b.toNat:Int) then xR (oP (0,t)).2 5 else(oP (0,t)).2):=by
 unfold aAx;rw[pJ (t:=b::t) (c:=1) (by simp)];have:lG ((b::t).take 1)=b.toNat:=by simp[lG]
 simp only;rw[this];rfl
def aHj(g:Int)(n:Nat)(st:gY)(acc:List (Int×Pk))(h:st.1≠0):jQ g n st acc=(acc,st):=by
 cases n with
 | zero=>rfl
 | succ n=>unfold jQ;rw[if_neg h]
def aVY(g:Int)(n:Nat)(st:gY)(acc:List (Int×Pk))(h:st.1=0):jQ g (n+1) st acc=jQ g n (aAx g st).2 (acc++[(aAx g st).1]):=by
 conv=>lhs;unfold jQ
 rw[if_pos h]
def kc(x:Int×Pk):List Value:=[.int .i64 x.1]
def pc(x:Int×Pk):List Value:=x.2.cells
def aV7(a:Int):kC PG (buildSlice mD 1 #[(0,.int .i64 a)])=some (.cells #[.int .i64 a] aR,λr=>pure (.slice (some ⟨r,0,none⟩) 1 1)):=by kernel_rfl
def aWK(a b c:Int)(d:ByteArray):kC PG (buildSlice iF 1 #[(0,.agg (Pk.cells ⟨a,b,c,d⟩).toArray)])=some (.cells (Pk.cells ⟨a,b,c,d⟩).toArray bX,λr=>pure (.slice (some ⟨r,0,none⟩) 1 1)):=by kernel_rfl
def aVa(p:Pk):kC PG (buildSlice iF 1 #[(0,.agg p.cells.toArray)])=some (.cells p.cells.toArray bX,λr=>pure (.slice (some ⟨r,0,none⟩) 1 1)):=aWK p.f p.s p.t p.d
def aLD(g:Int):∀(n:Nat) (st:gY) (acc:List (Int×Pk)),(jQ g n st acc).1.length≤acc.length+n
 | 0,_,_=>lM _
 | n+1,st,acc=>by
  unfold jQ;split
  ·have:=aLD g n (aAx g st).2 (acc++[(aAx g st).1]);rw[jM] at this;simp only[iU,kV] at this;omega
  ·show acc.length≤_;omega
def aGn(g:Int):fJ g (0,[])=([],((6:Int),[])):=by
 unfold fJ;rw[aCS (t:=[]) (c:=1) (by simp)];rfl
def aNU(g:Int)(b:UInt8)(t:Tx):fJ g (0,b::t)=(if (jQ g b.toNat (0,t) []).2.1=0 then(jQ g b.toNat (0,t) []).1 else [],(jQ g b.toNat (0,t) []).2):=by
 unfold fJ;rw[pJ (t:=b::t) (c:=1) (by simp)];have:lG ((b::t).take 1)=b.toNat:=by simp[lG]
 simp only;rw[this];rfl
def aRW{h:PH}(s:Tx)(g:Nat)(hs:s.length≤1000000){k:cE}
  (hk:∀h' vk vp Gk Gp,eH h' aR 1 vk ((fJ (g:Int) (0,s)).1.map kc) Gk->eH h' bX 4 vp ((fJ (g:Int) (0,s)).1.map pc) Gp->eD h Gk->eD h Gp->dA h h'->((fJ (g:Int) (0,s)).2.1=0->(fJ (g:Int) (0,s)).2.2.length≤s.length∧(fJ (g:Int) (0,s)).2.2=s.drop (s.length-(fJ (g:Int) (0,s)).2.2.length))->
   k (.tuple #[vk,vp,.int .i64 (if (fJ (g:Int) (0,s)).2.1=0 then((s.length-(fJ (g:Int) (0,s)).2.2.length:Nat):Int) else 0),.int .i64 (fJ (g:Int) (0,s)).2.1]) h'):bT PG zM #[.string (tx s),.int .i64 (g:Int)] h k:=by
 apply aBk.call;unfold aBk;cases s with
 | nil=>
  have q:decide (([]:Tx)=[])=true:=rfl;have e0:cD PG h (fV .eql aT (.tmp 15) (.const (.string {data:=#[]})) (.string (tx [])) (.string {data:=#[]}))=some (.bool true):=by
   have:=aFd (t:=aT) (h:=h) (x:=.tmp 15) (y:=.const (.string {data:=#[]})) (a:=[]) (b:=[]);exact this
  simp only[e0,cC,reduceIte,cI,Nat.reduceAdd];have:=hk h (.slice none 0 0) (.slice none 0 0) [] [] (by rw[aGn];exact eH.nil) (by rw[aGn];exact eH.nil) (λb hb=>by cases hb) (λb hb=>by cases hb) cX.refl (by rw[aGn];intro h;cases h);rw[aGn] at this;exact this
 | cons b0 t=>
  have e0:cD PG h (fV .eql aT (.tmp 15) (.const (.string {data:=#[]})) (.string (tx (b0::t))) (.string {data:=#[]}))=some (.bool false):=by
   have:=aFd (t:=aT) (h:=h) (x:=.tmp 15) (y:=.const (.string {data:=#[]})) (a:=b0::t) (b:=[]);exact this
  simp only[e0,cC,reduceIte,cI,Nat.reduceAdd];rw[aNU] at hk;obtain⟨T,hT⟩:∃T,jQ (g:Int) b0.toNat (0,t) []=T:=⟨_,rfl⟩;rw[hT] at hk;have hb0:=b0.toNat_lt;have hTl:=aLD (g:Int) b0.toNat (0,t) [];rw[hT] at hTl;simp only[kV,iZ] at hTl;simp only[iU] at hs;have bad:∀{h':PH} (e:Int),T.2.1=e->e≠0->dA h h'->k (.tuple #[.slice none 0 0,.slice none 0 0,.int .i64 0,.int .i64 e]) h':=by
   intro h' e he hne w;have:=hk h' (.slice none 0 0) (.slice none 0 0) [] [] (by rw[if_neg (by rw[he];exact hne)];exact eH.nil) (by rw[if_neg (by rw[he];exact hne)];exact eH.nil) (λb hb=>by cases hb) (λb hb=>by cases hb) w (λh0=>absurd h0 (by show T.2.1≠0;rw[he];exact hne));simp only[he] at this;rw[if_neg hne] at this;exact this
  refine⟨λvs h'=>∃(i at':Nat) (acc:List (Int×Pk)) (vk vp:Value) (Gk Gp:List Nat),i≤b0.toNat∧at'≤t.length∧acc.length=i∧vs=[.string (tx (b0::t)),.int .i64 (g:Int),vk,vp,.int .i64 ((at'+1:Nat):Int),.int .i64 (i:Int)]∧eH h' aR 1 vk (acc.map kc) Gk∧eH h' bX 4 vp (acc.map pc) Gp∧eD h Gk∧eD h Gp∧(∀b∈Gk,b∉Gp)∧dA h h'∧jQ (g:Int) (b0.toNat-i) (0,t.drop at') acc=T,fT 256 5,⟨0,0,[],.slice none 0 0,.slice none 0 0,[],[],by omega,by omega,rfl,rfl,eH.nil,eH.nil,(λb hb=>by cases hb),(λb hb=>by cases hb),(λb hb=>by cases hb),cX.refl,by rw[Nat.sub_zero,zLb];exact hT⟩,?_⟩;rintro ρ h' ⟨i,at',acc,vk,vp,Gk,Gp,hi,hat,hacc,hvs,Ok,Op,fk,fp,dkp,w,hr⟩;simp only[iG,jB,kZ,and_true] at hvs;obtain⟨x0,x1,x8,x9,x10,x11⟩:=hvs;unfold aF0;rw[x0,x1,x8,x9,x10,x11];have i0:cB PG (Instr.index aT (.string (tx (b0::t))) (.int .i64 0))=some (.int .u8 b0.toNat):=oB (j:=0) aT.und rfl;have ll:(b0::t).length=t.length+1:=rfl;by_cases hlt:i<b0.toNat
  ·have g1:((i:Int)<(b0.toNat:Int))=True:=eq_true (by omega);have gi:=nR (i:=i) (by omega);obtain⟨n,hn⟩:∃n,b0.toNat-i=n+1:=⟨b0.toNat-i-1,by omega⟩;rw[hn,aVY _ _ _ _ rfl] at hr;by_cases ha:at'=t.length
   ·have g2:(((b0::t).length:Int)≤((at'+1:Nat):Int))=True:=eq_true (by rw[ll];omega);have ed:t.drop at'=[]:=yQ (by omega);rw[ed,aHj _ _ _ _ (by rw[aPd];decide)] at hr;simp only[i0,aHJ,g1,iV,g2,cC,reduceIte,cI,Nat.reduceAdd];exact bad 6 (by rw[←hr];exact aPd (g:Int)) (by decide) w
   ·have g2:(((b0::t).length:Int)≤((at'+1:Nat):Int))=False:=eq_false (by rw[ll];omega);obtain⟨y,hy⟩:∃y,t[at']? =some y:=⟨_,kF (by omega)⟩;have ed:t.drop at'=y::t.drop (at'+1):=by
     rw[aAs (by omega)];have:t[at']=y:=by rw[kF (by omega)] at hy;simpa using hy
     rw[this]
    have hsd:((b0::t).drop (at'+2))=t.drop (at'+1):=by rw[zLa]
    have ga:IntKind.i64.wrap (((at'+1:Nat):Int)+1)=((at'+2:Nat):Int):=by rw[eB (by omega) (by omega)];omega
    have c1:cB PG (Instr.sliceAt aT (.string (tx (b0::t))) (some (.int .i64 ((at'+2:Nat):Int))) none none)=some (.string (tx (t.drop (at'+1)))):=by
     have:=kD (P:=PG) (t:=aT) (l:=b0::t) (i:=at'+2) (j:=(b0::t).length) (lo:=some (.int .i64 ((at'+2:Nat):Int))) (hi:=none) aT.und (.inr ⟨_,rfl⟩) (.inl ⟨rfl,rfl⟩) (by rw[ll];omega) (lM _);rw[this,zLJ,hsd]
    have iy:cB PG (Instr.index aT (.string (tx (b0::t))) (.int .i64 ((at'+1:Nat):Int)))=some (.int .u8 y.toNat):=oB (j:=at'+1) aT.und hy;have hy8:=y.toNat_lt;rw[ed,aTD] at hr;simp only[i0,aHJ,g1,iV,g2,ga,c1,cC,reduceIte,cI,Nat.reduceAdd];refine aUk (t.drop (at'+1)) (by rw[jC];omega) λh2 u2=>?_;simp only[cC,reduceIte,cI,Nat.reduceAdd];intro r16 hr16
    try rw[cR]
    refine bX.fill (vs:=(oP (0,t.drop (at'+1))).1.cells) hr16 rfl (Pk.isC _) λh3 B3 u3=>?_;have e3:=(w.trans u2).trans u3;by_cases ce:(oP (0,t.drop (at'+1))).2.1=0
    ·have q0:((oP (0,t.drop (at'+1))).2.1 !=0)=false:=by rw[ce];rfl
     rcases aIa (t.drop (at'+1)) with⟨-,-,e2⟩|⟨-,-,-,e2⟩|⟨hle,-,eP⟩
     ·rw[ce] at e2;cases e2
     ·rw[ce] at e2;cases e2
     ·rw[jC] at hle;by_cases k1:(y.toNat:Int)<1
      ·have g3:((y.toNat:Int)<1)=True:=eq_true k1;rw[if_pos (.inl k1),eP,aHj _ _ _ _ (by show(5:Int)≠0;decide)] at hr;simp only[eI,q0,iy,g3,cC,reduceIte,cI,Nat.reduceAdd];exact bad 5 (by rw[←hr];rfl) (by decide) e3
      ·have g3:((y.toNat:Int)<1)=False:=eq_false k1;by_cases k2:(g:Int)<(y.toNat:Int)
       ·have g4:((g:Int)<(y.toNat:Int))=True:=eq_true k2;rw[if_pos (.inr k2),eP,aHj _ _ _ _ (by show(5:Int)≠0;decide)] at hr;simp only[eI,q0,iy,g3,aHJ,g4,cC,reduceIte,cI,Nat.reduceAdd];exact bad 5 (by rw[←hr];rfl) (by decide) e3
       ·have g4:((g:Int)<(y.toNat:Int))=False:=eq_false k2;rw[if_neg (by omega)] at hr;simp only[eI,q0,iy,g3,aHJ,g4,aV7,cC,reduceIte,cI,Nat.reduceAdd];intro r47 hr47;refine iB ?_
        try rw[cR]
        have S4:iH (h3.set r47 (.cells #[.int .i64 (y.toNat:Int)] aR)) 1 (.slice (some ⟨r47,0,none⟩) 1 1) [[.int .i64 (y.toNat:Int)]]:=(eH.lit (e:=aR) (size:=1) (rows:=[[.int .i64 (y.toNat:Int)]]) (n:=1) (λr hr=>by simp only[iC] at hr;rw[hr];rfl) eN rfl (by decide) rfl).slR;have u4:dA h3 (h3.set r47 (.cells #[.int .i64 (y.toNat:Int)] aR)):=cX.new hr47;generalize h3.set r47 (.cells #[.int .i64 (y.toNat:Int)] aR)=h4 at *;have e4:=e3.trans u4;have u24:=(u2.trans u3).trans u4;refine lV mD.und mD.und aR.info aR.size aR.bytes aR.zero rfl (by decide) (Ok.ext u24) S4 (by simp[fL]) (by rw[iL,hacc];simp only[iU,kV];omega) ?_;intro v5 h5 G5 O5 u5 g5 _;have e5:=e4.fresh u5 fk;have nr16:r16∉Gk:=λhm=>(Ok.ext u2).known r16 hm hr16;have B5:=(B3.ext u4).upd u5 nr16;have Op5:=(Op.ext u24).upd u5 (λb hb hm=>dkp b hm hb);have f5:eD h G5:=λb hb=>by
         rcases g5 b hb with x|x
         ·exact fk b x
         ·exact e4.none x
        have d5:∀b∈G5,b∉Gp:=λb hb hm=>by
         rcases g5 b hb with x|x
         ·exact dkp b x hm
         ·exact(Op.ext u24).known b hm x
        simp only[aJi B5,aVa,cC,reduceIte,cI,Nat.reduceAdd];intro r54 hr54;refine iB ?_
        try rw[cR]
        have S6:iH (h5.set r54 (.cells (oP (0,t.drop (at'+1))).1.cells.toArray bX)) 4 (.slice (some ⟨r54,0,none⟩) 1 1) [(oP (0,t.drop (at'+1))).1.cells]:=(eH.lit (e:=bX) (size:=4) (rows:=[(oP (0,t.drop (at'+1))).1.cells]) (n:=1) (λr hr=>by simp only[iC] at hr;rw[hr];rfl) eN rfl (by decide) (by simp)).slR;have u6:dA h5 (h5.set r54 (.cells (oP (0,t.drop (at'+1))).1.cells.toArray bX)):=cX.new hr54;generalize h5.set r54 (.cells (oP (0,t.drop (at'+1))).1.cells.toArray bX)=h6 at *;have e6:=e5.trans u6;refine lV iF.und iF.und bX.info bX.size bX.bytes bX.zero rfl (by decide) (Op5.ext u6) S6 (by simp[Pk.cells,fL]) (by rw[iL,hacc];simp only[iU,kV];omega) ?_;intro v7 h7 G7 O7 u7 g7 _;have e7:=e6.fresh u7 fp;have O5':=(O5.ext u6).upd u7 d5;have f7:eD h G7:=λb hb=>by
         rcases g7 b hb with x|x
         ·exact fp b x
         ·exact e6.none x
        have d7:∀b∈G5,b∉G7:=λb hb hm=>by
         rcases g7 b hm with x|x
         ·exact d5 b hb x
         ·exact(O5.ext u6).known b hb x
        have hdl:=aS6 (t.drop (at'+1));have ga1:IntKind.i64.wrap (((at'+2:Nat):Int)+((19+dpN (t.drop (at'+1)):Nat):Int))=((at'+1+(19+dpN (t.drop (at'+1)))+1:Nat):Int):=by rw[eB (by omega) (by omega)];omega
        simp only[ce,if_true,ga,ga1,gi,cC,reduceIte,cI,Nat.reduceAdd];have en:b0.toNat-(i+1)=n:=by omega
        refine⟨⟨i+1,at'+1+(19+dpN (t.drop (at'+1))),acc++[((y.toNat:Int),(oP (0,t.drop (at'+1))).1)],v5,v7,G5,G7,by omega,by omega,by rw[jM,hacc];rfl,rfl,?_,?_,f5,f7,d7,e7,?_⟩,by simp[fT,x11];omega⟩
        ·rw[xJ];exact O5'
        ·rw[xJ];exact O7
        ·rw[en];rw[eP] at hr ⊢;rw[qK] at hr;exact hr
    ·have q0:((oP (0,t.drop (at'+1))).2.1 !=0)=true:=bne_iff_ne.2 ce;have es:(if (y.toNat:Int)<1∨(g:Int)<(y.toNat:Int) then xR (oP (0,t.drop (at'+1))).2 5 else(oP (0,t.drop (at'+1))).2).1=(oP (0,t.drop (at'+1))).2.1:=by
      split
      ·unfold xR;exact if_neg ce
      ·rfl
     rw[aHj _ _ _ _ (by show(if _ then _ else _:gY).1≠0;rw[es];exact ce)] at hr;simp only[eI,q0,cC,reduceIte,cI,Nat.reduceAdd];exact bad _ (by rw[←hr];exact es) ce e3
  ·have g1:((i:Int)<(b0.toNat:Int))=False:=eq_false (by omega);have en:b0.toNat-i=0:=by omega
   rw[en] at hr;have hr:T=(acc,((0:Int),t.drop at')):=hr.symm;rw[hr] at hk;simp only[if_true] at hk;have dl:(t.drop at').length=t.length-at':=jC;simp only[i0,aHJ,g1,cC,reduceIte,cI,Nat.reduceAdd];have:=hk h' vk vp Gk Gp Ok Op fk fp w (λ_=>⟨by rw[dl,ll];omega,by
    rw[dl,ll,show t.length+1-(t.length-at')=at'+1 by omega];rfl⟩)
   rw[show(b0::t).length-(t.drop at').length=at'+1 by rw[dl,ll];omega] at this;exact this
def aIm(g:Int)(s:Tx):(fJ g (0,s)).1.length≤255:=by
 cases s with
 | nil=>rw[aGn];exact kT _
 | cons b t=>
  rw[aNU];have:=aLD g b.toNat (0,t) [];have hb:=b.toNat_lt;simp only[kV,iZ] at this;show(if _ then _ else _:List (Int×Pk)).length≤255;split
  ·omega
  ·exact kT _
def aYK(a:Int)(p:Pk):cB PG (build cF #[(1,.int .i64 a),(0,.agg p.cells.toArray)])=some (.agg (It.of (a,p)).cells.toArray):=by kernel_rfl
def aYN(x:It):kC PG (buildSlice bZ 1 #[(0,.agg x.cells.toArray)])=some (.cells x.cells.toArray cF,λr=>pure (.slice (some ⟨r,0,none⟩) 1 1)):=by kernel_rfl
def aQE{h:PH}(s:Tx)(hs:s.length≤1000000){k:cE}
  (hk:∀h' v G,eH h' cF 5 v (((fJ 2 (0,s)).1.map It.of).map It.cells) G->eD h G->dA h h'->((fJ 2 (0,s)).2.1=0->(fJ 2 (0,s)).2.2.length≤s.length∧(fJ 2 (0,s)).2.2=s.drop (s.length-(fJ 2 (0,s)).2.2.length))->
   k (.tuple #[v,.int .i64 (if (fJ 2 (0,s)).2.1=0 then((s.length-(fJ 2 (0,s)).2.2.length:Nat):Int) else 0),.int .i64 (fJ 2 (0,s)).2.1]) h'):bT PG yW #[.string (tx s)] h k:=by
 apply pH.call;unfold pH;refine aRW s 2 hs λh1 vk vp Gk Gp Ok Op fk fp w hf=>?_;obtain⟨L,hL⟩:∃L,(fJ 2 (0,s)).1=L:=⟨_,rfl⟩;have hlen:(fJ 2 (0,s)).1.length≤255:=aIm 2 s;rw[show(fJ ((2:Nat):Int) (0,s))=fJ 2 (0,s) from rfl] at Ok Op hf ⊢;rw[hL] at Ok Op hk hlen;have lp:cB PG (Builtin.len_ #[iF] aR #[vp])=some (.int .i64 (L.length:Int)):=by
  have:=Op.slR.len (t':=aR) iF.und;rw[iL] at this;exact this
 simp only[cC,reduceIte,cI,Nat.reduceAdd];obtain⟨nv,hnv⟩:∃nv:Value,nv= .int .i64 (if (fJ 2 (0,s)).2.1=0 then((s.length-(fJ 2 (0,s)).2.2.length:Nat):Int) else 0):=⟨_,rfl⟩;obtain⟨ev,hev⟩:∃ev:Value,ev= .int .i64 (fJ 2 (0,s)).2.1:=⟨_,rfl⟩;rw[←hnv,←hev] at hk ⊢;refine⟨λvs h'=>∃(i:Nat) (v:Value) (G:List Nat),i≤L.length∧vs=[vk,vp,nv,ev,v,.int .i64 (i:Int)]∧eH h' cF 5 v (((L.take i).map It.of).map It.cells) G∧eD h G∧(∀b∈Gk,b∉G)∧(∀b∈Gp,b∉G)∧eH h' aR 1 vk (L.map kc) Gk∧eH h' bX 4 vp (L.map pc) Gp∧dA h h',fT L.length 5,⟨0,.slice none 0 0,[],by omega,rfl,eH.nil,(λb hb=>by cases hb),(λb hb hm=>by cases hm),(λb hb hm=>by cases hm),Ok,Op,w⟩,?_⟩;rintro ρ h' ⟨i,v,G,hi,hvs,O,fG,dk,dp,Ok',Op',w'⟩;simp only[iG,jB,kZ,and_true] at hvs;obtain⟨x5,x6,x7,x8,x9,x10⟩:=hvs;unfold aDB;rw[x5,x6,x7,x8,x9,x10];by_cases hlt:i<L.length
 ·have g1:((i:Int)<(L.length:Int))=True:=eq_true (by omega);have gi:=nR (i:=i) (by omega);obtain⟨x,hx⟩:∃x,L[i]? =some x:=⟨_,kF hlt⟩;obtain⟨a1,i1,l1⟩:=Ok'.slR.loadCell (t:=mD) (k:=.i64) (j:=(i:Int)) (x:=.int .i64 x.1) mD.und aR.info aR.size aR.und rfl (by omega) (by rw[xK,wG,hx];rfl);obtain⟨a2,i2,l2⟩:=Op'.slR.loadAgg (t:=iF) (k:=.i64) (j:=(i:Int)) (r:=x.2.cells) iF.und bX.info bX.size bX.und rfl (by omega) (by rw[xK,wG,hx];rfl);simp only[lp,g1,i1,l1,i2,l2,aYK,aYN,cC,reduceIte,cI,Nat.reduceAdd];intro r16 hr16;refine iB ?_
  try rw[cR]
  have S4:iH (h'.set r16 (.cells (It.of (x.1,x.2)).cells.toArray cF)) 5 (.slice (some ⟨r16,0,none⟩) 1 1) [(It.of (x.1,x.2)).cells]:=(eH.lit (e:=cF) (size:=5) (rows:=[(It.of (x.1,x.2)).cells]) (n:=1) (λr hr=>by simp only[iC] at hr;rw[hr];rfl) eN rfl (by decide) (by simp)).slR;have u4:dA h' (h'.set r16 (.cells (It.of (x.1,x.2)).cells.toArray cF)):=cX.new hr16;generalize h'.set r16 (.cells (It.of (x.1,x.2)).cells.toArray cF)=h4 at *;have e4:=w'.trans u4;refine lV bZ.und bZ.und cF.info cF.size cF.bytes cF.zero rfl (by decide) (O.ext u4) S4 (by simp[It.cells,fL]) (by simp only[iL,lU,iU,kV];omega) ?_;intro v5 h5 G5 O5 u5 g5 _;have f5:eD h G5:=λb hb=>by
   rcases g5 b hb with y|y
   ·exact fG b y
   ·exact e4.none y
  simp only[gi,cC,reduceIte,cI,Nat.reduceAdd];refine⟨⟨i+1,v5,G5,by omega,rfl,?_,f5,(λb hb hm=>?_),(λb hb hm=>?_),(Ok'.ext u4).upd u5 dk,(Op'.ext u4).upd u5 dp,e4.fresh u5 fG⟩,by simp[fT,x10];omega⟩
  ·rw[zLR,hx,xJ,xJ];exact O5
  ·rcases g5 b hm with y|y
   ·exact dk b hb y
   ·exact(Ok'.ext u4).known b hb y
  ·rcases g5 b hm with y|y
   ·exact dp b hb y
   ·exact(Op'.ext u4).known b hb y
 ·have g1:((i:Int)<(L.length:Int))=False:=eq_false (by omega);have et:L.take i=L:=sK (by omega);rw[et] at O;simp only[lp,g1,cC,reduceIte,cI,Nat.reduceAdd];exact hk h' v G O fG w' hf
def aYM(a:Int)(p:Pk):cB PG (build cL #[(0,.int .i64 a),(1,.agg p.cells.toArray)])=some (.agg (Nt.of (a,p)).cells.toArray):=by kernel_rfl
def aYU(x:Nt):kC PG (buildSlice cZ 1 #[(0,.agg x.cells.toArray)])=some (.cells x.cells.toArray cL,λr=>pure (.slice (some ⟨r,0,none⟩) 1 1)):=by kernel_rfl
def aQU{h:PH}(s:Tx)(hs:s.length≤1000000){k:cE}
  (hk:∀h' v G,eH h' cL 5 v (((fJ 4 (0,s)).1.map Nt.of).map Nt.cells) G->eD h G->dA h h'->((fJ 4 (0,s)).2.1=0->(fJ 4 (0,s)).2.2.length≤s.length∧(fJ 4 (0,s)).2.2=s.drop (s.length-(fJ 4 (0,s)).2.2.length))->
   k (.tuple #[v,.int .i64 (if (fJ 4 (0,s)).2.1=0 then((s.length-(fJ 4 (0,s)).2.2.length:Nat):Int) else 0),.int .i64 (fJ 4 (0,s)).2.1]) h'):bT PG yX #[.string (tx s)] h k:=by
 apply pG.call;unfold pG;refine aRW s 4 hs λh1 vk vp Gk Gp Ok Op fk fp w hf=>?_;obtain⟨L,hL⟩:∃L,(fJ 4 (0,s)).1=L:=⟨_,rfl⟩;have hlen:(fJ 4 (0,s)).1.length≤255:=aIm 4 s;rw[show(fJ ((4:Nat):Int) (0,s))=fJ 4 (0,s) from rfl] at Ok Op hf ⊢;rw[hL] at Ok Op hk hlen;have lp:cB PG (Builtin.len_ #[iF] aR #[vp])=some (.int .i64 (L.length:Int)):=by
  have:=Op.slR.len (t':=aR) iF.und;rw[iL] at this;exact this
 simp only[cC,reduceIte,cI,Nat.reduceAdd];obtain⟨nv,hnv⟩:∃nv:Value,nv= .int .i64 (if (fJ 4 (0,s)).2.1=0 then((s.length-(fJ 4 (0,s)).2.2.length:Nat):Int) else 0):=⟨_,rfl⟩;obtain⟨ev,hev⟩:∃ev:Value,ev= .int .i64 (fJ 4 (0,s)).2.1:=⟨_,rfl⟩;rw[←hnv,←hev] at hk ⊢;refine⟨λvs h'=>∃(i:Nat) (v:Value) (G:List Nat),i≤L.length∧vs=[vk,vp,nv,ev,v,.int .i64 (i:Int)]∧eH h' cL 5 v (((L.take i).map Nt.of).map Nt.cells) G∧eD h G∧(∀b∈Gk,b∉G)∧(∀b∈Gp,b∉G)∧eH h' aR 1 vk (L.map kc) Gk∧eH h' bX 4 vp (L.map pc) Gp∧dA h h',fT L.length 5,⟨0,.slice none 0 0,[],by omega,rfl,eH.nil,(λb hb=>by cases hb),(λb hb hm=>by cases hm),(λb hb hm=>by cases hm),Ok,Op,w⟩,?_⟩;rintro ρ h' ⟨i,v,G,hi,hvs,O,fG,dk,dp,Ok',Op',w'⟩;simp only[iG,jB,kZ,and_true] at hvs;obtain⟨x5,x6,x7,x8,x9,x10⟩:=hvs;unfold aC1;rw[x5,x6,x7,x8,x9,x10];by_cases hlt:i<L.length
 ·have g1:((i:Int)<(L.length:Int))=True:=eq_true (by omega);have gi:=nR (i:=i) (by omega);obtain⟨x,hx⟩:∃x,L[i]? =some x:=⟨_,kF hlt⟩;obtain⟨a1,i1,l1⟩:=Ok'.slR.loadCell (t:=mD) (k:=.i64) (j:=(i:Int)) (x:=.int .i64 x.1) mD.und aR.info aR.size aR.und rfl (by omega) (by rw[xK,wG,hx];rfl);obtain⟨a2,i2,l2⟩:=Op'.slR.loadAgg (t:=iF) (k:=.i64) (j:=(i:Int)) (r:=x.2.cells) iF.und bX.info bX.size bX.und rfl (by omega) (by rw[xK,wG,hx];rfl);simp only[lp,g1,i1,l1,i2,l2,aYM,aYU,cC,reduceIte,cI,Nat.reduceAdd];intro r16 hr16;refine iB ?_
  try rw[cR]
  have S4:iH (h'.set r16 (.cells (Nt.of (x.1,x.2)).cells.toArray cL)) 5 (.slice (some ⟨r16,0,none⟩) 1 1) [(Nt.of (x.1,x.2)).cells]:=(eH.lit (e:=cL) (size:=5) (rows:=[(Nt.of (x.1,x.2)).cells]) (n:=1) (λr hr=>by simp only[iC] at hr;rw[hr];rfl) eN rfl (by decide) (by simp)).slR;have u4:dA h' (h'.set r16 (.cells (Nt.of (x.1,x.2)).cells.toArray cL)):=cX.new hr16;generalize h'.set r16 (.cells (Nt.of (x.1,x.2)).cells.toArray cL)=h4 at *;have e4:=w'.trans u4;refine lV cZ.und cZ.und cL.info cL.size cL.bytes cL.zero rfl (by decide) (O.ext u4) S4 (by simp[Nt.cells,fL]) (by simp only[iL,lU,iU,kV];omega) ?_;intro v5 h5 G5 O5 u5 g5 _;have f5:eD h G5:=λb hb=>by
   rcases g5 b hb with y|y
   ·exact fG b y
   ·exact e4.none y
  simp only[gi,cC,reduceIte,cI,Nat.reduceAdd];refine⟨⟨i+1,v5,G5,by omega,rfl,?_,f5,(λb hb hm=>?_),(λb hb hm=>?_),(Ok'.ext u4).upd u5 dk,(Op'.ext u4).upd u5 dp,e4.fresh u5 fG⟩,by simp[fT,x10];omega⟩
  ·rw[zLR,hx,xJ,xJ];exact O5
  ·rcases g5 b hm with y|y
   ·exact dk b hb y
   ·exact(Ok'.ext u4).known b hb y
  ·rcases g5 b hm with y|y
   ·exact dp b hb y
   ·exact(Op'.ext u4).known b hb y
 ·have g1:((i:Int)<(L.length:Int))=False:=eq_false (by omega);have et:L.take i=L:=sK (by omega);rw[et] at O;simp only[lp,g1,cC,reduceIte,cI,Nat.reduceAdd];exact hk h' v G O fG w' hf
def aQA{e:Int}{t:Tx}(he:e≠0):gU (e,t)=(Pl.zero,(e,t)):=by
 have h0:¬(65535<(0:Nat)):=by omega
 unfold gU;simp only[aGu he,h0,if_false];rw[if_neg he]
def aHo{g e:Int}{t:Tx}(he:e≠0):fJ g (e,t)=([],(e,t)):=by
 unfold fJ;simp only[aGu he];show(if e=0 then([]:List (Int×Pk)) else [],(e,t))=_;rw[if_neg he]
def aPL{e:Int}{t:Tx}(he:e≠0):aG9 (e,t)=e:=by
 unfold aG9;rw[if_neg (λh=>he h.1)]
def aTJ{e x:Int}{t:Tx}(he:e≠0):xR (e,t) x=(e,t):=by
 unfold xR;simp only;rw[if_neg he]
def aC7{s:Tx}{e:Int}{t:Tx}(h:(Rc.rd s).2=(e,t))(he:e≠0):gM s=(Rc.zero,e):=by
 have e1:wL s=(e,t):=by
  unfold wL;rw[h];split
  ·rfl
  ·exact aTJ he
 unfold gM;rw[e1,aPL he,if_pos he]
def aKH{s t:Tx}(h:(Rc.rd s).2=((0:Int),t))(hp:(Rc.rd s).1.plain=false):gM s=(Rc.zero,5):=by
 have e1:wL s=((5:Int),t):=by
  unfold wL;rw[h,hp];rfl
 unfold gM;rw[e1,aPL (by decide),if_pos (by decide)]
def aOw{s t:Tx}(h:(Rc.rd s).2=((0:Int),t))(hp:(Rc.rd s).1.plain=true):gM s=if t≠[] then(Rc.zero,7) else((Rc.rd s).1,0):=by
 have e1:wL s=((0:Int),t):=by
  unfold wL;rw[h,hp];rfl
 unfold gM;rw[e1];by_cases c:t=[]
 ·have:aG9 ((0:Int),t)=0:=by unfold aG9;rw[if_neg (λh=>h.2 c)]
  rw[this,if_neg (by simp),if_neg (by simpa using c)]
 ·have:aG9 ((0:Int),t)=7:=by unfold aG9;rw[if_pos ⟨rfl,c⟩]
  rw[this,if_pos (by decide),if_pos c]
def aCJ(t:Tx):Rc×Int:=
 if (gU (0,t)).2.1≠0 then(Rc.zero,(gU (0,t)).2.1)
 else if (gU (0,t.drop 16)).2.1≠0 then(Rc.zero,(gU (0,t.drop 16)).2.1)
 else if (fJ 2 (0,t.drop 32)).2.1≠0 then(Rc.zero,(fJ 2 (0,t.drop 32)).2.1)
 else if 40<(fJ 2 (0,t.drop 32)).1.length then(Rc.zero,5)
 else if (fJ 2 (0,t.drop 32)).2.2≠[] then(Rc.zero,7)
 else(⟨1,⟨(gU (0,t)).1,(gU (0,t.drop 16)).1,(fJ 2 (0,t.drop 32)).1.map It.of⟩,0,Pl.zero,[]⟩,0)
def aJN{t:Tx}(h:(gU (0,t)).2.1=0):(gU (0,t)).2=((0:Int),t.drop 16)∧16≤t.length:=by
 rcases aOq t with⟨-,-,e⟩|⟨-,-,-,e⟩|⟨c,-,e⟩
 ·rw[h] at e;cases e
 ·rw[h] at e;cases e
 ·rw[e];exact⟨rfl,c⟩
def rd1(t:Tx):Rc.rd (1::t)=(⟨1,⟨(gU (0,t)).1,(gU (gU (0,t)).2).1,(fJ 2 (gU (gU (0,t)).2).2).1.map It.of⟩,0,Pl.zero,[]⟩,(fJ 2 (gU (gU (0,t)).2).2).2):=by
 have e:fK (0,1::t) 1=(1,((0:Int),t)):=by
  rw[pJ (t:=1::t) (c:=1) (by simp)];rfl
 unfold Rc.rd;rw[e];rfl
def rd2(t:Tx):Rc.rd (2::t)=(⟨2,Dm.zero,(fK (0,t) 1).1,(gU (fK (0,t) 1).2).1,(fJ 4 (gU (fK (0,t) 1).2).2).1.map Nt.of⟩,(fJ 4 (gU (fK (0,t) 1).2).2).2):=by
 have e:fK (0,2::t) 1=(2,((0:Int),t)):=by
  rw[pJ (t:=2::t) (c:=1) (by simp)];rfl
 unfold Rc.rd;rw[e];rfl
def aL0(t:Tx):gM (1::t)=aCJ t:=by
 have hr:=rd1 t;unfold aCJ;by_cases c0:(gU (0,t)).2.1=0
 ·rw[if_neg (λx=>x c0)];rw[(aJN c0).1] at hr;by_cases c1:(gU (0,t.drop 16)).2.1=0
  ·rw[if_neg (λx=>x c1)];rw[(aJN c1).1,qK] at hr;by_cases c2:(fJ 2 (0,t.drop 32)).2.1=0
   ·rw[if_neg (λx=>x c2)];have e2:(Rc.rd (1::t)).2=((0:Int),(fJ 2 (0,t.drop 32)).2.2):=by
     rw[hr];exact Prod.ext c2 rfl
    by_cases c3:40<(fJ 2 (0,t.drop 32)).1.length
    ·rw[if_pos c3];refine aKH e2 ?_;rw[hr];unfold Rc.plain;simp only[if_true,iL];have:decide ((fJ 2 (0,t.drop 32)).1.length≤40)=false:=decide_eq_false (by omega);rw[this,aI3]
    ·rw[if_neg c3];have hp:(Rc.rd (1::t)).1.plain=true:=by
      rw[hr];unfold Rc.plain;simp only[if_true,iL];have:decide ((fJ 2 (0,t.drop 32)).1.length≤40)=true:=decide_eq_true (by omega);rw[this];rfl
     rw[aOw e2 hp,hr]
   ·rw[if_pos c2];refine aC7 (t:=(fJ 2 (0,t.drop 32)).2.2) ?_ c2;rw[hr]
  ·rw[if_pos c1];refine aC7 (t:=(gU (0,t.drop 16)).2.2) ?_ c1;rw[hr];show(fJ 2 ((gU (0,t.drop 16)).2.1,(gU (0,t.drop 16)).2.2)).2=_;rw[aHo c1]
 ·rw[if_pos c0];refine aC7 (t:=(gU (0,t)).2.2) ?_ c0;rw[hr];show(fJ 2 (gU ((gU (0,t)).2.1,(gU (0,t)).2.2)).2).2=_;rw[aQA c0];show(fJ 2 ((gU (0,t)).2.1,(gU (0,t)).2.2)).2=_;rw[aHo c0]
def aFI:Tx->Rc×Int
 | []=>(Rc.zero,6)
 | b::t=>
  if (gU (0,t)).2.1≠0 then(Rc.zero,(gU (0,t)).2.1)
  else if (fJ 4 (0,t.drop 16)).2.1≠0 then(Rc.zero,(fJ 4 (0,t.drop 16)).2.1)
  else if 1<b.toNat∨16<(fJ 4 (0,t.drop 16)).1.length then(Rc.zero,5)
  else if (fJ 4 (0,t.drop 16)).2.2≠[] then(Rc.zero,7)
  else(⟨2,Dm.zero,(b.toNat:Int),(gU (0,t)).1,(fJ 4 (0,t.drop 16)).1.map Nt.of⟩,0)
def aMh(t:Tx):gM (2::t)=aFI t:=by
 have hr:=rd2 t;cases t with
 | nil=>
  rw[aCS (t:=[]) (c:=1) (by simp)] at hr;refine aC7 (t:=[]) ?_ (by decide);rw[hr];show(fJ 4 (gU ((6:Int),[])).2).2=_;rw[aQA (by decide)];show(fJ 4 ((6:Int),[])).2=_;rw[aHo (by decide)]
 | cons b t=>
  have eg:fK (0,b::t) 1=(b.toNat,((0:Int),t)):=by
   rw[pJ (t:=b::t) (c:=1) (by simp)];simp[lG]
  rw[eg] at hr;simp only at hr;simp only[aFI];by_cases c0:(gU (0,t)).2.1=0
  ·rw[if_neg (λx=>x c0)];rw[(aJN c0).1] at hr;by_cases c2:(fJ 4 (0,t.drop 16)).2.1=0
   ·rw[if_neg (λx=>x c2)];have e2:(Rc.rd (2::b::t)).2=((0:Int),(fJ 4 (0,t.drop 16)).2.2):=by
     rw[hr];exact Prod.ext c2 rfl
    have epl:(Rc.rd (2::b::t)).1.plain=((decide ((b.toNat:Int)=0)||decide ((b.toNat:Int)=1))&&decide ((fJ 4 (0,t.drop 16)).1.length≤16)):=by
     rw[hr];unfold Rc.plain;rw[if_neg (by show ¬((2:Int)=1);decide),if_pos rfl];simp only[iL];rfl
    by_cases c3:1<b.toNat∨16<(fJ 4 (0,t.drop 16)).1.length
    ·rw[if_pos c3];refine aKH e2 ?_;rw[epl];rcases c3 with c3|c3
     ·have a1:decide ((b.toNat:Int)=0)=false:=decide_eq_false (by omega);have a2:decide ((b.toNat:Int)=1)=false:=decide_eq_false (by omega);rw[a1,a2];rfl
     ·have:decide ((fJ 4 (0,t.drop 16)).1.length≤16)=false:=decide_eq_false (by omega);rw[this,aI3]
    ·rw[if_neg c3];have hp:(Rc.rd (2::b::t)).1.plain=true:=by
      rw[epl];have a1:(decide ((b.toNat:Int)=0)||decide ((b.toNat:Int)=1))=true:=by
       rw[aHE,decide_eq_true_iff,decide_eq_true_iff];omega
      have a2:decide ((fJ 4 (0,t.drop 16)).1.length≤16)=true:=decide_eq_true (by omega);rw[a1,a2];rfl
     rw[aOw e2 hp,hr]
   ·rw[if_pos c2];refine aC7 (t:=(fJ 4 (0,t.drop 16)).2.2) ?_ c2;rw[hr]
  ·rw[if_pos c0];refine aC7 (t:=(gU (0,t)).2.2) ?_ c0;rw[hr];show(fJ 4 ((gU (0,t)).2.1,(gU (0,t)).2.2)).2=_;rw[aHo c0]
def aOZ:gM []=(Rc.zero,6):=by
 refine aC7 (t:=[]) ?_ (by decide);unfold Rc.rd;rw[aCS (t:=[]) (c:=1) (by simp)];rfl
def aL2{b:UInt8}{t:Tx}(h1:b≠1)(h2:b≠2):gM (b::t)=(Rc.zero,5):=by
 have eg:fK (0,b::t) 1=(b.toNat,((0:Int),t)):=by
  rw[pJ (t:=b::t) (c:=1) (by simp)];simp[lG]
 have n1:¬b.toNat=1:=λe=>h1 (UInt8.toNat_inj.1 e);have n2:¬b.toNat=2:=λe=>h2 (UInt8.toNat_inj.1 e);have hr:Rc.rd (b::t)=(⟨(b.toNat:Int),Dm.zero,0,Pl.zero,[]⟩,((0:Int),t)):=by
  unfold Rc.rd;rw[eg];simp only;rw[if_neg n1,if_neg n2]
 refine aKH (t:=t) (by rw[hr]) ?_;rw[hr];unfold Rc.plain;rw[if_neg (by simp only;omega),if_neg (by simp only;omega)]
def aHx{h:PH}{r:Nat}{x:Rc}{v w:Value}(B:Bx h r (x.cells v w)):cD PG h (loadAt bW (pT r 0))=some (x.v v w):=bW.agg B (by show 0+10≤10;decide)
def aE6{h h':PH}{h0:PH}{n:Nat}{v:Value}{rows:List (List Value)}{r:Nat}(S:iH h n v rows)(N:iQ h0 v)(hr:h0 r≠none)(u:cX [r] h h'):iH h' n v rows:=S.upd u λa m c e hm=>by
 simp only[iC] at hm;exact hr (hm▸N a m c e)
def rcI(t:Tx):Nat->Rc
 | 0=>⟨1,Dm.zero,0,Pl.zero,[]⟩
 | 1=>⟨1,⟨(gU (0,t)).1,Pl.zero,[]⟩,0,Pl.zero,[]⟩
 | _=>⟨1,⟨(gU (0,t)).1,(gU (0,t.drop 16)).1,[]⟩,0,Pl.zero,[]⟩
def aNG(q:Pl):∀v∈q.cells,fL v=true:=by simp[Pl.cells,fL]
def aTN{h:PH}(t:Tx)(hs:t.length≤1000000){k:cE}
  (hk:∀h' vi,jT h' vi (aCJ t).1.s.its->iQ h vi->(aCJ t).1.ns=[]->dA h h'->k (.tuple #[(aCJ t).1.v vi (.slice none 0 0),.int .i64 (aCJ t).2]) h'):bT PG aBJ #[.string (tx t)] h k:=by
 apply aAN.call;unfold aAN;intro r1 hr1
 try rw[cR]
 have Z1:Bx (h.set r1 (.cells (dJ PG bW) bW)) r1 (Rc.zero.cells (.slice none 0 0) (.slice none 0 0)):=bW.zbox;have u1:dA h (h.set r1 (.cells (dJ PG bW) bW)):=cX.new hr1;generalize h.set r1 (.cells (dJ PG bW) bW)=h1 at *;have rb:cB PG (build bW #[(0,.int .i64 1)])=some ((rcI t 0).v (.slice none 0 0) (.slice none 0 0)):=by kernel_rfl
 simp only[rb,cC,reduceIte,cI,Nat.reduceAdd];intro r4 hr4
 try rw[cR]
 refine bW.fill (vs:=(rcI t 0).cells (.slice none 0 0) (.slice none 0 0)) hr4 rfl (Rc.isC _ rfl rfl) λh2 B2 u2=>?_;have e2:=u1.trans u2;have n14:r1≠r4:=Z1.apart hr4;have f1:eD h [r1]:=eD.one hr1;have f4:eD h [r4]:=eD.one (u1.none hr4);have k1:h1 r1≠none:=Z1.known;have hDm:∀e:Int,(Rc.zero).ns=[]:=λ_=>rfl;have fin:∀{h':PH} (x:Rc) (e:Int) (vi:Value),aCJ t=(x,e)->jT h' vi x.s.its->iQ h1 vi->x.ns=[]->Bx h' r1 (Rc.zero.cells (.slice none 0 0) (.slice none 0 0))->dA h h'->cN PG (cP bW (pT r1 0) (x.v vi (.slice none 0 0))) h' λ_ h8=>bY (cD PG h8 (loadAt bW (pT r1 0))) λv9=>k (.tuple #[v9,.int .i64 e]) h8:=by
  intro h' x e vi hx S N hns B w;refine bW.put B (vs:=x.cells vi (.slice none 0 0)) (o:=0) rfl (by show 0+10≤10;decide) (Rc.isC _ S.isc rfl) λh3 B3 u3=>?_;have B3:Bx h3 r1 (x.cells vi (.slice none 0 0)):=B3;simp only[aHx B3,iO,zPP];have:=hk h3 vi (by rw[hx];exact aE6 S N k1 u3) (N.of u1) (by rw[hx];exact hns) (w.fresh u3 f1);rw[hx] at this;exact this
 have bad:∀{h':PH} (e:Int),aCJ t=(Rc.zero,e)->Bx h' r1 (Rc.zero.cells (.slice none 0 0) (.slice none 0 0))->dA h h'->cN PG (cP bW (pT r1 0) (Rc.zero.v (.slice none 0 0) (.slice none 0 0))) h' λ_ h8=>bY (cD PG h8 (loadAt bW (pT r1 0))) λv9=>k (.tuple #[v9,.int .i64 e]) h8:=
  λe he B w=>fin Rc.zero e (.slice none 0 0) he aDq iQ.nil rfl B w
 refine⟨λvs h'=>∃i:Nat,i≤2∧16*i≤t.length∧vs=[.string (tx (t.drop (16*i))),pT r1 0,pT r4 0,.int .i64 (i:Int)]∧Bx h' r4 ((rcI t i).cells (.slice none 0 0) (.slice none 0 0))∧Bx h' r1 (Rc.zero.cells (.slice none 0 0) (.slice none 0 0))∧dA h1 h'∧(1≤i->(gU (0,t)).2.1=0)∧(2≤i->(gU (0,t.drop 16)).2.1=0),fT 2 3,⟨0,by omega,by omega,rfl,B2,Z1.ext u2,u2,(λh=>by omega),(λh=>by omega)⟩,?_⟩;rintro ρ h' ⟨i,hi,h16,hvs,B,Z,w,p0,p1⟩;simp only[iG,jB,kZ,and_true] at hvs;obtain⟨x0,x2,x4,x5⟩:=hvs;unfold aEq;rw[x0,x2,x4,x5];have w0:=u1.trans w;by_cases hlt:i<2
 ·have g:((i:Int)<2)=True:=eq_true (by omega);have gi:=nR (i:=i) (by omega);simp only[g,cC,reduceIte,cI,Nat.reduceAdd];refine aK6 (t.drop (16*i)) (by rw[jC];omega) λh3 u3=>?_;simp only[cC,reduceIte,cI,Nat.reduceAdd];intro r16 hr16
  try rw[cR]
  refine cG.fill (vs:=(gU (0,t.drop (16*i))).1.cells) hr16 rfl (aNG _) λh4 B4 u4=>?_;have e34:=u3.trans u4;by_cases c:(gU (0,t.drop (16*i))).2.1=0
  ·have q:((gU (0,t.drop (16*i))).2.1 !=0)=false:=by rw[c];rfl
   have hf:=(aJN c).2;rw[jC] at hf;have l4:cD PG h4 (loadAt cG (pT r16 0))=some (.agg (gU (0,t.drop (16*i))).1.cells.toArray):=aCR B4 rfl;have ixi:cB PG (indexAt cU (pT r4 1) (.int .i64 (i:Int)))=some (pT r4 (1+i*2)):=ixQ hlt;have c16:cB PG (Instr.sliceAt aT (.string (tx (t.drop (16*i)))) (some (.int .i64 16)) none none)=some (.string (tx (t.drop (16*(i+1))))):=by
    have:=kD (P:=PG) (t:=aT) (l:=t.drop (16*i)) (i:=16) (j:=(t.drop (16*i)).length) (lo:=some (.int .i64 16)) (hi:=none) aT.und (.inr ⟨_,rfl⟩) (.inl ⟨rfl,rfl⟩) (by rw[jC];omega) (lM _);rw[this,zLJ,qK,Nat.mul_succ]
   simp only[eI,q,c,if_true,l4,bW.f1,bR.f0,ixi,cC,reduceIte,cI,Nat.reduceAdd];have i01:i=0∨i=1:=by omega
   refine cG.put (B.ext e34) (vs:=(gU (0,t.drop (16*i))).1.cells) (o:=1+i*2) rfl (by show 1+i*2+2≤10;omega) (aNG _) λh5 B5 u5=>?_;have B5:Bx h5 r4 ((rcI t (i+1)).cells (.slice none 0 0) (.slice none 0 0)):=by
    rcases i01 with rfl|rfl
    ·exact B5
    ·exact B5
   simp only[c16,gi,cC,reduceIte,cI,Nat.reduceAdd];refine⟨⟨i+1,by omega,by omega,rfl,B5,(Z.ext e34).upd u5 (by simpa using n14),(w.trans e34).fresh u5 (eD.one hr4),λ_=>?_,λh2=>?_⟩,by simp[fT,x5];omega⟩
   ·rcases i01 with rfl|rfl
    ·exact c
    ·exact p0 (by omega)
   ·rcases i01 with rfl|rfl
    ·omega
    ·exact c
  ·have q:((gU (0,t.drop (16*i))).2.1 !=0)=true:=bne_iff_ne.2 c;simp only[eI,q,vW,cC,reduceIte,cI,Nat.reduceAdd];refine bad _ ?_ (Z.ext e34) (w0.trans e34);have i01:i=0∨i=1:=by omega
   unfold aCJ;rcases i01 with rfl|rfl
   ·exact if_pos (show(gU (0,t)).2.1≠0 from c)
   ·rw[if_neg (λx=>x (p0 (by omega)))];exact if_pos (show(gU (0,t.drop 16)).2.1≠0 from c)
 ·have g:((i:Int)<2)=False:=eq_false (by omega);obtain rfl:i=2:=by omega
  have hp0:=p0 (by omega);have hp1:=p1 (by omega);have dS:aCJ t=if (fJ 2 (0,t.drop 32)).2.1≠0 then(Rc.zero,(fJ 2 (0,t.drop 32)).2.1)
    else if 40<(fJ 2 (0,t.drop 32)).1.length then(Rc.zero,5)
    else if (fJ 2 (0,t.drop 32)).2.2≠[] then(Rc.zero,7)
    else(⟨1,⟨(gU (0,t)).1,(gU (0,t.drop 16)).1,(fJ 2 (0,t.drop 32)).1.map It.of⟩,0,Pl.zero,[]⟩,0):=by
   unfold aCJ;rw[if_neg (λx=>x hp0),if_neg (λx=>x hp1)]
  simp only[g,cC,reduceIte,cI,Nat.reduceAdd];refine aQE (t.drop 32) (by rw[jC];omega) λh3 v G O3 fG u3 hf=>?_;have NV:iQ h1 v:=(O3.newV fG).of w;have lv:cB PG (Builtin.len_ #[bZ] aR #[v])=some (.int .i64 ((fJ 2 (0,t.drop 32)).1.length:Int)):=by
   have:=It.len O3.slR;rw[iL] at this;exact this
  obtain⟨L,hL⟩:∃L,fJ 2 (0,t.drop 32)=L:=⟨_,rfl⟩;rw[hL] at dS O3 lv hf ⊢;by_cases c2:L.2.1=0
  ·have q2:(L.2.1 !=0)=false:=by rw[c2];rfl
   rw[if_neg (λx=>x c2)] at dS;obtain⟨hf1,hf2⟩:=hf c2;by_cases c3:40<L.1.length
   ·have g3:((40:Int)<(L.1.length:Int))=True:=eq_true (by omega);rw[if_pos c3] at dS;simp only[eI,q2,lv,g3,vW,cC,reduceIte,cI,Nat.reduceAdd];exact bad 5 dS (Z.ext u3) (w0.trans u3)
   ·have g3:((40:Int)<(L.1.length:Int))=False:=eq_false (by omega);rw[if_neg c3] at dS;by_cases c4:L.2.2=[]
    ·have g4:((((t.drop 32).length-L.2.2.length:Nat):Int)<((t.drop 32).length:Int))=False:=eq_false (by rw[c4];simp);rw[if_neg (λx=>x c4)] at dS;simp only[eI,q2,lv,g3,c2,if_true,iV,g4,bW.f1,bR.f1,cC,reduceIte,cI,Nat.reduceAdd];refine bZ.put (B.ext u3) (o:=5) (by show 5<10;decide) O3.slR.isc λh4 B4 u4=>?_;have B4:Bx h4 r4 (Rc.cells ⟨1,⟨(gU (0,t)).1,(gU (0,t.drop 16)).1,L.1.map It.of⟩,0,Pl.zero,[]⟩ v (.slice none 0 0)):=B4;simp only[aHx B4,cC,reduceIte,cI,Nat.reduceAdd];have S4:jT h4 v (L.1.map It.of):=aE6 O3.slR (O3.newV fG) (B.known) u4;exact fin _ 0 v dS S4 NV rfl ((Z.ext u3).upd u4 (by simpa using n14)) ((w0.trans u3).fresh u4 f4)
    ·have g4:((((t.drop 32).length-L.2.2.length:Nat):Int)<((t.drop 32).length:Int))=True:=by
      have:0<L.2.2.length:=aJ6.2 c4;exact eq_true (by omega)
     rw[if_pos c4] at dS;simp only[eI,q2,lv,g3,c2,if_true,iV,g4,vW,cC,reduceIte,cI,Nat.reduceAdd];exact bad 7 dS (Z.ext u3) (w0.trans u3)
  ·have q2:(L.2.1 !=0)=true:=bne_iff_ne.2 c2;rw[if_pos c2] at dS;simp only[eI,q2,vW,cC,reduceIte,cI,Nat.reduceAdd];exact bad _ dS (Z.ext u3) (w0.trans u3)
def aYZ(c:Int):cB PG (build bW #[(0,.int .i64 2),(2,.int .i64 c)])=some (Rc.v ⟨2,Dm.zero,c,Pl.zero,[]⟩ (.slice none 0 0) (.slice none 0 0)):=by kernel_rfl
def aRf{h:PH}(s:Tx)(hs:s.length≤1000000){k:cE}
  (hk:∀h' vn,wN h' vn (aFI s).1.ns->iQ h vn->(aFI s).1.s.its=[]->dA h h'->k (.tuple #[(aFI s).1.v (.slice none 0 0) vn,.int .i64 (aFI s).2]) h'):bT PG aBn #[.string (tx s)] h k:=by
 apply aBH.call;unfold aBH;intro r1 hr1
 try rw[cR]
 have Z1:Bx (h.set r1 (.cells (dJ PG bW) bW)) r1 (Rc.zero.cells (.slice none 0 0) (.slice none 0 0)):=bW.zbox;have u1:dA h (h.set r1 (.cells (dJ PG bW) bW)):=cX.new hr1;generalize h.set r1 (.cells (dJ PG bW) bW)=h1 at *;have f1:eD h [r1]:=eD.one hr1;have k1:h1 r1≠none:=Z1.known;have fin:∀{h':PH} (x:Rc) (e:Int) (vn:Value),aFI s=(x,e)->wN h' vn x.ns->iQ h1 vn->x.s.its=[]->Bx h' r1 (Rc.zero.cells (.slice none 0 0) (.slice none 0 0))->dA h h'->cN PG (cP bW (pT r1 0) (x.v (.slice none 0 0) vn)) h' λ_ h8=>bY (cD PG h8 (loadAt bW (pT r1 0))) λv9=>k (.tuple #[v9,.int .i64 e]) h8:=by
  intro h' x e vn hx S N hns B w;refine bW.put B (vs:=x.cells (.slice none 0 0) vn) (o:=0) rfl (by show 0+10≤10;decide) (Rc.isC _ rfl S.isc) λh3 B3 u3=>?_;have B3:Bx h3 r1 (x.cells (.slice none 0 0) vn):=B3;simp only[aHx B3,iO,zPP];have:=hk h3 vn (by rw[hx];exact aE6 S N k1 u3) (N.of u1) (by rw[hx];exact hns) (w.fresh u3 f1);rw[hx] at this;exact this
 have bad:∀{h':PH} (e:Int),aFI s=(Rc.zero,e)->Bx h' r1 (Rc.zero.cells (.slice none 0 0) (.slice none 0 0))->dA h h'->cN PG (cP bW (pT r1 0) (Rc.zero.v (.slice none 0 0) (.slice none 0 0))) h' λ_ h8=>bY (cD PG h8 (loadAt bW (pT r1 0))) λv9=>k (.tuple #[v9,.int .i64 e]) h8:=
  λe he B w=>fin Rc.zero e (.slice none 0 0) he aMN iQ.nil rfl B w
 cases s with
 | nil=>
  have e0:cD PG h1 (fV .eql aT (.tmp 9) (.const (.string {data:=#[]})) (.string (tx [])) (.string {data:=#[]}))=some (.bool true):=by
   have:=aFd (t:=aT) (h:=h1) (x:=.tmp 9) (y:=.const (.string {data:=#[]})) (a:=[]) (b:=[]);exact this
  simp only[e0,vW,cC,reduceIte,cI,Nat.reduceAdd];exact bad 6 rfl Z1 u1
 | cons b t=>
  have e0:cD PG h1 (fV .eql aT (.tmp 9) (.const (.string {data:=#[]})) (.string (tx (b::t))) (.string {data:=#[]}))=some (.bool false):=by
   have:=aFd (t:=aT) (h:=h1) (x:=.tmp 9) (y:=.const (.string {data:=#[]})) (a:=b::t) (b:=[]);exact this
  have i0:cB PG (Instr.index aT (.string (tx (b::t))) (.int .i64 0))=some (.int .u8 b.toNat):=oB (j:=0) aT.und rfl;have ll:(b::t).length=t.length+1:=rfl;have c1:cB PG (Instr.sliceAt aT (.string (tx (b::t))) (some (.int .i64 1)) none none)=some (.string (tx t)):=by
   have:=kD (P:=PG) (t:=aT) (l:=b::t) (i:=1) (j:=(b::t).length) (lo:=some (.int .i64 1)) (hi:=none) aT.und (.inr ⟨_,rfl⟩) (.inl ⟨rfl,rfl⟩) (by rw[ll];omega) (lM _);rw[this,zLJ];rfl
  simp only[e0,i0,aHJ,aYZ,cC,reduceIte,cI,Nat.reduceAdd];intro r11 hr11
  try rw[cR]
  refine bW.fill (vs:=Rc.cells ⟨2,Dm.zero,(b.toNat:Int),Pl.zero,[]⟩ (.slice none 0 0) (.slice none 0 0)) hr11 rfl (Rc.isC _ rfl rfl) λh2 B2 u2=>?_;have e2:=u1.trans u2;have n1:r1≠r11:=Z1.apart hr11;have f11:eD h [r11]:=eD.one (u1.none hr11);simp only[c1,cC,reduceIte,cI,Nat.reduceAdd];rw[ll] at hs;refine aK6 t (by omega) λh3 u3=>?_;simp only[cC,reduceIte,cI,Nat.reduceAdd];intro r21 hr21
  try rw[cR]
  refine cG.fill (vs:=(gU (0,t)).1.cells) hr21 rfl (aNG _) λh4 B4 u4=>?_;have e34:=u3.trans u4;have Z4:=(Z1.ext u2).ext e34;have w4:=e2.trans e34;by_cases c:(gU (0,t)).2.1=0
  ·have q:((gU (0,t)).2.1 !=0)=false:=by rw[c];rfl
   have hf:=(aJN c).2;have w17:IntKind.i64.wrap ((1:Int)+16)=17:=by decide
   have c17:cB PG (Instr.sliceAt aT (.string (tx (b::t))) (some (.int .i64 17)) none none)=some (.string (tx (t.drop 16))):=by
    have:=kD (P:=PG) (t:=aT) (l:=b::t) (i:=17) (j:=(b::t).length) (lo:=some (.int .i64 17)) (hi:=none) aT.und (.inr ⟨_,rfl⟩) (.inl ⟨rfl,rfl⟩) (by rw[ll];omega) (lM _);rw[this,zLJ];rfl
   have dS:aFI (b::t)=if (fJ 4 (0,t.drop 16)).2.1≠0 then(Rc.zero,(fJ 4 (0,t.drop 16)).2.1)
     else if 1<b.toNat∨16<(fJ 4 (0,t.drop 16)).1.length then(Rc.zero,5)
     else if (fJ 4 (0,t.drop 16)).2.2≠[] then(Rc.zero,7)
     else(⟨2,Dm.zero,(b.toNat:Int),(gU (0,t)).1,(fJ 4 (0,t.drop 16)).1.map Nt.of⟩,0):=by
    simp only[aFI];rw[if_neg (λx=>x c)]
   simp only[eI,q,c,if_true,w17,c17,cC,reduceIte,cI,Nat.reduceAdd];refine aQU (t.drop 16) (by rw[jC];omega) λh5 v G O5 fG u5 hf5=>?_;have NV:iQ h1 v:=(O5.newV fG).of (u2.trans e34);have lv:cB PG (Builtin.len_ #[cZ] aR #[v])=some (.int .i64 ((fJ 4 (0,t.drop 16)).1.length:Int)):=by
    have:=Nt.len O5.slR;rw[iL] at this;exact this
   obtain⟨L,hL⟩:∃L,fJ 4 (0,t.drop 16)=L:=⟨_,rfl⟩;rw[hL] at dS O5 lv hf5 ⊢;have e5:=w4.trans u5;have B5:=(B2.ext e34).ext u5;have Z5:=Z4.ext u5;have lc:cV h5 ⟨r11,0+6,none⟩=some (.int .i64 (b.toNat:Int)):=B5.cell 6;have l21:cD PG h5 (loadAt cG (pT r21 0))=some (.agg (gU (0,t)).1.cells.toArray):=aCR (B4.ext u5) rfl;by_cases c2:L.2.1=0
   ·have q2:(L.2.1 !=0)=false:=by rw[c2];rfl
    rw[if_neg (λx=>x c2)] at dS;obtain⟨hf1,hf2⟩:=hf5 c2;have last:¬(1<b.toNat∨16<L.1.length)->(bY (cB PG (binOp BinOp.lss aR (.int .i64 (((t.drop 16).length-L.2.2.length:Nat):Int)) (.int .i64 ((t.drop 16).length:Int)))) λv62=>
      cQ v62
      (cN PG (cP bW (pT r1 0) (Rc.zero.v (.slice none 0 0) (.slice none 0 0))) h5 λv64 h65=>
      bY (cD PG h65 (loadAt bW (pT r1 0))) λv66=>
      k (Value.tuple #[v66,(Value.int IntKind.i64 7)]) h65)
      (cN PG (cP cG (pT r11 7) (.agg (gU (0,t)).1.cells.toArray)) h5 λv69 h70=>
      cN PG (cP cZ (pT r11 9) v) h70 λv72 h73=>
      bY (cD PG h73 (loadAt bW (pT r11 0))) λv74=>
      cN PG (cP bW (pT r1 0) v74) h73 λv75 h76=>
      bY (cD PG h76 (loadAt bW (pT r1 0))) λv77=>
      k (Value.tuple #[v77,(Value.int IntKind.i64 0)]) h76)):=by
     intro c3;rw[if_neg c3] at dS;by_cases c4:L.2.2=[]
     ·have g4:((((t.drop 16).length-L.2.2.length:Nat):Int)<((t.drop 16).length:Int))=False:=eq_false (by rw[c4];simp);rw[if_neg (λx=>x c4)] at dS;simp only[g4,cC,reduceIte,cI,Nat.reduceAdd];refine cG.put B5 (vs:=(gU (0,t)).1.cells) (o:=7) rfl (by show 7+2≤10;decide) (aNG _) λh6 B6 u6=>?_;refine cZ.put B6 (o:=9) (by show 9<10;decide) O5.slR.isc λh7 B7 u7=>?_;have B7:Bx h7 r11 (Rc.cells ⟨2,Dm.zero,(b.toNat:Int),(gU (0,t)).1,L.1.map Nt.of⟩ (.slice none 0 0) v):=B7;have u67:=u6.trans u7;simp only[aHx B7,iO,zPP];have S7:wN h7 v (L.1.map Nt.of):=aE6 O5.slR (O5.newV fG) ((B2.ext e34).known) u67;exact fin _ 0 v dS S7 NV rfl (Z5.upd u67 (by simpa using n1)) (e5.fresh u67 f11)
     ·have g4:((((t.drop 16).length-L.2.2.length:Nat):Int)<((t.drop 16).length:Int))=True:=by
       have:0<L.2.2.length:=aJ6.2 c4;exact eq_true (by omega)
      rw[if_pos c4] at dS;simp only[g4,cC,reduceIte,cI,Nat.reduceAdd];exact bad 7 dS Z5 e5
    by_cases c3:1<b.toNat
    ·have g3:((1:Int)<(b.toNat:Int))=True:=eq_true (by omega);rw[if_pos (.inl c3)] at dS;simp only[eI,q2,bW.f2,aR.load,lc,g3,vW,cC,reduceIte,cI,Nat.reduceAdd];exact bad 5 dS Z5 e5
    ·have g3:((1:Int)<(b.toNat:Int))=False:=eq_false (by omega);by_cases c5:16<L.1.length
     ·have g5:((16:Int)<(L.1.length:Int))=True:=eq_true (by omega);rw[if_pos (.inr c5)] at dS;simp only[eI,q2,bW.f2,aR.load,lc,g3,lv,g5,vW,cC,reduceIte,cI,Nat.reduceAdd];exact bad 5 dS Z5 e5
     ·have g5:((16:Int)<(L.1.length:Int))=False:=eq_false (by omega);simp only[eI,q2,bW.f2,bW.f3,bW.f4,aR.load,lc,g3,lv,g5,c2,if_true,iV,vW,l21,cC,reduceIte,cI,Nat.reduceAdd];have:=last (by omega);simp only[cC,reduceIte,cI,Nat.reduceAdd] at this;exact this
   ·have q2:(L.2.1 !=0)=true:=bne_iff_ne.2 c2;rw[if_pos c2] at dS;simp only[eI,q2,vW,cC,reduceIte,cI,Nat.reduceAdd];exact bad _ dS Z5 e5
  ·have q:((gU (0,t)).2.1 !=0)=true:=bne_iff_ne.2 c;simp only[eI,q,vW,cC,reduceIte,cI,Nat.reduceAdd];exact bad _ (if_pos c) Z4 w4
def aUO{h:PH}(s:Tx)(hs:s.length≤1000000){k:cE}
  (hk:∀h' vi vn,jT h' vi (gM s).1.s.its->wN h' vn (gM s).1.ns->iQ h vi->iQ h vn->dA h h'->k (.tuple #[(gM s).1.v vi vn,.int .i64 (gM s).2]) h'):bT PG aBW #[.string (tx s)] h k:=by
 apply aAQ.call;unfold aAQ;intro r1 hr1
 try rw[cR]
 have Z1:Bx (h.set r1 (.cells (dJ PG bW) bW)) r1 (Rc.zero.cells (.slice none 0 0) (.slice none 0 0)):=bW.zbox;have u1:dA h (h.set r1 (.cells (dJ PG bW) bW)):=cX.new hr1;generalize h.set r1 (.cells (dJ PG bW) bW)=h1 at *;have k1:h1 r1≠none:=Z1.known;have fin:∀{h':PH} (x:Rc) (e:Int) (vi vn:Value),gM s=(x,e)->jT h' vi x.s.its->wN h' vn x.ns->iQ h1 vi->iQ h1 vn->Bx h' r1 (Rc.zero.cells (.slice none 0 0) (.slice none 0 0))->dA h h'->cN PG (cP bW (pT r1 0) (x.v vi vn)) h' λ_ h8=>bY (cD PG h8 (loadAt bW (pT r1 0))) λv9=>k (.tuple #[v9,.int .i64 e]) h8:=by
  intro h' x e vi vn hx S S' N N' B w;refine bW.put B (vs:=x.cells vi vn) (o:=0) rfl (by show 0+10≤10;decide) (Rc.isC _ S.isc S'.isc) λh3 B3 u3=>?_;have B3:Bx h3 r1 (x.cells vi vn):=B3;simp only[aHx B3,iO,zPP];have:=hk h3 vi vn (by rw[hx];exact aE6 S N k1 u3) (by rw[hx];exact aE6 S' N' k1 u3) (N.of u1) (N'.of u1) (w.fresh u3 (eD.one hr1));rw[hx] at this;exact this
 cases s with
 | nil=>
  have e0:cD PG h1 (fV .eql aT (.tmp 4) (.const (.string {data:=#[]})) (.string (tx [])) (.string {data:=#[]}))=some (.bool true):=by
   have:=aFd (t:=aT) (h:=h1) (x:=.tmp 4) (y:=.const (.string {data:=#[]})) (a:=[]) (b:=[]);exact this
  simp only[e0,vW,cC,reduceIte,cI,Nat.reduceAdd];exact fin Rc.zero 6 _ _ aOZ aDq aMN iQ.nil iQ.nil Z1 u1
 | cons b t=>
  have e0:cD PG h1 (fV .eql aT (.tmp 4) (.const (.string {data:=#[]})) (.string (tx (b::t))) (.string {data:=#[]}))=some (.bool false):=by
   have:=aFd (t:=aT) (h:=h1) (x:=.tmp 4) (y:=.const (.string {data:=#[]})) (a:=b::t) (b:=[]);exact this
  have i0:cB PG (Instr.index aT (.string (tx (b::t))) (.int .i64 0))=some (.int .u8 b.toNat):=oB (j:=0) aT.und rfl;have ll:(b::t).length=t.length+1:=rfl;have c1:cB PG (Instr.sliceAt aT (.string (tx (b::t))) (some (.int .i64 1)) none none)=some (.string (tx t)):=by
   have:=kD (P:=PG) (t:=aT) (l:=b::t) (i:=1) (j:=(b::t).length) (lo:=some (.int .i64 1)) (hi:=none) aT.und (.inr ⟨_,rfl⟩) (.inl ⟨rfl,rfl⟩) (by rw[ll];omega) (lM _);rw[this,zLJ];rfl
  rw[ll] at hs;by_cases h1':b=1
  ·subst h1';have q1:((((1:UInt8).toNat:Nat):Int)==1)=true:=rfl;simp only[e0,i0,gA,q1,c1,cC,reduceIte,cI,Nat.reduceAdd];refine aTN t (by omega) λh2 vi S N hns u2=>?_;simp only[cC,reduceIte,cI,Nat.reduceAdd];refine fin _ _ vi (.slice none 0 0) (aL0 t) S (by rw[hns];exact aMN) N iQ.nil (Z1.ext u2) (u1.trans u2)
  ·have q1:((b.toNat:Int)==1)=false:=by
    rw[beq_eq_false_iff_ne];intro e;exact h1' (UInt8.toNat_inj.1 (by show b.toNat=1;omega))
   by_cases h2':b=2
   ·subst h2';have q1:((((2:UInt8).toNat:Nat):Int)==1)=false:=rfl;have q2:((((2:UInt8).toNat:Nat):Int)==2)=true:=rfl;simp only[e0,i0,gA,q1,q2,c1,cC,reduceIte,cI,Nat.reduceAdd];refine aRf t (by omega) λh2 vn S N hns u2=>?_;simp only[cC,reduceIte,cI,Nat.reduceAdd];refine fin _ _ (.slice none 0 0) vn (aMh t) (by rw[hns];exact aDq) S iQ.nil N (Z1.ext u2) (u1.trans u2)
   ·have q2:((b.toNat:Int)==2)=false:=by
     rw[beq_eq_false_iff_ne];intro e;exact h2' (UInt8.toNat_inj.1 (by show b.toNat=2;omega))
    simp only[e0,i0,gA,q1,q2,vW,cC,reduceIte,cI,Nat.reduceAdd];exact fin Rc.zero 5 _ _ (aL2 h1' h2') aDq aMN iQ.nil iQ.nil Z1 u1
def aQk(s:Tx):(gM s).1.s.its.length≤255∧(gM s).1.ns.length≤255:=by
 cases s with
 | nil=>rw[aOZ];exact⟨kT _,kT _⟩
 | cons b t=>
  by_cases h1:b=1
  ·subst h1;rw[aL0];unfold aCJ;have h0:Rc.zero.s.its.length≤255∧Rc.zero.ns.length≤255:=⟨kT _,kT _⟩;split
   ·exact h0
   ·split
    ·exact h0
    ·split
     ·exact h0
     ·split
      ·exact h0
      ·split
       ·exact h0
       ·exact⟨by show((fJ 2 (0,t.drop 32)).1.map It.of).length≤255;rw[iL];exact aIm 2 _,kT _⟩
  ·by_cases h2:b=2
   ·subst h2;rw[aMh];have h0:Rc.zero.s.its.length≤255∧Rc.zero.ns.length≤255:=⟨kT _,kT _⟩;cases t with
    | nil=>exact h0
    | cons b t=>
     simp only[aFI];split
     ·exact h0
     ·split
      ·exact h0
      ·split
       ·exact h0
       ·split
        ·exact h0
        ·exact⟨kT _,by show((fJ 4 (0,t.drop 16)).1.map Nt.of).length≤255;rw[iL];exact aIm 4 _⟩
   ·rw[aL2 h1 h2];exact⟨kT _,kT _⟩
def aVo(R:Dm×Int):Dm×Int:=if R.2≠0 then(Dm.zero,R.2) else R
def aDR(room:Int):∀(l:List Tx) (st:Dm×Int),st.2≠0->l.foldl (mT room) st=st
 | [],st,_=>rfl
 | s::l,st,h=>by
  rw[zLt];have:mT room st s=st:=by unfold mT;rw[if_neg h]
  rw[this];exact aDR room l st h
def aJQ{h:PH}{r:Nat}{x:Dm}{v:Value}(B:Bx h r (x.cells v)):cD PG h (loadAt bR (pT r 0))=some (x.v v):=bR.agg B (by show 0+5≤5;decide)
def aSR{h:PH}{room:Int}{x:Value}{l:List Tx}(S:iH h 1 x (l.map jI))(hl:l.length≤100000)(hs:∀s∈l,s.length≤1000000){k:cE}
  (hk:∀h' v',jT h' v' (yM room l).1.its->iQ h v'->dA h h'->k (.tuple #[(yM room l).1.v v',.int .i64 (yM room l).2]) h'):bT PG oM #[.int .i64 room,x] h k:=by
 apply zN.call;unfold zN;have lx:=aAK S;intro r1 hr1
 try rw[cR]
 have Z1:Bx (h.set r1 (.cells (dJ PG bR) bR)) r1 (Dm.zero.cells (.slice none 0 0)):=bR.zbox;have u1:dA h (h.set r1 (.cells (dJ PG bR) bR)):=cX.new hr1;generalize h.set r1 (.cells (dJ PG bR) bR)=h1 at *;simp only[qO,cC,reduceIte,cI,Nat.reduceAdd];intro r4 hr4
 try rw[cR]
 refine bR.fill (vs:=Dm.zero.cells (.slice none 0 0)) hr4 rfl (Dm.isC _ rfl) λh2 B2 u2=>?_;have e2:=u1.trans u2;have Z2:=Z1.ext u2;have n14:r1≠r4:=Z1.apart hr4;have k1:h2 r1≠none:=Z2.known;have k4:h2 r4≠none:=B2.known;have f1:eD h [r1]:=eD.one hr1;have f4:eD h [r4]:=eD.one (u1.none hr4);have fin:∀{h':PH} (y:Dm) (e:Int) (vi:Value),yM room l=(y,e)->jT h' vi y.its->iQ h2 vi->(∃cs:List Value,cs.length=5∧Bx h' r1 cs)->dA h h'->cN PG (cP bR (pT r1 0) (y.v vi)) h' λ_ h8=>bY (cD PG h8 (loadAt bR (pT r1 0))) λv9=>k (.tuple #[v9,.int .i64 e]) h8:=by
  intro h' y e vi hy V N ⟨cs,hcs,B⟩ w;refine bR.put B (vs:=y.cells vi) (o:=0) rfl (by omega) (Dm.isC _ V.isc) λh3 B3 u3=>?_;rw[zLd,zLU,yQ (by omega),zLQ] at B3;simp only[aJQ B3,iO,zPP];have:=hk h3 vi (by rw[hy];exact aE6 V N k1 u3) (N.of e2) (w.fresh u3 f1);rw[hy] at this;exact this
 have bad:∀{h':PH} (e:Int),yM room l=(Dm.zero,e)->(∃cs:List Value,cs.length=5∧Bx h' r1 cs)->dA h h'->cN PG (cP bR (pT r1 0) (Dm.zero.v (.slice none 0 0))) h' λ_ h8=>bY (cD PG h8 (loadAt bR (pT r1 0))) λv9=>k (.tuple #[v9,.int .i64 e]) h8:=
  λe he B w=>fin Dm.zero e (.slice none 0 0) he aDq iQ.nil B w
 cases l with
 | nil=>
  have q:((([]:List Tx).length:Int)==0)=true:=rfl;simp only[lx,gA,q,aJQ B2,cC,reduceIte,cI,Nat.reduceAdd];exact fin Dm.zero 3 (.slice none 0 0) rfl aDq iQ.nil ⟨_,rfl,Z2⟩ e2
 | cons s0 l=>
  have q:(((s0::l).length:Int)==0)=false:=by rw[beq_eq_false_iff_ne,iU];omega
  simp only[lx,gA,q,cC,reduceIte,cI,Nat.reduceAdd];have hT:yM room (s0::l)=aVo (l.foldl (mT room) (lY room s0)):=rfl;obtain⟨T,hTT⟩:∃T,yM room (s0::l)=T:=⟨_,rfl⟩;rw[hTT] at hT;refine⟨λvs h'=>∃(i:Nat) (D:Dm) (v:Value),i≤(s0::l).length∧vs=[.int .i64 room,x,pT r1 0,pT r4 0,.int .i64 (i:Int)]∧Bx h' r4 (D.cells v)∧Bx h' r1 (Dm.zero.cells (.slice none 0 0))∧jT h' v D.its∧iQ h2 v∧dA h h'∧cX [r4] h2 h'∧(1≤i->OkD D room∧D.wf∧T=aVo (((s0::l).drop i).foldl (mT room) (D,0))),fT (s0::l).length 4,⟨0,Dm.zero,.slice none 0 0,by omega,rfl,B2,Z2,aDq,iQ.nil,e2,cX.refl,λh=>by omega⟩,?_⟩;rintro ρ h' ⟨i,D,v,hi,hvs,B,Z,V,NV,w,w2,inv⟩;simp only[iG,jB,kZ,and_true] at hvs;obtain⟨x0,x1,x4,x6,x7⟩:=hvs;unfold aDg;rw[x0,x1,x4,x6,x7];by_cases hlt:i<(s0::l).length
  ·have g:((i:Int)<((s0::l).length:Int))=True:=eq_true (by omega);have gi:=nR (i:=i) (by omega);obtain⟨s,hx⟩:∃s,(s0::l)[i]? =some s:=⟨_,kF hlt⟩;have hsl:=hs s (zX hx);obtain⟨p,i1,i2⟩:=aJB (S.ext w) hx;have ed:(s0::l).drop i=s::(s0::l).drop (i+1):=by
    rw[aAs hlt];have:(s0::l)[i]=s:=by rw[kF hlt] at hx;simpa using hx
    rw[this]
   simp only[lx,g,i1,i2,cC,reduceIte,cI,Nat.reduceAdd];refine aUO s hsl λh3 vi vn Si Sn Ni Nn u3=>?_;have hfew:=aQk s;have hwf:=aKB s;obtain⟨P,hP⟩:∃P,gM s=P:=⟨_,rfl⟩;rw[hP] at Si Sn hfew hwf ⊢;simp only[cC,reduceIte,cI,Nat.reduceAdd];intro r24 hr24
   try rw[cR]
   refine bW.fill (vs:=P.1.cells vi vn) hr24 rfl (Rc.isC _ Si.isc Sn.isc) λh4 B4 u4=>?_;have e34:=u3.trans u4;have w4:=w.trans e34;have w24:=w2.trans e34.upd
   -- blocks known in h2 stay known
   have Nh:∀{u:Value},iQ h' u->iQ h2 u:=λN a n c e=>by
    cases eb:h2 a.block with
    | none=>rfl
    | some o=>
     have h0:=N a n c e;by_cases hb:a.block=r4
     ·rw[hb] at h0;exact absurd h0 B.known
     ·have:=w2 a.block o eb (by simpa using hb);rw[h0] at this;cases this
   have Zc:∃cs:List Value,cs.length=5∧Bx h4 r1 cs:=⟨_,rfl,Z.ext e34⟩;have est:i=0->T=aVo (((s0::l).drop 1).foldl (mT room) (lY room s))∧s=s0:=λh0=>by
    subst h0;simp only[zLK,zL4] at hx;subst hx;exact⟨hT,rfl⟩
   by_cases c:P.2=0
   ·have q3:(P.2 !=0)=false:=by rw[c];rfl
    by_cases c0:i=0
    ·have q0:((i:Int)==0)=true:=by simp[c0]
     obtain⟨hT0,-⟩:=est c0;have ef:lY room s=if P.1.k≠1 then(Dm.zero,5) else if chk P.1.s room≠0 then(Dm.zero,chk P.1.s room) else(P.1.s,0):=by
      unfold lY;rw[hP,if_neg (λe=>e c)]
     have lk:cV h4 ⟨r24,0,none⟩=some (.int .i64 P.1.k):=B4.cell 0;have ls:cD PG h4 (loadAt bR (pT r24 (0+1)))=some (P.1.s.v vi):=bR.agg B4 (by show 0+1+5≤10;decide);by_cases c1:P.1.k=1
     ·have q1:(P.1.k !=1)=false:=by rw[c1];rfl
      rw[if_neg (λe=>e c1)] at ef;simp only[eI,q3,gA,q0,bW.f0,bW.f1,aR.load,lk,q1,ls,cC,reduceIte,cI,Nat.reduceAdd];refine aId (Si.ext u4) (by omega) hwf.s λh5 u5=>?_;by_cases c2:chk P.1.s room=0
      ·have q2:(chk P.1.s room !=0)=false:=by rw[c2];rfl
       have ok:=aC5.1 c2;rw[if_neg (λe=>e c2)] at ef;have ls5:cD PG h5 (loadAt bR (pT r24 (0+1)))=some (P.1.s.v vi):=bR.agg (B4.ext u5) (by show 0+1+5≤10;decide);simp only[eI,q2,bW.f1,ls5,cC,reduceIte,cI,Nat.reduceAdd];refine bR.put ((B.ext e34).ext u5) (vs:=P.1.s.cells vi) (o:=0) rfl (by show 0+5≤5;decide) (Dm.isC _ Si.isc) λh6 B6 u6=>?_;have B6:Bx h6 r4 (P.1.s.cells vi):=B6;simp only[tQ,zS,gi,cC,reduceIte,cI,Nat.reduceAdd];refine⟨⟨i+1,P.1.s,vi,by omega,rfl,B6,((Z.ext e34).ext u5).upd u6 (by simpa using n14),aE6 ((Si.ext u4).ext u5) (Nh Ni) k4 u6,Nh Ni,(w4.trans u5).fresh u6 f4,(w24.trans u5.upd).trans u6,λ_=>⟨ok,hwf.s,?_⟩⟩,by have hh:=hlt;rw[iU] at hh;simp[fT,x7];omega⟩;rw[hT0,ef,c0]
      ·have q2:(chk P.1.s room !=0)=true:=bne_iff_ne.2 c2;rw[if_pos c2] at ef;simp only[eI,q2,qO,cC,reduceIte,cI,Nat.reduceAdd];refine bad _ ?_ ⟨_,rfl,(Z.ext e34).ext u5⟩ (w4.trans u5);rw[hTT,hT0,ef,aDR _ _ _ c2];exact if_pos c2
     ·have q1:(P.1.k !=1)=true:=bne_iff_ne.2 c1;rw[if_pos c1] at ef;simp only[eI,q3,gA,q0,bW.f0,aR.load,lk,q1,qO,cC,reduceIte,cI,Nat.reduceAdd];refine bad 5 ?_ Zc w4;rw[hTT,hT0,ef,aDR _ _ _ (by show(5:Int)≠0;decide)];rfl
    ·have q0:((i:Int)==0)=false:=by rw[beq_eq_false_iff_ne];omega
     obtain⟨ok,wf,hTi⟩:=inv (by omega);have hr2:=ok.r2;have hlen:=ok.len;rw[ed,zLt] at hTi;have er:mT room (D,0) s=lT D room P.1:=by
      unfold mT;rw[if_pos rfl,hP,if_pos c]
     rw[er] at hTi;simp only[eI,q3,gA,q0,aJQ (B.ext e34),aHx B4,cC,reduceIte,cI,Nat.reduceAdd];refine aPi (r:=P.1) (V.ext e34) wf (by omega) (Si.ext u4) (Sn.ext u4) hwf (by omega) (by omega) λh5 v' S5 N5 u5=>?_;have N5':iQ h2 v':=by
      rcases N5 with N5|e
      ·exact Nh (N5.of e34)
      ·rw[e];exact Nh Ni
     have hg:=aEZ (d:=D) (room:=room) (r:=P.1);have hw:=aJH (d:=D) (room:=room) (r:=P.1);obtain⟨Q,hQ⟩:∃Q,lT D room P.1=Q:=⟨_,rfl⟩;rw[hQ] at S5 hTi hg hw ⊢;simp only[cC,reduceIte,cI,Nat.reduceAdd];intro r63 hr63
     try rw[cR]
     refine bR.fill (vs:=Q.1.cells v') hr63 rfl (Dm.isC _ S5.isc) λh6 B6 u6=>?_;have e56:=u5.trans u6;by_cases c5:Q.2=0
     ·have q5:(Q.2 !=0)=false:=by rw[c5];rfl
      simp only[eI,q5,aJQ B6,cC,reduceIte,cI,Nat.reduceAdd];refine bR.put ((B.ext e34).ext e56) (vs:=Q.1.cells v') (o:=0) rfl (by show 0+5≤5;decide) (Dm.isC _ S5.isc) λh7 B7 u7=>?_;have B7:Bx h7 r4 (Q.1.cells v'):=B7;simp only[tQ,zS,gi,cC,reduceIte,cI,Nat.reduceAdd];refine⟨⟨i+1,Q.1,v',by omega,rfl,B7,((Z.ext e34).ext e56).upd u7 (by simpa using n14),aE6 (S5.ext u6) N5' k4 u7,N5',(w4.trans e56).fresh u7 f4,(w24.trans e56.upd).trans u7,λ_=>⟨(hg c5).2.2.1,hw c5 wf hwf,?_⟩⟩,by have hh:=hlt;rw[iU] at hh;simp[fT,x7];omega⟩;rw[hTi];congr 2;exact Prod.ext rfl c5
     ·have q5:(Q.2 !=0)=true:=bne_iff_ne.2 c5;simp only[eI,q5,qO,cC,reduceIte,cI,Nat.reduceAdd];refine bad _ ?_ ⟨_,rfl,(Z.ext e34).ext e56⟩ (w4.trans e56);rw[hTT,hTi,aDR _ _ _ c5];exact if_pos c5
   ·have q3:(P.2 !=0)=true:=bne_iff_ne.2 c;simp only[eI,q3,qO,cC,reduceIte,cI,Nat.reduceAdd];refine bad _ ?_ Zc w4;rw[hTT];by_cases c0:i=0
    ·obtain⟨hT0,-⟩:=est c0;have ef:lY room s=(Dm.zero,P.2):=by unfold lY;rw[hP,if_pos c]
     rw[hT0,ef,aDR _ _ _ c];exact if_pos c
    ·obtain⟨-,-,hTi⟩:=inv (by omega);have er:mT room (D,0) s=(D,P.2):=by unfold mT;rw[if_pos rfl,hP,if_neg c]
     rw[hTi,ed,zLt,er,aDR _ _ _ c];exact if_pos c
  ·have g:((i:Int)<((s0::l).length:Int))=False:=eq_false (by omega);obtain⟨ok,wf,hTi⟩:=inv (by rw[iU] at hlt;omega);rw[yQ (by omega)] at hTi;have hTi:T=(D,0):=hTi;simp only[lx,g,aJQ B,cC,reduceIte,cI,Nat.reduceAdd];exact fin D 0 v (by rw[hTT,hTi]) V NV ⟨_,rfl,Z⟩ w
def aLt{size gen ser m:Nat}:∀(xs:List Tx) (k p:Nat) (t:Tx),(∀s∈xs,s.length≤m)->(iY size gen ser xs k p t).1.length≤t.length+xs.length*m
 | [],_,_,_,_=>kT _
 | x::xs,k,p,t,h=>by
  have hx:=h x (by simp);have hb:=(aMU size x).2;have hm:(xs.length+1)*m=xs.length*m+m:=Nat.succ_mul _ _;rw[aFc,iU];have ih:=λq=>aLt (size:=size) (gen:=gen) (ser:=ser) (m:=m) xs (k+1) q (t++(fW size x).1.b) λs hs=>h s (by simp[hs]);generalize (if k=0 then(fW size x).1.parts else p)=q at *;split
  ·exact kT _
  ·split
   ·show(t++(fW size x).1.b).length≤_;rw[jM];omega
   ·have:=ih q;rw[jM] at this;omega
def aK0{size gen m:Nat}:∀(f:Nat) (xs:List Tx) (ser:Nat),(∀s∈xs,s.length≤m)->∀t∈(jD size gen f xs ser).1,t.length≤xs.length*m
 | 0,_,_,_,t,ht=>by cases ht
 | f+1,xs,ser,h,t,ht=>by
  unfold jD at ht;split at ht
  ·cases ht
  ·rcases iW.1 ht with rfl|ht
   ·have:=aLt (size:=size) (gen:=gen) (ser:=ser) (m:=m) xs 0 0 [] h;simpa using this
   ·have:=aK0 f (xs.drop (iY size gen ser xs 0 0 []).2) (ser+1) (λs hs=>h s (List.mem_of_mem_drop hs)) t ht;rw[jC] at this;exact zLE this (zLO _ (by omega))
def aL1{d:Dk}(H:d.Ok)(h4:4≤d.sectors)(hs:d.sectors≤1000){hd:Hd}(hseg:hd.seg≤1)(slot:Nat):∀t∈(oX d hd slot).2,t.length≤1000000:=by
 intro t ht;have hz:=H.size.2;have hfit:=qZ d h4 hseg;have:=aK0 (size:=d.size) (gen:=hd.gen) (m:=d.size) (d.segs+1) (d.secs (d.base hd.seg) d.segs) 0 (λs hs=>Nat.le_of_eq (aGz H (by omega) s hs)) t ht;rw[Dk.secs_len] at this;have hsg:d.segs≤1000:=by unfold Dk.segs;omega
 have:d.segs*d.size≤1000*512:=Nat.mul_le_mul hsg hz;omega
def aO9{d:Dk}(H:d.Ok)(hs:d.sectors≤1000):∀t∈(fA d).2.1.2,t.length≤1000000:=by
 have nil:∀t∈([]:List Tx),t.length≤1000000:=λt ht=>by cases ht
 unfold fA;split
 ·exact nil
 ·rename_i h4;split
  ·exact nil
  ·split
   ·split
    ·exact nil
    ·have hp:=pW [(fO d.size ⟨1,0⟩).1] H.fl 1;exact aL1 hp.1 (by rw[hp.2.2.1,d.fl_geo.2];omega) (by rw[hp.2.2.1,d.fl_geo.2];exact hs) (kT _) _
   ·exact aL1 H.fl (by rw[d.fl_geo.2];omega) (by rw[d.fl_geo.2];exact hs) (aGc _ _ _).1 _
def aMM{h:PH}{r a m:Nat}{d d2:Dk}{jp vp:JP}{e room:Int}{p q:Pl}{F:List Nat}(H:kR r a m d jp e d2 vp room p q h F)(wp:p.wf)(wq:q.wf)(hs:d.sectors≤1000)(hs2:d2.sectors≤1000)(hb:d.buf.length≤800000)(hb2:d2.buf.length≤800000){k:cE}
  (hk:∀h' F' jp' vp',kR r a m (fU d room p q).1 jp' (fU d room p q).2.2 (fU d2 room p q).1 vp' room p q h' F'->eA h F h' F'->aCM (fU d room p q) jp'->aCM (fU d2 room p q) vp'->k (.bool (decide ((fU d room p q).2.2=(fU d2 room p q).2.2))) h'):bT PG jR #[pT r 0] h k:=by
 obtain⟨Fa,Fm,eF,B,P,D,n⟩:=id H.here;obtain⟨Fd,Dd,-⟩:=DpA.disk D;refine aPr H wp wq hs hs2 hb hb2 (λh v S hne k hk=>?_) hk;have hfew:=aI5 Dd.ok;have hsg:d2.segs≤1000:=by unfold Dk.segs;omega
 exact aSR S (by omega) (aO9 Dd.ok hs2) hk
def aKs{d:Dk}{w:Wl}{l:List Tx}(L:Log d w l)(hg:w.hd.gen<18446744073709551614){s:Dm}{room:Int}(ok:OkD s room)(wf:s.wf)(hp:dL d.size (mA s).bs.length≤d.segs):
  ∃d' w',fP d w (fZ s)=(d',w',0)∧aEV d' ⟨w',room,s⟩∧w'.hd.gen=w.hd.gen+1∧d'.size=d.size∧d'.sectors=d.sectors:=by
 rcases aKk L hg ok wf with h|h
 ·exact h
 ·obtain⟨d',w',e,-⟩:=aOa L (aGG (aB7 ok)) hp hg;rw[aJj ok,e] at h;simp only[Prod.mk.injEq] at h;exact absurd h.2.2 (by decide)
def aS3{d:Dk}(H:aM8 d)(h4:4≤d.sectors){room:Int}{p q:Pl}(wp:p.wf)(wq:q.wf)(hc:chk ⟨p,q,[]⟩ room=0)(hp:dL d.size (mA ⟨p,q,[]⟩).bs.length≤d.segs):
  ∃d' w',fU d room p q=(d',⟨w',room,⟨p,q,[]⟩⟩,0)∧aEV d' ⟨w',room,⟨p,q,[]⟩⟩∧w'.hd.gen=2∧d'.size=d.size∧d'.sectors=d.sectors:=by
 obtain⟨d1,w1,e1,L,g1,z1,z2⟩:=aR7 H h4;have es:kE room ⟨p,q,[]⟩ []=(⟨p,q,[]⟩,0):=by unfold kE;rw[if_pos rfl]
 obtain⟨d',w',e,I,g,y1,y2⟩:=aKs L (by omega) (aC5.1 hc) (s:=⟨p,q,[]⟩) ⟨wp,wq,by simp⟩ (by rw[z1,aGF z2];exact hp);refine⟨d',w',?_,I,by omega,y1.trans z1,y2.trans z2⟩;unfold fU;rw[if_neg (by simp[hc]),e1];simp only;rw[if_neg (by simp),es];simp only;rw[if_neg (by simp),e];simp only;rw[if_neg (by simp)]
def aMz{d:Dk}{j:Jn}(H:aEV d j)(hg:j.w.hd.gen<18446744073709551614){p q:Pl}(hc:chk ⟨p,q,[]⟩ j.room=0)(hp:dL d.size (mA j.s).bs.length≤d.segs):
  ∃d' w',fU d j.room p q=(d',⟨w',j.room,j.s⟩,0)∧aEV d' ⟨w',j.room,j.s⟩∧w'.hd.gen=j.w.hd.gen+1∧d'.size=d.size∧d'.sectors=d.sectors:=by
 rcases aSP H hg hc with h|h
 ·exact h
 ·obtain⟨s0,rs,L,rg,wk⟩:=H.log;have eo:=aPj L;have es:kE j.room ⟨p,q,[]⟩ ((mA s0::rs).map Rc.bs)=(j.s,0):=by
   unfold kE;rw[if_neg (by simp),aMR rg rfl,wk];simp
  have L':Log d ⟨j.w.hd,j.w.slot,j.w.used,j.w.ser,false,false⟩ ((mA s0::rs).map Rc.bs):=⟨L.ok,L.arm,L.buf,L.four,L.g1,L.g2,L.seg,L.slot,L.head,L.other,L.used,L.fits,L.ser,L.recs,L.short,L.rest,L.all,rfl⟩;obtain⟨d',w',e,-⟩:=aKs L' hg H.ok H.wf hp;unfold fU at h;rw[if_neg (by simp[hc]),eo] at h;simp only at h;rw[if_neg (by simp),es] at h;simp only at h;rw[if_neg (by simp),e] at h;simp only at h;rw[if_neg (by simp)] at h;cases h
def aUS{d:Dk}{j:Jn}(H:aEV d j)(hg:j.w.hd.gen<18446744073709551614){ch:Int}{q:Pl}{ns:List Nt}(wf:(gN ch q ns).wf)(h0:(lT j.s j.room (gN ch q ns)).2=0)(hp:dL d.size (mA (lT j.s j.room (gN ch q ns)).1).bs.length≤d.segs):
  ∃d' j',lS d j ch q ns=(d',j',0)∧aEV d' j'∧j'.w.hd.gen≤j.w.hd.gen+1∧j'.room=j.room∧d'.size=d.size∧d'.sectors=d.sectors∧j'.s=(lT j.s j.room (gN ch q ns)).1:=by
 obtain⟨d',j',e,eq,I,g,r,z1,z2,-,k⟩:=aVM H hg wf;rcases k h0 with⟨e0,es⟩|⟨e2,-⟩
 ·subst e0;exact⟨d',j',eq,I,g,r,z1,z2,es⟩
 ·exfalso;subst e2;obtain⟨-,hr,ho,-⟩:=aEZ h0;have hw:=aJH h0 H.wf wf;obtain⟨s0,rs,L,-,-⟩:=H.log;have eb:(gN ch q ns).bytes.1=(gN ch q ns).bs:=by
   rcases aAd (gN ch q ns) with⟨-,b⟩|⟨a,-⟩
   ·rw[b]
   ·exact absurd hr a
  unfold lS at eq;rw[if_neg (by rw[H.broken];simp),if_neg (by simp[h0])] at eq;unfold vH at eq;rw[eb] at eq;cases hf:fits d j.w (gN ch q ns).bs.length with
  | true=>
   rw[hf,if_pos rfl] at eq;obtain⟨d1,w1,e1,-⟩:=aNB L H.ready (aGG hr) hf;rw[e1] at eq;simp only[Prod.mk.injEq] at eq;exact absurd eq.2.2 (by decide)
  | false=>
   rw[hf,if_neg (by simp)] at eq;obtain⟨d1,w1,e1,-⟩:=aKs L hg ho hw hp;rw[e1] at eq;simp only[Prod.mk.injEq] at eq;exact absurd eq.2.2 (by decide)
def aOO{size sectors:Nat}(ok:gB size)(h1:1≤sectors)(h2:sectors≤4096):aM8 (Dk.new size sectors):=⟨Dk.new_ok ok h1 h2,rfl,rfl,λi hi=>by
 show(List.replicate sectors (kJ size)).getD i []=kJ size;have hi:i<sectors:=hi;rw[sQ,List.getElem?_replicate,if_pos hi];rfl⟩
def jS0:Dm:=⟨⟨5,0⟩,⟨5,0⟩,[]⟩
def jPk:Pk:=⟨0,1,9,⟨#[]⟩⟩
def jN:Nt:=⟨1,jPk⟩
def jS1:Dm:=⟨⟨6,1⟩,⟨5,0⟩,[⟨jPk,1⟩]⟩
def aRx:lT jS0 2 (gN 0 ⟨6,1⟩ [jN])=(jS1,0):=by decide +kernel
def aRl:chk jS0 2=0:=by decide +kernel
def aX0:dL 64 (mA jS0).bs.length≤9:=by decide +kernel
def aXp:dL 64 (mA jS1).bs.length≤9:=by decide +kernel
def aY9:(gN 0 ⟨6,1⟩ [jN]).wf:=⟨⟨Pl.wf_zero,Pl.wf_zero,by simp[gN,Dm.zero]⟩,⟨by decide,by decide⟩,by
 intro x hx;simp only[gN,iC] at hx;subst hx;exact⟨by decide,by decide,by decide,by decide⟩⟩
def aHw:Pl.wf ⟨5,0⟩:=⟨by decide,by decide⟩
def aWD:Pl.wf ⟨6,1⟩:=⟨by decide,by decide⟩
def aYT:∃d1 w1 d2 j2 d3 w3 d4 w4,
  fU (Dk.new 64 20) 2 ⟨5,0⟩ ⟨5,0⟩=(d1,⟨w1,2,jS0⟩,0)∧lS d1 ⟨w1,2,jS0⟩ 0 ⟨6,1⟩ [jN]=(d2,j2,0)∧
  fU d2 2 ⟨5,0⟩ ⟨5,0⟩=(d3,⟨w3,2,jS1⟩,0)∧fU d1 2 ⟨5,0⟩ ⟨5,0⟩=(d4,⟨w4,2,jS0⟩,0)∧d1.sectors=20∧d2.sectors=20∧d1.buf=[]∧d2.buf=[]:=by
 have B:=aOO (size:=64) (sectors:=20) (by decide) (by decide) (by decide);obtain⟨d1,w1,e1,I1,g1,z1,y1⟩:=aS3 B (by decide) (room:=2) (p:=⟨5,0⟩) (q:=⟨5,0⟩) aHw aHw aRl aX0;have z1:d1.size=64:=z1;have y1:d1.sectors=20:=y1;have sg1:d1.segs=9:=by unfold Dk.segs;rw[y1]
 have e0:(lT jS0 2 (gN 0 ⟨6,1⟩ [jN])).2=0:=by rw[aRx]
 obtain⟨d2,j2,e2,I2,g2,r2,z2,y2,s2⟩:=aUS I1 (by show w1.hd.gen<_;omega) (ch:=0) (q:=⟨6,1⟩) (ns:=[jN]) aY9 e0 (by
  show dL d1.size (mA (lT jS0 2 (gN 0 ⟨6,1⟩ [jN])).1).bs.length≤_;rw[aRx,z1,sg1];exact aXp)
 have s2:j2.s=jS1:=by
  have s2:j2.s=(lT jS0 2 (gN 0 ⟨6,1⟩ [jN])).1:=s2;rw[aRx] at s2;exact s2
 have g2:j2.w.hd.gen≤w1.hd.gen+1:=g2;have r2:j2.room=2:=r2;have sg2:d2.segs=9:=by unfold Dk.segs;rw[y2,y1]
 obtain⟨d3,w3,e3,-⟩:=aMz I2 (by omega) (p:=⟨5,0⟩) (q:=⟨5,0⟩) (by rw[r2];exact aRl) (by rw[s2,z2,z1,sg2];exact aXp);rw[r2,s2] at e3;obtain⟨d4,w4,e4,-⟩:=aMz I1 (by show w1.hd.gen<_;omega) (p:=⟨5,0⟩) (q:=⟨5,0⟩) aRl (by rw[z1,sg1];exact aX0);obtain⟨_,_,L1,-⟩:=I1.log;obtain⟨_,_,L2,-⟩:=I2.log;exact⟨d1,w1,d2,j2,d3,w3,d4,w4,e1,e2,e3,e4,y1,y2.trans y1,L1.buf,L2.buf⟩
structure aDj(h0 h:PH)(F:List Nat):Prop where
 ext:dA h0 h
 fr:eD h0 F
def aDj.step{h0 h h':PH}{F F':List Nat}(N:aDj h0 h F)(s:eA h F h' F'):aDj h0 h' F':=⟨N.ext.fresh s.upd N.fr,N.fr.grow N.ext s.grow⟩
def aDj.more{h0 h h':PH}{F:List Nat}(N:aDj h0 h F)(u:dA h h'):aDj h0 h' F:=⟨N.ext.trans u,N.fr⟩
def uO{h h':PH}{F F':List Nat}{r:Nat}{cs:List Value}(B:Bx h r cs)(n:r∉F)(s:eA h F h' F'):Bx h' r cs∧r∉F':=⟨B.upd s.upd n,λhm=>by
 rcases s.grow _ hm with hx|hx
 ·exact n hx
 ·exact B.known hx⟩
abbrev plv(q:Pl):Value:=.agg q.cells.toArray
abbrev pkv(p:Pk):Value:=.agg p.cells.toArray
structure JAc where
 (k n ch:Int)
 q:Pl
 l:List Nt
 w:List (Bool×Int)
abbrev JV:=JAc×Value×Value
def wrw(x:Bool×Int):List Value:=[.bool x.1,.int .i64 x.2]
def jrw(y:JV):List Value:=[.int .i64 y.1.k,.int .i64 y.1.n,.int .i64 y.1.ch,.int .u64 y.1.q.h,.int .i64 y.1.q.i,y.2.1,y.2.2]
abbrev CSl(h:PH)(v:Value)(l:List (Bool×Int)):Prop:=iH h 2 v (l.map wrw)
structure JAc.wf(x:JAc):Prop where
 n:x.n<9223372036854775808
 q:x.q.wf
 l:∀y∈x.l,y.p.wf
structure JAs(h:PH)(v:Value)(l:List JV):Prop where
 s:iH h 7 v (l.map jrw)
 e:∀y∈l,wN h y.2.1 y.1.l∧CSl h y.2.2 y.1.w∧y.1.wf
def JAs.ext{h h':PH}{v:Value}{l:List JV}(H:JAs h v l)(u:dA h h'):JAs h' v l:=⟨H.s.ext u,λy hy=>⟨(H.e y hy).1.ext u,(H.e y hy).2.1.ext u,(H.e y hy).2.2⟩⟩
structure JPt(h:PH)(b o:Nat)(y:JV):Prop where
 k:cV h ⟨b,o,none⟩=some (.int .i64 y.1.k)
 n:cV h ⟨b,o+1,none⟩=some (.int .i64 y.1.n)
 c:cV h ⟨b,o+2,none⟩=some (.int .i64 y.1.ch)
 q:cD PG h (loadAt cG (pT b (o+3)))=some (plv y.1.q)
 l:cV h ⟨b,o+5,none⟩=some y.2.1
 w:cV h ⟨b,o+6,none⟩=some y.2.2
def JAs.pt{h:PH}{v:Value}{l:List JV}(H:JAs h v l){j:Nat}{y:JV}(hy:l[j]? =some y):
  ∃b o,cB PG (indexAt gW v (.int .i64 (j:Int)))=some (pT b o)∧JPt h b o y:=by
 obtain⟨b,o,cs,e',fr,h1,hb,hle,hex⟩:=H.s.at gW.und dI.info dI.size (k:=.i64) (j:=(j:Int)) (r:=jrw y) (by omega) (by rw[wG,xK,hy];rfl);have hd:∀i n,i+n≤7->(cs.extract (o+i) (o+i+n)).toList=((jrw y).drop i).take n:=λi n hi=>by
  rw[←hex];simp only[zLD,zLx,aCb,zLy,qK,aI0];congr 1;omega
 have hc:∀i c,i<7->(jrw y)[i]? =some c->cV h ⟨b,o+i,none⟩=some c:=λi c hi e=>by
  have:=congrArg (λl:List Value=>l[0]?) (hd i 1 (by omega));simp only[zLD,zLx,aCb,aDn,aJs] at this;unfold cV;simp only[hb];rw[←e];simpa using this
 refine⟨b,o,h1,hc 0 _ (by decide) rfl,hc 1 _ (by decide) rfl,hc 2 _ (by decide) rfl,?_,hc 5 _ (by decide) rfl,hc 6 _ (by decide) rfl⟩;rw[cG.loadAgg hb (by omega)];congr 2;exact zLw (hd 3 2 (by decide))
def aQ1{h:PH}{v:Value}{l:List JV}(H:JAs h v l):cB PG (Builtin.len_ #[gW] aR #[v])=some (.int .i64 l.length):=by
 have:=H.s.len (t':=aR) gW.und;rw[iL] at this;exact this
def aNh{h:PH}{v:Value}{l:List (Bool×Int)}(H:CSl h v l):cB PG (Builtin.len_ #[gG] aR #[v])=some (.int .i64 l.length):=by
 have:=H.len (t':=aR) gG.und;rw[iL] at this;exact this
end
section
open Go Go.RowKit Go.ChangeShapes
def cG.cells:PG.cellsOf cG=2:=by kernel_rfl
def cU.cells:PG.cellsOf cU=4:=by kernel_rfl
def eX.cells:PG.cellsOf eX=2:=by kernel_rfl
def dI.cells:PG.cellsOf dI=7:=by kernel_rfl
def cZ.cells:PG.cellsOf cZ=1:=by kernel_rfl
def gG.cells:PG.cellsOf gG=1:=by kernel_rfl
section
variable{H:Type}{enc:TypeId×Value->H}{w:World}{spare:Nat->Bool}{held:Bool}
def aJl{α:Type}{cells:α->List Value}{P:α->Prop}{t:TypeId}(hof:∀cs,Rd enc PG w spare held t cs->∃a,cs=cells a∧P a):∀{rows:List (List Value)},(∀r∈rows,Rd enc PG w spare held t r)->∃xs:List α,rows=xs.map cells∧∀x∈xs,P x
 | [],_=>⟨[],rfl,by simp⟩
 | r::rs,h=>by
  obtain⟨m,rfl,hm⟩:=hof r (h r (by simp));obtain⟨xs,rfl,hx⟩:=aJl hof (rows:=rs) (λx hx=>h x (by simp[hx]));exact⟨m::xs,rfl,λx hx'=>by rcases iW.1 hx' with rfl|h;exact hm;exact hx x h⟩
def Pk.rd{cs:List Value}(h:Rd enc PG w spare held bX cs):∃p:Pk,cs=p.cells∧p.wf:=by
 obtain⟨hl,hf⟩:=aGZ bX.und h;rw[bX.cells] at hl
 match cs,hl with
 | [c0,c1,c2,c3],_=>
  have f0:Rd enc PG w spare held aR (([c0,c1,c2,c3].drop 0).take (PG.cellsOf aR)):=hf 0 _ rfl;rw[aR.cells] at f0;have f1:Rd enc PG w spare held cJ (([c0,c1,c2,c3].drop 1).take (PG.cellsOf cJ)):=hf 1 _ rfl;rw[cJ.cells] at f1;have f2:Rd enc PG w spare held cJ (([c0,c1,c2,c3].drop 2).take (PG.cellsOf cJ)):=hf 2 _ rfl;rw[cJ.cells] at f2;have f3:Rd enc PG w spare held aT (([c0,c1,c2,c3].drop 3).take (PG.cellsOf aT)):=hf 3 _ rfl;rw[aT.cells] at f3;obtain⟨n0,e0,-⟩:=aD1 aR.und f0;obtain⟨n1,e1,w1⟩:=aD1 cJ.und f1;have w1:=aPP w1;obtain⟨n2,e2,w2⟩:=aD1 cJ.und f2;have w2:=aPP w2;obtain⟨n3,e3,-⟩:=aTI aT.und f3;simp only[zLa,zLb,zLc,zLd,kZ,and_true] at e0 e1 e2 e3;subst e0 e1 e2 e3;exact⟨⟨n0,n1,n2,n3⟩,rfl,w1.1,by show n1<_;omega,w2.1,by show n2<_;omega⟩
def Nt.rd{cs:List Value}(h:Rd enc PG w spare held cL cs):∃p:Nt,cs=p.cells∧p.p.wf:=by
 obtain⟨hl,hf⟩:=aGZ cL.und h;rw[cL.cells] at hl
 match cs,hl with
 | [c0,c1,c2,c3,c4],_=>
  have f0:Rd enc PG w spare held aR (([c0,c1,c2,c3,c4].drop 0).take (PG.cellsOf aR)):=hf 0 _ rfl;rw[aR.cells] at f0;have f1:Rd enc PG w spare held bX (([c0,c1,c2,c3,c4].drop 1).take (PG.cellsOf bX)):=hf 1 _ rfl;rw[bX.cells] at f1;obtain⟨n0,e0,-⟩:=aD1 aR.und f0;obtain⟨n1,e1,w1⟩:=Pk.rd f1;simp only[zLa,zLb,zLc,zLd,kZ,and_true,Pk.cells] at e0 e1;obtain⟨rfl,rfl,rfl,rfl⟩:=e1;subst e0;exact⟨⟨n0,n1⟩,rfl,w1⟩
def Nt.rds{rows:List (List Value)}(h:∀r∈rows,Rd enc PG w spare held cL r):∃xs:List Nt,rows=xs.map Nt.cells∧∀x∈xs,x.p.wf:=aJl (λ_=>Nt.rd) h
def Pl.rd{cs:List Value}(h:Rd enc PG w spare held cG cs):∃p:Pl,cs=p.cells∧p.wf:=by
 obtain⟨hl,hf⟩:=aGZ cG.und h;rw[cG.cells] at hl
 match cs,hl with
 | [c0,c1],_=>
  have f0:Rd enc PG w spare held cJ (([c0,c1].drop 0).take (PG.cellsOf cJ)):=hf 0 _ rfl;rw[cJ.cells] at f0;have f1:Rd enc PG w spare held aR (([c0,c1].drop 1).take (PG.cellsOf aR)):=hf 1 _ rfl;rw[aR.cells] at f1;obtain⟨n0,e0,w0⟩:=aD1 cJ.und f0;have w0:=aPP w0;obtain⟨n1,e1,-⟩:=aD1 aR.und f1;simp only[zLa,zLb,zLc,zLd,kZ,and_true] at e0 e1;subst e0 e1;exact⟨⟨n0,n1⟩,rfl,w0.1,by show n0<_;omega⟩
def lO.rd{cs:List Value}(h:Rd enc PG w spare held cU cs):∃p:Pl×Pl,cs=p.1.cells++p.2.cells∧p.1.wf∧p.2.wf:=by
 obtain⟨hl,hf⟩:=aVl cU.und h;rw[cU.cells] at hl
 match cs,hl with
 | [c0,c1,c2,c3],_=>
  have f0:Rd enc PG w spare held cG (([c0,c1,c2,c3].drop (0*PG.cellsOf cG)).take (PG.cellsOf cG)):=hf 0 (by decide);have f1:Rd enc PG w spare held cG (([c0,c1,c2,c3].drop (1*PG.cellsOf cG)).take (PG.cellsOf cG)):=hf 1 (by decide);rw[cG.cells] at f0 f1;obtain⟨p,e0,w0⟩:=Pl.rd f0;obtain⟨q,e1,w1⟩:=Pl.rd f1;simp only[Nat.zero_mul,Nat.one_mul,zLa,zLb,zLc,zLd,kZ,and_true,Pl.cells] at e0 e1;obtain⟨rfl,rfl⟩:=e0;obtain⟨rfl,rfl⟩:=e1;exact⟨(p,q),rfl,w0,w1⟩
def aWi{r:Reach}{base:Nat}{v:Value}{d:DataW H}{p:List MemPlace}(hval:Value.okWide PG w r base cU v)(hd:DataW.Trod enc PG w 0 spare held cU v d p):
  ∃a b:Pl,v=lO a b∧a.wf∧b.wf:=by
 have hu:PG.underlying cU=some (.array 2 cG):=cU.und;simp only[Value.okWide,hu] at hval;obtain⟨cs,rfl,_⟩:=hval;obtain⟨⟨a,b⟩,e,ha,hb⟩:=lO.rd (aUm hd);refine⟨a,b,?_,ha,hb⟩;rw[lO];congr 1;exact Array.toList_inj.1 e
def Wt.rd{cs:List Value}(h:Rd enc PG w spare held eX cs):∃p:Bool×Int,cs=wrw p∧True:=by
 obtain⟨hl,hf⟩:=aGZ eX.und h;rw[eX.cells] at hl
 match cs,hl with
 | [c0,c1],_=>
  have f0:Rd enc PG w spare held gR (([c0,c1].drop 0).take (PG.cellsOf gR)):=hf 0 _ rfl;rw[gR.cells] at f0;have f1:Rd enc PG w spare held aR (([c0,c1].drop 1).take (PG.cellsOf aR)):=hf 1 _ rfl;rw[aR.cells] at f1;obtain⟨n0,e0⟩:=aWx gR.und f0;obtain⟨n1,e1,-⟩:=aD1 aR.und f1;simp only[zLa,zLb,zLc,zLd,kZ,and_true] at e0 e1;subst e0 e1;exact⟨(n0,n1),rfl,trivial⟩
def Wt.rds{rows:List (List Value)}(h:∀r∈rows,Rd enc PG w spare held eX r):∃xs:List (Bool×Int),rows=xs.map wrw∧∀x∈xs,True:=aJl (λ_=>Wt.rd) h
def JV.rd{cs:List Value}(h:Rd enc PG w spare held dI cs):∃p:JV,cs=jrw p∧wN (aE8 w) p.2.1 p.1.l∧CSl (aE8 w) p.2.2 p.1.w∧p.1.wf:=by
 obtain⟨hl,hf⟩:=aGZ dI.und h;rw[dI.cells] at hl
 match cs,hl with
 | [c0,c1,c2,c3,c4,c5,c6],_=>
  have f0:Rd enc PG w spare held aR (([c0,c1,c2,c3,c4,c5,c6].drop 0).take (PG.cellsOf aR)):=hf 0 _ rfl;rw[aR.cells] at f0;have f1:Rd enc PG w spare held aR (([c0,c1,c2,c3,c4,c5,c6].drop 1).take (PG.cellsOf aR)):=hf 1 _ rfl;rw[aR.cells] at f1;have f2:Rd enc PG w spare held aR (([c0,c1,c2,c3,c4,c5,c6].drop 2).take (PG.cellsOf aR)):=hf 2 _ rfl;rw[aR.cells] at f2;have f3:Rd enc PG w spare held cG (([c0,c1,c2,c3,c4,c5,c6].drop 3).take (PG.cellsOf cG)):=hf 3 _ rfl;rw[cG.cells] at f3;have f4:Rd enc PG w spare held cZ (([c0,c1,c2,c3,c4,c5,c6].drop 5).take (PG.cellsOf cZ)):=hf 4 _ rfl;rw[cZ.cells] at f4;have f5:Rd enc PG w spare held gG (([c0,c1,c2,c3,c4,c5,c6].drop 6).take (PG.cellsOf gG)):=hf 5 _ rfl;rw[gG.cells] at f5;obtain⟨n0,e0,-⟩:=aD1 aR.und f0;obtain⟨n1,e1,w1⟩:=aD1 aR.und f1;have w1:=aXI w1;obtain⟨n2,e2,-⟩:=aD1 aR.und f2;obtain⟨n3,e3,w3⟩:=Pl.rd f3;obtain⟨v4,rows4,e4,S4,hr4⟩:=aMY cZ.und (by rw[cL.cells];decide) f4;obtain⟨n4,q4,w4⟩:=Nt.rds hr4;subst q4;rw[cL.cells] at S4;obtain⟨v5,rows5,e5,S5,hr5⟩:=aMY gG.und (by rw[eX.cells];decide) f5;obtain⟨n5,q5,w5⟩:=Wt.rds hr5;subst q5;rw[eX.cells] at S5;simp only[zLa,zLb,zLc,zLd,kZ,and_true,Pl.cells] at e0 e1 e2 e3 e4 e5;obtain⟨rfl,rfl⟩:=e3;subst e0 e1 e2 e4 e5;exact⟨(⟨n0,n1,n2,n3,n4,n5⟩,_,_),rfl,S4,S5,⟨w1.2,w3,w4⟩⟩
def JV.rds{rows:List (List Value)}(h:∀r∈rows,Rd enc PG w spare held dI r):∃xs:List JV,rows=xs.map jrw∧∀y∈xs,wN (aE8 w) y.2.1 y.1.l∧CSl (aE8 w) y.2.2 y.1.w∧y.1.wf:=aJl (λ_=>JV.rd) h
end
def JAs.of{h:PH}{v:Value}{rows:List (List Value)}(S:iH h 7 v rows)(e:∃xs:List JV,rows=xs.map jrw∧∀y∈xs,wN h y.2.1 y.1.l∧CSl h y.2.2 y.1.w∧y.1.wf):∃L,JAs h v L:=by
 obtain⟨L,rfl,w⟩:=e;exact⟨L,S,w⟩
def aM3:List (String×DataW Unit):=[("unicode/utf8.acceptRanges",Rows.laid_unicode_utf8_acceptRanges),("unicode/utf8.first",Rows.laid_unicode_utf8_first)]
def kOf{W:World}(_:laidMetH Tryz.prog aM3 W):True:=trivial
end
section
open Go
def aI6{P:Tx->Prop}{n:Nat}:∀(buf:List (Nat×Tx)) (st:List Tx),n<st.length->P (st.getD n [])->(∀w∈buf,w.1=n->P w.2)->P ((kH st buf).getD n [])
 | [],st,_,h,_=>h
 | w::buf,st,hn,h,hb=>by
  show P ((kH (st.set w.1 w.2) buf).getD n []);refine aI6 buf _ (by rw[List.length_set];exact hn) ?_ λx hx=>hb x (by simp[hx]);by_cases c:n=w.1
  ·rw[aGC (by omega),if_pos c];exact hb w (by simp) c.symm
  ·rw[sQ,List.getElem?_set_ne (λe=>c e.symm),←sQ];exact h
def aND{P:Tx->Prop}:∀(buf:List (Nat×Tx)) (st:List Tx),(∀s∈st,P s)->(∀w∈buf,P w.2)->∀s∈kH st buf,P s
 | [],_,h,_=>h
 | w::buf,st,h,hb=>aND buf (st.set w.1 w.2) (λs hs=>by
   rcases List.mem_or_eq_of_mem_set hs with e|e
   ·exact h s e
   ·rw[e];exact hb w (by simp)) λx hx=>hb x (by simp[hx])
def Tw.tick{d:Dk}{g:Nat}(H:Tw d g):Tw d.tick g:=⟨H.ok.tick,H.four,H.pos,H.small,H.lo,H.hi,H.low,H.lowb,H.q,H.qb,H.hb⟩
def aX5{d:Dk}(ok:d.Ok){i:Nat}(hi:i<d.sectors):(d.st.getD i []).length=d.size:=ok.each _ (aJv (by rw[ok.len];exact hi))
def Tw.flush{d:Dk}{g:Nat}(H:Tw d g)(small:d.nw.1.gen≤240):Tw d.fl.1 (max g d.fl.1.nw.1.gen)∧d.nw.1.gen≤d.fl.1.nw.1.gen∧d.fl.1.nw.1.gen≤d.nw.1.gen+1∧d.fl.1.size=d.size∧d.fl.1.sectors=d.sectors∧(d.fl.2=0->d.fl.1.buf=[]∧d.fl.1.st=kH d.st d.buf)∧(d.fl.2≠0->d.fl.1=d.tick):=by
 have hok:=H.ok.fl;unfold Dk.fl at hok ⊢;by_cases c:d.arm=1
 ·rw[if_pos c] at hok ⊢;have e:max g d.tick.nw.1.gen=g:=by
   have:d.tick.nw.1.gen=d.nw.1.gen:=rfl;have:=H.lo;omega
  show Tw d.tick (max g d.tick.nw.1.gen)∧_;rw[e];exact⟨H.tick,lM _,aES _,rfl,rfl,λh=>absurd h (by show(13:Int)≠0;decide),λ_=>rfl⟩
 ·rw[if_neg c] at hok ⊢;have h4:=H.four;have hlen:=H.ok.len;have hp:=H.pos;obtain⟨-,s1,-⟩:=aEw H.pos;have h64:=H.ok.size.1;obtain⟨a,b⟩:=aQx (d:=d) (d':=⟨d.size,d.sectors,kH d.st d.buf,[],d.arm-1⟩) rfl (λi hi=>by rw[aX5 hok (show i<d.sectors by omega)];show 9≤d.size;omega) H.pos (aEo _ _ _ λw hw e=>by
   have:=H.hb w hw (by omega);omega) λi hi=>aI6 (P:=Low (d.nw.1.gen+1)) d.buf d.st (by omega) (H.low _ (aJv (by omega))) λw hw _=>H.lowb w hw
  have hi:=H.hi;have lo:=H.lo;obtain⟨d',ed⟩:∃d',(⟨d.size,d.sectors,kH d.st d.buf,[],d.arm-1⟩:Dk)=d':=⟨_,rfl⟩;have hok:d'.Ok:=by rw[←ed];exact hok
  have e1:d'.size=d.size:=by rw[←ed]
  have e2:d'.sectors=d.sectors:=by rw[←ed]
  have e3:d'.st=kH d.st d.buf:=by rw[←ed]
  have e4:d'.buf=[]:=by rw[←ed]
  rw[ed] at a b ⊢;show Tw d' (max g d'.nw.1.gen)∧d.nw.1.gen≤d'.nw.1.gen∧d'.nw.1.gen≤d.nw.1.gen+1∧d'.size=d.size∧d'.sectors=d.sectors∧_;refine⟨⟨hok,by omega,by omega,by omega,Nat.le_max_right _ _,by omega,λs hs=>?_,by rw[e4];simp,λi h1 h2=>?_,by rw[e4];simp,by rw[e4];simp⟩,a,b,e1,e2,λ_=>⟨e4,e3⟩,λh=>absurd rfl h⟩
  ·rw[e3] at hs;exact(aND (P:=Low (d.nw.1.gen+1)) d.buf d.st H.low H.lowb s hs).mono (by omega)
  ·rw[e1,e3];exact(aI6 (P:=Qs d.size g) d.buf d.st (by omega) (H.q i h1 (by omega)) λw hw e=>H.qb w hw (by omega)).mono (Nat.le_max_left _ _)
def Tw.put{g:Nat}:∀(l:List Tx) {d:Dk} (_:Tw d g) (_:d.nw.1.gen≤240) (_:∀w∈d.buf,2≤w.1) (n:Nat) (_:2≤n) (_:n+l.length≤d.sectors) (_:∀x∈l,x.length=d.size∧Low (d.nw.1.gen+1) x∧Qs d.size g x),
  Tw (iE d n l).1 g∧(iE d n l).1.nw=d.nw∧(iE d n l).1.size=d.size∧(iE d n l).1.sectors=d.sectors∧((iE d n l).2=0->(iE d n l).1.buf=[])
 | [],d,H,small,hb,n,hn,hf,hl=>by
  obtain⟨F,-,-,z1,z2,k0,k1⟩:=H.flush small;show Tw d.fl.1 g∧d.fl.1.nw=d.nw∧d.fl.1.size=d.size∧d.fl.1.sectors=d.sectors∧(d.fl.2=0->d.fl.1.buf=[]);have en:d.fl.1.nw=d.nw:=by
   by_cases c:d.fl.2=0
   ·unfold Dk.nw;rw[z1,(k0 c).2,aEo _ _ _ λw hw e=>by have:=hb w hw;omega,aEo _ _ _ λw hw e=>by have:=hb w hw;omega]
   ·rw[k1 c];rfl
  have em:max g d.fl.1.nw.1.gen=g:=by
   have:=H.lo;rw[en];omega
  rw[em] at F;exact⟨F,en,z1,z2,λh=>(k0 h).1⟩
 | s::l,d,H,small,hb,n,hn,hf,hl=>by
  simp only[iU] at hf;obtain⟨x1,x2,x3⟩:=hl s (by simp);unfold iE;by_cases ca:d.arm=1
  ·have e:d.wr (n:Int) s=(d.tick,13):=by
    unfold Dk.wr;rw[if_neg (by omega),if_pos ca]
   rw[e,if_pos (by show(13:Int)≠0;decide)];exact⟨H.tick,rfl,rfl,rfl,λh=>absurd h (by show(13:Int)≠0;decide)⟩
  ·have e:d.wr (n:Int) s=(⟨d.size,d.sectors,d.st,d.buf++[(n,s)],d.arm-1⟩,0):=by
    unfold Dk.wr;rw[if_neg (by omega),if_neg ca];rfl
   have hok:=H.ok.wr (n:Int) s;rw[e] at hok;rw[e,if_neg (by simp)];have H1:Tw ⟨d.size,d.sectors,d.st,d.buf++[(n,s)],d.arm-1⟩ g:=⟨hok,H.four,H.pos,H.small,H.lo,H.hi,H.low,λw hw=>by
     rcases tK.1 hw with hw|hw
     ·exact H.lowb w hw
     ·simp only[iC] at hw;rw[hw];exact x2,H.q,λw hw h2=>by
     rcases tK.1 hw with hw|hw
     ·exact H.qb w hw h2
     ·simp only[iC] at hw;rw[hw];exact x3,λw hw h2=>by
     rcases tK.1 hw with hw|hw
     ·exact H.hb w hw h2
     ·simp only[iC] at hw;rw[hw] at h2;simp only at h2;omega⟩
   exact Tw.put l H1 small (λw hw=>by
    rcases tK.1 hw with hw|hw
    ·exact hb w hw
    ·simp only[iC] at hw;rw[hw];exact hn) (n+1) (by omega) (by show n+1+l.length≤d.sectors;omega) λx hx=>hl x (by simp[hx])
def aOS{size k:Nat}{st:List Tx}{hd:Hd}(hk:k≤1)(g1:1≤hd.gen)(here:fI size (st.getD k [])=(hd,0))(other:(fI size (st.getD (1-k) [])).1.gen<hd.gen):jX size (st.getD 0 []) (st.getD 1 [])=(hd,(k:Int)):=by
 have hne:hd≠Hd.zero:=λe=>by rw[e] at g1;exact absurd g1 (by decide)
 unfold jX;have:k=0∨k=1:=by omega
 rcases this with rfl|rfl
 ·have e1:nP (Hd.zero,-1) 0 (fI size (st.getD 0 [])).1=(hd,0):=by
   rw[here];exact if_pos ⟨hne,by show 0<hd.gen;omega⟩
  rw[e1];exact if_neg λc=>by
   have h2:hd.gen<(fI size (st.getD 1 [])).1.gen:=c.2;have h3:(fI size (st.getD 1 [])).1.gen<hd.gen:=other;omega
 ·rw[here];have hlt:(nP (Hd.zero,-1) 0 (fI size (st.getD 0 [])).1).1.gen<hd.gen:=by
   rw[aKY];have h3:(fI size (st.getD 0 [])).1.gen<hd.gen:=other;show max 0 _<_;omega
  exact if_pos ⟨hne,hlt⟩
def Tw.head{d:Dk}{g:Nat}(H:Tw d g)(small:d.nw.1.gen≤230)(hb:d.buf=[]){seg:Nat}(hs:seg≤1){r:Dk×Int}(hr:iE d (1-d.nw.2.toNat) [(fO d.size ⟨d.nw.1.gen+1,seg⟩).1]=r):
  (r.2≠0->Tw r.1 g∧r.1.nw.1.gen=d.nw.1.gen∨Tw r.1 (d.nw.1.gen+1)∧r.1.nw.1.gen=d.nw.1.gen+1)∧r.1.size=d.size∧r.1.sectors=d.sectors∧
  (r.2=0->Tw r.1 (d.nw.1.gen+1)∧r.1.buf=[]∧r.1.nw=(⟨d.nw.1.gen+1,seg⟩,((1-d.nw.2.toNat:Nat):Int))∧∀i,2≤i->r.1.st.getD i []=d.st.getD i []):=by
 obtain⟨s0,s1,s2⟩:=aEw H.pos;have ok:=H.ok.size;have h4:=H.four;obtain⟨hl1,hl2⟩:=aEy (size:=d.size) (h:=⟨d.nw.1.gen+1,seg⟩) ok (by simp) hs;generalize hk:d.nw.2.toNat=k at *;generalize hh:(fO d.size ⟨d.nw.1.gen+1,seg⟩).1=hd at *;have hlow:Low (d.nw.1.gen+1) hd:=by
  rw[←hh];exact aPO (lM _) (by omega) hl2
 unfold iE at hr;by_cases ca:d.arm=1
 ·have e:d.wr ((1-k:Nat):Int) hd=(d.tick,13):=by
   unfold Dk.wr;rw[if_neg (by omega),if_pos ca]
  rw[e,if_pos (by show(13:Int)≠0;decide)] at hr;subst hr;exact⟨λ_=>.inl ⟨H.tick,rfl⟩,rfl,rfl,λh=>absurd h (by show(13:Int)≠0;decide)⟩
 ·have e:d.wr ((1-k:Nat):Int) hd=(⟨d.size,d.sectors,d.st,d.buf++[(1-k,hd)],d.arm-1⟩,0):=by
   unfold Dk.wr;rw[if_neg (by omega),if_neg ca];rfl
  have hok:=H.ok.wr ((1-k:Nat):Int) hd;rw[e] at hok;rw[hb,zLU] at hok e;rw[e,if_neg (by simp)] at hr;have H1:Tw ⟨d.size,d.sectors,d.st,[(1-k,hd)],d.arm-1⟩ g:=⟨hok,h4,H.pos,H.small,H.lo,H.hi,H.low,λw hw=>by
    simp only[iC] at hw;rw[hw];exact hlow,H.q,λw hw h2=>by
    simp only[iC] at hw;rw[hw] at h2;simp only at h2;omega,λw hw h2=>by
    simp only[iC] at hw;rw[hw];show 1-k=1-d.nw.2.toNat;rw[hk]⟩
  obtain⟨F,f1,f2,z1,z2,k0,k1⟩:=H1.flush (by show d.nw.1.gen≤240;omega);have hr:Dk.fl ⟨d.size,d.sectors,d.st,[(1-k,hd)],d.arm-1⟩=r:=hr;rw[hr] at F f1 f2 z1 z2 k0 k1;have f1:d.nw.1.gen≤r.1.nw.1.gen:=f1;have f2:r.1.nw.1.gen≤d.nw.1.gen+1:=f2;have lo:=H.lo;have hi:=H.hi;refine⟨λh=>.inl ?_,z1,z2,λh=>?_⟩
  ·have en:r.1.nw.1.gen=d.nw.1.gen:=by rw[k1 h];rfl
   have em:max g r.1.nw.1.gen=g:=by omega
   rw[em] at F;exact⟨F,en⟩
  ·obtain⟨b1,b2⟩:=k0 h;have b2:r.1.st=d.st.set (1-k) hd:=b2;have hlen:=H.ok.len;have en:r.1.nw=(⟨d.nw.1.gen+1,seg⟩,((1-k:Nat):Int)):=by
    unfold Dk.nw;rw[z1,b2];refine aOS (by omega) (by show 1≤d.nw.1.gen+1;omega) ?_ ?_
    ·rw[aGC (by omega),if_pos rfl,←hh];exact aKF ok (by simp) (by show d.nw.1.gen+1<_;omega) hs
    ·rw[show 1-(1-k)=k by omega,aGC (by omega),if_neg (by omega)];show(fI d.size (d.st.getD k [])).1.gen<d.nw.1.gen+1;rw[s2];show d.nw.1.gen<d.nw.1.gen+1;omega
   have em:max g r.1.nw.1.gen=d.nw.1.gen+1:=by
    rw[en];show max g (d.nw.1.gen+1)=d.nw.1.gen+1;omega
   rw[em] at F;exact⟨F,b1,en,λi hi=>by rw[b2,aGC (by omega),if_neg (by omega)]⟩
def aMv{size gen ser N:Nat}{s:Tx}(ok:gB size)(hs:s.length≤4096)(hg:gen≤N)(hN:N<256):∀x∈fR size gen ser s,x.length=size∧Low N x:=λx hx=>by
 refine⟨aEz ok hs x hx,?_⟩;unfold fR at hx;obtain⟨k,hk,rfl⟩:=pQ.1 hx;exact aS8 hg hN
def aOD{size gen ser g:Nat}{s:Tx}(ok:gB size)(hs:s.length≤4096)(g1:gen<18446744073709551616)(g2:ser<18446744073709551616)(h:ser=0∨gen≤g):∀x∈fR size gen ser s,Qs size g x:=λx hx=>by
 unfold fR at hx;obtain⟨k,hk,rfl⟩:=pQ.1 hx;have e:=aMW (size:=size) (gen:=gen) (ser:=ser) (s:=s) (k:=k) ok hs g1 g2 (aFM.1 hk);intro a b;rw[e] at b ⊢;rcases h with h|h
 ·exact absurd h b
 ·exact h
structure JT(d:Dk)(w:Wl):Prop where
 wok:yB d w
 hd:w.hd=d.nw.1
 slot:w.slot=d.nw.2.toNat
 buf:d.buf=[]
 ser:w.ser≤w.used
def JT.brk{d:Dk}{w:Wl}(J:JT d w)(e:Int):JT d (w.brk e):=⟨J.wok.brk e,J.hd,J.slot,J.buf,J.ser⟩
def aS9{d:Dk}{w:Wl}{g:Nat}(H:Tw d g)(small:d.nw.1.gen≤240)(J:JT d w)(hb:w.broken=false)(s:Tx):
  Tw (hM d w s).1 g∧(hM d w s).1.nw=d.nw∧((hM d w s).2.1.broken=false->JT (hM d w s).1 (hM d w s).2.1):=by
 have hw:=J.wok.append s;have ok:=H.ok.size;unfold hM at hw ⊢;rw[if_neg (by simp[hb])] at hw ⊢;split
 ·exact⟨H,rfl,λ_=>J.brk _⟩
 ·rename_i c1;rw[if_neg c1] at hw;split
  ·exact⟨H,rfl,λ_=>J.brk _⟩
  ·rename_i c2;rw[if_neg c2] at hw;split
   ·exact⟨H,rfl,λ_=>J.brk _⟩
   ·rename_i c3;rw[if_neg c3] at hw;have hf:fits d w s.length=true:=by simpa using c3
    have hf':=hf;unfold fits at hf';rw[decide_eq_true_eq] at hf';have hs:s.length≤4096:=by
     have:=(qX (n:=s.length) ok).2;omega
    have hio:=J.wok.ap hf;have hbf:=qZ d H.four J.wok.seg;have hb2:2≤d.base w.hd.seg:=by unfold Dk.base;omega
    have hlo:=H.lo;have hser:w.ser<18446744073709551616:=by
     have:=J.ser;have:=J.wok.used;have:=H.ok.many;unfold Dk.segs at *;omega
    have hg:w.hd.gen=d.nw.1.gen:=by rw[J.hd]
    have hl:=aMv (ser:=w.ser) (N:=d.nw.1.gen+1) ok hs (show w.hd.gen≤d.nw.1.gen+1 by omega) (by omega);have hq:=aOD (ser:=w.ser) (g:=g) ok hs (show w.hd.gen<18446744073709551616 by omega) hser (.inr (show w.hd.gen≤g by omega));obtain⟨t1,t2,t3,t4,t5⟩:=H.put (fR d.size w.hd.gen w.ser s) small (by rw[J.buf];simp) (d.base w.hd.seg+w.used) (by omega) (by rw[iN];omega) λx hx=>⟨(hl x hx).1,(hl x hx).2,hq x hx⟩;split
    ·rename_i c4;refine⟨t1,t2,λhx=>?_⟩;rcases hio with h0|h0
     ·exact absurd h0 c4
     ·have:(w.brk (rG d w s).2).broken=decide ((rG d w s).2=13):=rfl;rw[this,h0] at hx;exact absurd hx (by decide)
    ·rename_i c4;rw[if_neg c4] at hw;refine⟨t1,t2,λ_=>⟨hw.1,by rw[show(rG d w s).1.nw=d.nw from t2];exact J.hd,by rw[show(rG d w s).1.nw=d.nw from t2];exact J.slot,t5 (Classical.not_not.1 c4),?_⟩⟩;have:=J.ser;show w.ser+1≤w.used+dL d.size s.length;omega
def aJw{d:Dk}{w:Wl}{g:Nat}(H:Tw d g)(small:d.nw.1.gen≤230)(J:JT d w)(hb:w.broken=false)(s:Tx):
  ∃g',Tw (fP d w s).1 g'∧d.nw.1.gen≤(fP d w s).1.nw.1.gen∧(fP d w s).1.nw.1.gen≤d.nw.1.gen+1∧(g=d.nw.1.gen->g'=(fP d w s).1.nw.1.gen)∧((fP d w s).2.1.broken=false->JT (fP d w s).1 (fP d w s).2.1)∧((fP d w s).2.2=0->g'=(fP d w s).1.nw.1.gen∧(fP d w s).2.1.broken=false):=by
 have hw:=J.wok.check s;have ok:=H.ok.size;have e13:∀e:Int,(w.brk e).broken=decide (e=13):=λ_=>rfl;have same:∀e:Int,e≠0->∃g',Tw d g'∧d.nw.1.gen≤d.nw.1.gen∧d.nw.1.gen≤d.nw.1.gen+1∧(g=d.nw.1.gen->g'=d.nw.1.gen)∧((w.brk e).broken=false->JT d (w.brk e))∧(e=0->g'=d.nw.1.gen∧(w.brk e).broken=false):=λe he=>⟨g,H,lM _,aES _,id,λ_=>J.brk e,λh=>absurd h he⟩;unfold fP at hw ⊢;rw[if_neg (by simp[hb])] at hw ⊢;split
 ·exact same 1 (by decide)
 ·rename_i c1;rw[if_neg c1] at hw;split
  ·exact same 2 (by decide)
  ·rename_i c2;rw[if_neg c2] at hw;split
   ·rename_i c3;exact same _ c3
   ·rename_i c3;rw[if_neg c3] at hw;have hs:s.length≤4096:=by
     have:=(qX (n:=s.length) ok).2;omega
    have hg:w.hd.gen=d.nw.1.gen:=by rw[J.hd]
    have en:=aN1 (h:=w.hd) (by omega);have hseg:(if w.hd.seg=0 then 1 else 0)≤1:=by split<;>omega
    rw[en] at hw ⊢;generalize (if w.hd.seg=0 then 1 else 0)=sg at *;simp only at hw ⊢;have hbf:=qZ d H.four hseg;have hb2:2≤d.base sg:=by unfold Dk.base;omega
    have hl:=aMv (ser:=0) (N:=d.nw.1.gen+1) ok hs (show w.hd.gen+1≤d.nw.1.gen+1 by omega) (by omega);have hq:=aOD (ser:=0) (g:=g) ok hs (show w.hd.gen+1<18446744073709551616 by omega) (by decide) (.inl rfl);obtain⟨t1,t2,t3,t4,t5⟩:=H.put (fR d.size (w.hd.gen+1) 0 s) (by omega) (by rw[J.buf];simp) (d.base sg) hb2 (by rw[iN];omega) λx hx=>⟨(hl x hx).1,(hl x hx).2,hq x hx⟩;have hio:=yB.ck (gen:=w.hd.gen+1) H.ok H.four hseg c1 (by omega);have ec:lL d ⟨w.hd.gen+1,sg⟩ s=iE d (d.base sg) (fR d.size (w.hd.gen+1) 0 s):=rfl;rw[←ec] at t1 t2 t3 t4 t5;split
    ·rename_i c4;refine⟨g,t1,by rw[t2];exact lM _,by rw[t2];exact aES _,λh=>by rw[t2];exact h,λhx=>?_,λh=>absurd h c4⟩;rcases hio with h0|h0
     ·exact absurd h0 c4
     ·rw[e13,h0] at hx;exact absurd hx (by decide)
    ·rename_i c4;rw[if_neg c4] at hw;have hb1:=t5 (Classical.not_not.1 c4);have slot:=J.slot;obtain⟨r,hr⟩:∃r,iE (lL d ⟨w.hd.gen+1,sg⟩ s).1 (1-w.slot) [(fO d.size ⟨w.hd.gen+1,sg⟩).1]=r:=⟨_,rfl⟩;rw[hr] at hw ⊢;have hr':iE (lL d ⟨w.hd.gen+1,sg⟩ s).1 (1-(lL d ⟨w.hd.gen+1,sg⟩ s).1.nw.2.toNat) [(fO (lL d ⟨w.hd.gen+1,sg⟩ s).1.size ⟨(lL d ⟨w.hd.gen+1,sg⟩ s).1.nw.1.gen+1,sg⟩).1]=r:=by
      rw[t2,t3,←slot,←hg];exact hr
     obtain⟨f1,z1,z2,f2⟩:=t1.head (by rw[t2];omega) hb1 hseg hr';rw[t2] at f1 f2;have hl2:=aEy (size:=d.size) (h:=⟨w.hd.gen+1,sg⟩) ok (by simp) hseg;have hsl:=J.wok.slot;have hio2:r.2=0∨r.2=13:=by
      rw[←hr];exact aLH _ _ (by rw[t4];have:=H.four;simp only[iU,kV];omega) (by rw[t3];simp[hl2.1])
     split
     ·rename_i c5;rcases f1 c5 with⟨a,b⟩|⟨a,b⟩
      ·refine⟨g,a,by rw[b];exact lM _,by rw[b];exact aES _,λh=>by rw[b];exact h,λhx=>?_,λh=>absurd h c5⟩;rcases hio2 with h0|h0
       ·exact absurd h0 c5
       ·rw[e13,h0] at hx;exact absurd hx (by decide)
      ·refine⟨_,a,by rw[b];exact aES _,by rw[b];exact lM _,λ_=>b.symm,λhx=>?_,λh=>absurd h c5⟩;rcases hio2 with h0|h0
       ·exact absurd h0 c5
       ·rw[e13,h0] at hx;exact absurd hx (by decide)
     ·rename_i c5;rw[if_neg c5] at hw;obtain⟨a,b,c,e⟩:=f2 (Classical.not_not.1 c5);have eg:r.1.nw.1.gen=d.nw.1.gen+1:=by rw[c]
      refine⟨_,a,by rw[eg];exact aES _,by rw[eg];exact lM _,λ_=>eg.symm,λ_=>⟨hw.1,?_,?_,b,?_⟩,λ_=>⟨eg.symm,rfl⟩⟩
      ·show(⟨w.hd.gen+1,sg⟩:Hd)=r.1.nw.1;rw[c,hg]
      ·show 1-w.slot=r.1.nw.2.toNat;rw[c,slot];rfl
      ·show 1≤dL d.size s.length;omega
def aWl{d:Dk}{j:Jn}{g:Nat}(H:Tw d g)(small:d.nw.1.gen≤230)(J:j.w.broken=false->JT d j.w)(ch:Int)(q:Pl)(ns:List Nt):
  ∃g',Tw (lS d j ch q ns).1 g'∧(lS d j ch q ns).1.nw.1.gen≤d.nw.1.gen+1∧(g=d.nw.1.gen->g'=(lS d j ch q ns).1.nw.1.gen)∧((lS d j ch q ns).2.1.w.broken=false->JT (lS d j ch q ns).1 (lS d j ch q ns).2.1.w):=by
 unfold lS;split
 ·exact⟨g,H,aES _,id,J⟩
 ·rename_i hb;have hb:j.w.broken=false:=by simpa using hb
  split
  ·exact⟨g,H,aES _,id,J⟩
  ·unfold vH;split
   ·obtain⟨a,b,c⟩:=aS9 H (by omega) (J hb) hb (gN ch q ns).bytes.1;exact⟨g,a,by rw[b];exact aES _,λh=>by rw[b];exact h,c⟩
   ·obtain⟨g',a,b,c,e,f,-⟩:=aJw H small (J hb) hb (fZ (lT j.s j.room (gN ch q ns)).1);exact⟨g',a,c,e,f⟩
def aJo{d d1:Dk}(hf:d.fl=(d1,0))(h4:4≤d.sectors)(hs:d1.size=d.size)(pos:1≤d1.nw.1.gen)(hb:d1.buf=[]):fA d=(d1,oX d1 d1.nw.1 d1.nw.2.toNat,0):=by
 obtain⟨s0,-,-⟩:=aEw pos;have en:jX d.size (d1.at 0) (d1.at 1)=d1.nw:=by
  unfold Dk.at Dk.nw;rw[hb,hs];rfl
 unfold fA;rw[if_neg (by omega),hf];simp only;rw[if_neg (by simp),en,if_neg (by omega)]
def aSB{d:Dk}{g:Nat}(H:Tw d g)(hb:d.buf=[]):JT d (oX d d.nw.1 d.nw.2.toNat).1:=by
 obtain⟨-,s1,-⟩:=aEw H.pos;refine⟨yB.mk' H.ok H.four (aGc _ _ _).1 s1,rfl,rfl,hb,?_⟩;exact aGo _ _ _
def pL(d:Dk)(room:Int)(s0:Dm):Dm×Int:=kE room s0 (oX d d.nw.1 d.nw.2.toNat).2
def xX(d:Dk)(room:Int)(s0:Dm):Dk×Wl×Int:=fP d (oX d d.nw.1 d.nw.2.toNat).1 (fZ (pL d room s0).1)
def aGx{d d1:Dk}{room:Int}{p q:Pl}(hc:chk ⟨p,q,[]⟩ room=0)(ho:fA d=(d1,oX d1 d1.nw.1 d1.nw.2.toNat,0)):
  fU d room p q=if (pL d1 room ⟨p,q,[]⟩).2≠0 then(d1,Jn.zero,(pL d1 room ⟨p,q,[]⟩).2) else if (xX d1 room ⟨p,q,[]⟩).2.2≠0 then((xX d1 room ⟨p,q,[]⟩).1,Jn.zero,(xX d1 room ⟨p,q,[]⟩).2.2) else((xX d1 room ⟨p,q,[]⟩).1,⟨(xX d1 room ⟨p,q,[]⟩).2.1,room,(pL d1 room ⟨p,q,[]⟩).1⟩,0):=by
 unfold fU xX pL;rw[if_neg (by simp[hc]),ho];simp only;rw[if_neg (by simp)]
def aPh{d:Dk}{room:Int}{p q:Pl}(hc:chk ⟨p,q,[]⟩ room=0)(h4:4≤d.sectors)(hf:d.fl.2≠0):fU d room p q=(d.fl.1,Jn.zero,d.fl.2):=by
 have ho:fA d=(d.fl.1,(Wl.zero,[]),d.fl.2):=by
  unfold fA;rw[if_neg (by omega),if_pos hf]
 unfold fU;rw[if_neg (by simp[hc]),ho,if_pos hf]
def aQr{d:Dk}{g:Nat}(H:Tw d g)(small:d.nw.1.gen≤220){room:Int}{p q:Pl}(hc:chk ⟨p,q,[]⟩ room=0):
  ∃g',Tw (fU d room p q).1 g'∧(fU d room p q).1.nw.1.gen≤d.nw.1.gen+2∧(g=d.nw.1.gen->g'=(fU d room p q).1.nw.1.gen)∧((fU d room p q).2.2=0->g'=(fU d room p q).1.nw.1.gen∧JT (fU d room p q).1 (fU d room p q).2.1.w∧(fU d room p q).2.1.w.broken=false):=by
 obtain⟨F,f1,f2,z1,z2,k0,k1⟩:=H.flush (by omega);have lo:=H.lo;by_cases hf:d.fl.2=0
 ·obtain⟨b1,b2⟩:=k0 hf;obtain⟨d1,hd1⟩:∃d1,d.fl.1=d1:=⟨_,rfl⟩;rw[hd1] at F f1 f2 z1 z2 b1 b2;have hfl:d.fl=(d1,0):=by rw[←hd1,←hf]
  have ho:=aJo hfl H.four z1 F.pos b1;have J:=aSB F b1;rw[aGx hc ho];split
  ·rename_i c;exact⟨_,F,by show d1.nw.1.gen≤_;omega,λh=>by show max g d1.nw.1.gen=d1.nw.1.gen;omega,λh=>absurd h c⟩
  ·obtain⟨g',a,b,c,e,f,k⟩:=aJw F (by omega) J rfl (fZ (pL d1 room ⟨p,q,[]⟩).1);have e3:g=d.nw.1.gen->g'=(xX d1 room ⟨p,q,[]⟩).1.nw.1.gen:=λh=>e (by omega);have e4:(xX d1 room ⟨p,q,[]⟩).1.nw.1.gen≤d1.nw.1.gen+1:=c;split
   ·rename_i c5;exact⟨g',a,by show(xX d1 room ⟨p,q,[]⟩).1.nw.1.gen≤_;omega,e3,λh=>absurd h c5⟩
   ·rename_i c5;obtain⟨k2,k3⟩:=k (Classical.not_not.1 c5);exact⟨g',a,by show(xX d1 room ⟨p,q,[]⟩).1.nw.1.gen≤_;omega,e3,λ_=>⟨k2,f k3,k3⟩⟩
 ·rw[aPh hc H.four hf];rw[k1 hf] at F ⊢;have en:d.tick.nw.1.gen=d.nw.1.gen:=rfl;exact⟨_,F,by show d.tick.nw.1.gen≤_;omega,λh=>by show max g d.tick.nw.1.gen=d.tick.nw.1.gen;omega,λh=>absurd h hf⟩
def aJd(d:Dk)(room:Int)(s0:Dm):Prop:=(pL d room s0).2≠0∨dL d.size (fZ (pL d room s0).1).length=0∨d.segs<dL d.size (fZ (pL d room s0).1).length
structure Stk(d:Dk)(room:Int)(s0:Dm):Prop where
 tw:∃g,Tw d g
 buf:d.buf=[]
 fails:aJd d room s0
def aJD{d:Dk}{room:Int}{s0:Dm}(h:aJd d room s0)(h0:(pL d room s0).2=0):(xX d room s0).1=d∧(xX d room s0).2.2≠0:=by
 unfold xX fP;rw[if_neg (by show ¬(false=true);simp)];rcases h with h|h|h
 ·exact absurd h0 h
 ·rw[if_pos h];exact⟨rfl,by show(1:Int)≠0;decide⟩
 ·rw[if_neg (by omega),if_pos h];exact⟨rfl,by show(2:Int)≠0;decide⟩
def aUP{d:Dk}{room:Int}{s0:Dm}(h:aJd d room s0)(n:Nat):aJd ⟨d.size,d.sectors,d.st,d.buf,n⟩ room s0:=h
def aP1{d:Dk}{g:Nat}(H:Tw d g)(n:Nat):Tw ⟨d.size,d.sectors,d.st,d.buf,n⟩ g:=⟨⟨H.ok.len,H.ok.size,H.ok.one,H.ok.many,H.ok.each,H.ok.buf⟩,H.four,H.pos,H.small,H.lo,H.hi,H.low,H.lowb,H.q,H.qb,H.hb⟩
def Stk.arm{d:Dk}{room:Int}{s0:Dm}(H:Stk d room s0)(n:Nat):Stk ⟨d.size,d.sectors,d.st,d.buf,n⟩ room s0:=by
 obtain⟨g,t⟩:=H.tw;exact⟨⟨g,aP1 t n⟩,H.buf,aUP H.fails n⟩
def Stk.open{d:Dk}{room:Int}{p q:Pl}(H:Stk d room ⟨p,q,[]⟩)(hc:chk ⟨p,q,[]⟩ room=0):(fU d room p q).2.2≠0∧Stk (fU d room p q).1 room ⟨p,q,[]⟩∧(fU d room p q).1.nw=d.nw:=by
 obtain⟨g,t⟩:=H.tw;have hb:=H.buf;have e1:kH d.st d.buf=d.st:=by rw[hb];rfl
 by_cases hf:d.fl.2=0
 ·have ef:d.fl=(⟨d.size,d.sectors,d.st,d.buf,d.arm-1⟩,0):=by
   unfold Dk.fl at hf ⊢;split
   ·rename_i c;rw[if_pos c] at hf;exact absurd hf (by show(13:Int)≠0;decide)
   ·rw[e1,hb]
  have S1:=H.arm (d.arm-1);have ho:=aJo (d1:=⟨d.size,d.sectors,d.st,d.buf,d.arm-1⟩) ef t.four rfl t.pos hb;rw[aGx hc ho];split
  ·rename_i c;exact⟨c,S1,rfl⟩
  ·rename_i c;obtain⟨a,b⟩:=aJD S1.fails (Classical.not_not.1 c);rw[if_pos b];refine⟨b,?_,?_⟩
   ·show Stk (xX _ _ _).1 _ _;rw[a];exact S1
   ·show(xX _ _ _).1.nw=_;rw[a];rfl
 ·rw[aPh hc t.four hf];have ef:d.fl.1=d.tick:=by
   unfold Dk.fl at hf ⊢;split
   ·rfl
   ·rename_i c;rw[if_neg c] at hf;exact absurd rfl hf
  rw[ef];exact⟨hf,H.arm (d.arm-1),rfl⟩
def aKG{d:Dk}{g:Nat}(H:Tw d g)(small:d.nw.1.gen≤230)(hb:d.buf=[])(ha:d.arm=0){w:Wl}(hw:w.hd=d.nw.1)(hsl:w.slot≤1)(hbr:w.broken=false){s:Tx}(h0:dL d.size s.length≠0)(hp:dL d.size s.length≤d.segs):
  ∃d1 d2 sg,sg≤1∧aNA d d1 (d.base sg) (fR d.size (d.nw.1.gen+1) 0 s)∧aNA d1 d2 (1-w.slot) [(fO d.size ⟨d.nw.1.gen+1,sg⟩).1]∧fP d w s=(d2,⟨⟨d.nw.1.gen+1,sg⟩,1-w.slot,dL d.size s.length,1,true,false⟩,0):=by
 have ok:=H.ok.size;have hs:s.length≤4096:=by
  have:=(qX (n:=s.length) ok).2;omega
 have hg:w.hd.gen=d.nw.1.gen:=by rw[hw]
 have en:=aN1 (h:=w.hd) (by omega);have hseg:(if w.hd.seg=0 then 1 else 0)≤1:=by split<;>omega
 generalize (if w.hd.seg=0 then 1 else 0)=sg at *;have h4:=H.four;have hbf:=qZ d h4 hseg;obtain⟨A0,A⟩:=aBd (fR d.size (w.hd.gen+1) 0 s) H.ok ha (d.base sg) (by rw[iN];omega) (aEz ok hs);obtain⟨hl1,hl2⟩:=aEy (size:=d.size) (h:=⟨w.hd.gen+1,sg⟩) ok (by simp) hseg;obtain⟨B0,B⟩:=aBd [(fO d.size ⟨w.hd.gen+1,sg⟩).1] A.ok A.arm (1-w.slot) (by rw[A.sectors];simp only[iU,kV];omega) (by simp[hl1,A.size]);have ew:fP d w s=((iE (iE d (d.base sg) (fR d.size (w.hd.gen+1) 0 s)).1 (1-w.slot) [(fO d.size ⟨w.hd.gen+1,sg⟩).1]).1,⟨⟨w.hd.gen+1,sg⟩,1-w.slot,dL d.size s.length,1,true,false⟩,0):=by
  unfold fP lL;rw[if_neg (by rw[hbr];simp),if_neg h0,if_neg (by omega),en];simp only;rw[if_neg (by simp),if_neg (by rw[A0];simp),if_neg (by rw[B0];simp)]
 rw[hg] at *;exact⟨_,_,sg,hseg,A,B,ew⟩
def aSr{d:Dk}{g:Nat}(H:Tw d g)(small:d.nw.1.gen≤220)(hb:d.buf=[])(ha:d.arm=0){room:Int}{p q:Pl}(hc:chk ⟨p,q,[]⟩ room=0)(h:(fU d room p q).2.2≠0):Stk d room ⟨p,q,[]⟩∧(fU d room p q).1=d:=by
 have ef:=aKf ha hb;have ho:=aJo ef H.four rfl H.pos hb;rw[aGx hc ho] at h ⊢;by_cases c:(pL d room ⟨p,q,[]⟩).2=0
 ·rw[if_neg (by simp[c])] at h ⊢;by_cases f:aJd d room ⟨p,q,[]⟩
  ·obtain⟨a,b⟩:=aJD f c;rw[if_pos b];exact⟨⟨⟨g,H⟩,hb,f⟩,a⟩
  ·exfalso;have hnp:dL d.size (fZ (pL d room ⟨p,q,[]⟩).1).length≠0:=λx=>f (.inr (.inl x));have hsg:¬d.segs<dL d.size (fZ (pL d room ⟨p,q,[]⟩).1).length:=λx=>f (.inr (.inr x));obtain⟨-,s1,-⟩:=aEw H.pos;obtain⟨d1,d2,sg,-,-,-,e⟩:=aKG H (by omega) hb ha (w:=(oX d d.nw.1 d.nw.2.toNat).1) rfl s1 rfl hnp (by omega);have e:xX d room ⟨p,q,[]⟩=_:=e;rw[e] at h;exact absurd h (by simp)
 ·rw[if_pos c];exact⟨⟨⟨g,H⟩,hb,.inl c⟩,rfl⟩
structure aJ5(d:Dk)(j:Jn)(room:Int):Prop where
 tw:Tw d d.nw.1.gen
 jt:JT d j.w
 broken:j.w.broken=false
 rm:j.room=room
 ok:OkD j.s room
 wf:j.s.wf
 scan:jD d.size d.nw.1.gen (d.segs+1) (d.secs (d.base d.nw.1.seg) d.segs) 0=([fZ j.s],dL d.size (fZ j.s).length)
 parts:dL d.size (fZ j.s).length≤d.segs
def aYt{size gen ser g:Nat}{rest:List Tx}(h:∀x,rest.head? =some x->Qs size g x)(hg:g<gen)(hs:ser≠0):iY size gen ser rest 0 0 []=([],0):=by
 cases rest with
 | nil=>rfl
 | cons x xs=>
  have hx:=h x rfl;unfold iY;rw[if_pos];by_cases c:(fW size x).2=0
  ·by_cases c2:(fW size x).1.ser=ser
   ·have:=hx c (by rw[c2];exact hs);exact .inr (.inl (by omega))
   ·exact .inr (.inr (.inl c2))
  ·exact .inl c
def aQh{s:Dm}{room:Int}(ok:OkD s room):(fZ s).length≤4096:=by
 rw[aJj ok];exact aGG (aB7 ok)
def aQ5{d:Dk}(H:Tw d d.nw.1.gen)(small:d.nw.1.gen≤220)(hb:d.buf=[])(ha:d.arm=0){room:Int}{p q:Pl}(hc:chk ⟨p,q,[]⟩ room=0)(ws:(⟨p,q,[]⟩:Dm).wf)(h0:(pL d room ⟨p,q,[]⟩).2=0)(hp:dL d.size (fZ (pL d room ⟨p,q,[]⟩).1).length≤d.segs):
  ∃d2 w,fU d room p q=(d2,⟨w,room,(pL d room ⟨p,q,[]⟩).1⟩,0)∧aJ5 d2 ⟨w,room,(pL d room ⟨p,q,[]⟩).1⟩ room∧d2.nw.1.gen=d.nw.1.gen+1∧d2.size=d.size∧d2.sectors=d.sectors∧d2.arm=0:=by
 have ef:=aKf ha hb;have ho:=aJo ef H.four rfl H.pos hb;obtain⟨ok,wf⟩:=aKj hc ws h0;have hok:OkD (pL d room ⟨p,q,[]⟩).1 room:=ok;have hwf:(pL d room ⟨p,q,[]⟩).1.wf:=wf;have hs:=aQh hok;have h1:=tL (n:=(fZ (pL d room ⟨p,q,[]⟩).1).length) H.ok.size hs;obtain⟨-,s1,-⟩:=aEw H.pos;have JM:=aSB H hb;obtain⟨d1,d2,sg,hsg,A,B,e⟩:=aKG H (by omega) hb ha (w:=(oX d d.nw.1 d.nw.2.toNat).1) rfl s1 rfl (by omega) hp;obtain⟨g',t1,t2,t3,t4,t5,t6⟩:=aJw H (by omega) JM rfl (fZ (pL d room ⟨p,q,[]⟩).1);have ec:xX d room ⟨p,q,[]⟩=(d2,⟨⟨d.nw.1.gen+1,sg⟩,1-d.nw.2.toNat,dL d.size (fZ (pL d room ⟨p,q,[]⟩).1).length,1,true,false⟩,0):=e;rw[e] at t1 t2 t3 t4 t5 t6;obtain⟨t7,-⟩:=t6 rfl;have jt:=t5 rfl;have hd:(⟨d.nw.1.gen+1,sg⟩:Hd)=d2.nw.1:=jt.hd;have eg:d2.nw.1.gen=d.nw.1.gen+1:=by rw[←hd]
 have es:d2.nw.1.seg=sg:=by rw[←hd]
 obtain rfl:g'=d2.nw.1.gen:=t7;have T1:Tw d2 d2.nw.1.gen:=t1;have jo:fU d room p q=(d2,⟨⟨⟨d.nw.1.gen+1,sg⟩,1-d.nw.2.toNat,dL d.size (fZ (pL d room ⟨p,q,[]⟩).1).length,1,true,false⟩,room,(pL d room ⟨p,q,[]⟩).1⟩,0):=by
  rw[aGx hc ho,if_neg (by simp[h0]),ec];simp only;rw[if_neg (by simp)]
 generalize (pL d room ⟨p,q,[]⟩).1=s at *;have esz:d2.size=d.size:=B.size.trans A.size;have esc:d2.sectors=d.sectors:=B.sectors.trans A.sectors;have esg:d2.segs=d.segs:=aGF esc;have eba:∀n,d2.base n=d.base n:=λn=>by unfold Dk.base;rw[esg]
 have h4:=H.four;have hb2:2≤d.base sg:=by unfold Dk.base;omega
 have hbf:=qZ d h4 hsg;have hat:∀i,2≤i->d2.at i=d1.at i:=λi hi=>by rw[B.here,if_neg (by simp only[iU,kV];omega)]
 refine⟨d2,_,jo,⟨T1,jt,rfl,rfl,hok,hwf,?_,by show dL d2.size _≤_;rw[esz,esg];exact hp⟩,eg,esz,esc,B.arm⟩;show jD d2.size d2.nw.1.gen (d2.segs+1) (d2.secs (d2.base d2.nw.1.seg) d2.segs) 0=([fZ s],dL d2.size (fZ s).length);rw[esz,eg,es,eba,esg];have e1:d2.secs (d.base sg) (dL d.size (fZ s).length)=fR d.size (d.nw.1.gen+1) 0 (fZ s):=by
  have a1:d2.secs (d.base sg) (dL d.size (fZ s).length)=d1.secs (d.base sg) (dL d.size (fZ s).length):=aMb B (.inr (by simp only[iU,kV];omega));have a2:=aK3 A;rw[iN] at a2;rw[a1,a2]
 have e2:d2.secs (d.base sg) d.segs=fR d.size (d.nw.1.gen+1) 0 (fZ s)++d2.secs (d.base sg+dL d.size (fZ s).length) (d.segs-dL d.size (fZ s).length):=by
  conv=>lhs;rw[show d.segs=dL d.size (fZ s).length+(d.segs-dL d.size (fZ s).length) by omega]
  rw[aMC,e1]
 have r1:=aNY (gen:=d.nw.1.gen+1) (ser:=0) H.ok.size hs (by omega) (by decide) (d2.secs (d.base sg+dL d.size (fZ s).length) (d.segs-dL d.size (fZ s).length));have r2:iY d.size (d.nw.1.gen+1) 1 (d2.secs (d.base sg+dL d.size (fZ s).length) (d.segs-dL d.size (fZ s).length)) 0 0 []=([],0):=aYt (g:=d.nw.1.gen) (λx hx=>by
  have hm:=List.mem_of_mem_head? hx;unfold Dk.secs at hm;obtain⟨i,hi,rfl⟩:=pQ.1 hm;have hi:=aFM.1 hi;rw[hat _ (by omega),A.here,if_neg (by rw[iN];omega)];have:=H.q (d.base sg+dL d.size (fZ s).length+i) (by omega) (by omega);unfold Dk.at;rw[hb];exact this) (Nat.lt_succ_self _) (by decide)
 have ed:(fR d.size (d.nw.1.gen+1) 0 (fZ s)++d2.secs (d.base sg+dL d.size (fZ s).length) (d.segs-dL d.size (fZ s).length)).drop (dL d.size (fZ s).length)=d2.secs (d.base sg+dL d.size (fZ s).length) (d.segs-dL d.size (fZ s).length):=by
  conv=>lhs;arg 1;rw[←iN d.size (d.nw.1.gen+1) 0 (fZ s)]
  rw[List.drop_left]
 obtain⟨f,hf⟩:∃f,d.segs=f+1:=⟨d.segs-1,by omega⟩;have e3:jD d.size (d.nw.1.gen+1) d.segs (d2.secs (d.base sg+dL d.size (fZ s).length) (d.segs-dL d.size (fZ s).length)) 1=([],0):=by
  conv=>lhs;arg 3;rw[hf]
  unfold jD;rw[if_pos (by rw[r2])]
 rw[e2];unfold jD;rw[r1];simp only;rw[if_neg (by omega),ed,iZ,e3];rfl
def aR3{d:Dk}{j:Jn}{room:Int}(P:aJ5 d j room)(small:d.nw.1.gen≤220){p q:Pl}(hc:chk ⟨p,q,[]⟩ room=0)(ws:(⟨p,q,[]⟩:Dm).wf)(l:List (Bool×Int)):
  ∃d2 w,fU (d.crash l) room p q=(d2,⟨w,room,j.s⟩,0)∧aJ5 d2 ⟨w,room,j.s⟩ room∧d2.nw.1.gen=d.nw.1.gen+1∧d2.size=d.size∧d2.sectors=d.sectors∧d2.arm=0:=by
 have hb:=P.jt.buf;have ed:d.crash l=⟨d.size,d.sectors,d.st,d.buf,0⟩:=by
  unfold Dk.crash;rw[hb];rfl
 rw[ed];have T:Tw ⟨d.size,d.sectors,d.st,d.buf,0⟩ d.nw.1.gen:=aP1 P.tw 0;have es:pL ⟨d.size,d.sectors,d.st,d.buf,0⟩ room ⟨p,q,[]⟩=(j.s,0):=by
  have e1:(oX ⟨d.size,d.sectors,d.st,d.buf,0⟩ d.nw.1 d.nw.2.toNat).2=[fZ j.s]:=congrArg Prod.fst P.scan;have e2:pL ⟨d.size,d.sectors,d.st,d.buf,0⟩ room ⟨p,q,[]⟩=kE room ⟨p,q,[]⟩ [fZ j.s]:=by
   unfold pL;show kE room ⟨p,q,[]⟩ (oX ⟨d.size,d.sectors,d.st,d.buf,0⟩ d.nw.1 d.nw.2.toNat).2=_;rw[e1]
  rw[e2];unfold kE;rw[if_neg (by simp),aJj P.ok];have hg:∀y∈[mA j.s],Rg y:=λy hy=>by
   simp only[iC] at hy;rw[hy];exact⟨aB7 P.ok,aKC P.wf⟩
  have:=aMR (room:=room) hg rfl;rw[iG,jB] at this;rw[this];have e3:wlk room (mA j.s) []=(j.s,0):=by
   show(j.s,chk j.s room)=(j.s,0);rw[aC5.2 P.ok]
  rw[e3];simp
 obtain⟨d2,w,a,b,c,e,f,k⟩:=aQ5 (d:=⟨d.size,d.sectors,d.st,d.buf,0⟩) T small hb rfl hc ws (by rw[es]) (by rw[es];exact P.parts);rw[es] at a b;exact⟨d2,w,a,b,c,e,f,k⟩
def aSJ{d:Dk}(H:Tw d d.nw.1.gen)(small:d.nw.1.gen≤220)(hb:d.buf=[])(ha:d.arm=0){room:Int}{p q:Pl}(hc:chk ⟨p,q,[]⟩ room=0)(ws:(⟨p,q,[]⟩:Dm).wf):
  (fU d room p q).2.2≠0∨(aJ5 (fU d room p q).1 (fU d room p q).2.1 room∧(fU d room p q).2.2=0∧(fU d room p q).1.nw.1.gen=d.nw.1.gen+1):=by
 by_cases f:aJd d room ⟨p,q,[]⟩
 ·left;exact(Stk.open ⟨⟨_,H⟩,hb,f⟩ hc).1
 ·right;have h0:(pL d room ⟨p,q,[]⟩).2=0:=Classical.byContradiction λc=>f (.inl c);have hp:dL d.size (fZ (pL d room ⟨p,q,[]⟩).1).length≤d.segs:=by
   have:¬d.segs<dL d.size (fZ (pL d room ⟨p,q,[]⟩).1).length:=λx=>f (.inr (.inr x));omega
  obtain⟨d2,w,a,b,c,-⟩:=aQ5 H small hb ha hc ws h0 hp;rw[a];exact⟨b,rfl,c⟩
def aWr{d:Dk}(hb:d.buf=[])(i:Nat):d.at i=d.st.getD i []:=by
 unfold Dk.at;rw[hb];rfl
def aT2{d:Dk}(H:aM8 d)(h4:4≤d.sectors):∃d1,fA d=(d1,oX d1 d1.nw.1 d1.nw.2.toNat,0)∧Tw d1 1∧d1.nw.1.gen=1∧d1.buf=[]∧d1.arm=0∧d1.size=d.size∧d1.sectors=d.sectors:=by
 have ok:=H.ok.size;have h64:=ok.1;have ef:=aKf H.arm H.buf;have en:jX d.size (d.at 0) (d.at 1)=(Hd.zero,-1):=by
  rw[H.z 0 (by omega),H.z 1 (by omega)];unfold jX;rw[aJ1 ok.1];unfold nP;rw[if_neg (by simp),if_neg (by simp)]
 obtain⟨hl1,hl2⟩:=aEy (size:=d.size) (h:=⟨1,0⟩) ok (by simp) (by simp);obtain⟨B0,B⟩:=aBd [(fO d.size ⟨1,0⟩).1] H.ok H.arm 1 (by simp only[iU,kV];omega) (by simp[hl1]);have ew:fA d=((iE d 1 [(fO d.size ⟨1,0⟩).1]).1,oX (iE d 1 [(fO d.size ⟨1,0⟩).1]).1 ⟨1,0⟩ 1,0):=by
  unfold fA;rw[ef];simp only;rw[if_neg (by omega),if_neg (by simp),en];simp only;rw[if_pos (by decide),if_neg (by rw[B0];simp)]
 generalize (iE d 1 [(fO d.size ⟨1,0⟩).1]).1=d1 at *;have hat:∀i,d1.st.getD i []=if 1≤i∧i<1+1 then [(fO d.size ⟨1,0⟩).1].getD (i-1) [] else d.at i:=λi=>by rw[←aWr B.buf];exact B.here i
 have e1:d1.st.getD 1 []=(fO d.size ⟨1,0⟩).1:=by rw[hat,if_pos (by omega)];rfl
 have e0:d1.st.getD 0 []=kJ d.size:=by rw[hat,if_neg (by omega),H.z 0 (by omega)]
 have ez:∀i,2≤i->i<d.sectors->d1.st.getD i []=kJ d.size:=λi h1 h2=>by rw[hat,if_neg (by omega),H.z i h2]
 have enw:d1.nw=(⟨1,0⟩,1):=by
  unfold Dk.nw;rw[B.size];refine aOS (k:=1) (by decide) (by decide) ?_ ?_
  ·rw[e1];exact aKF ok (by simp) (by decide) (by simp)
  ·show(fI d.size (d1.st.getD 0 [])).1.gen<1;rw[e0,aJ1 ok.1];decide
 have eg:d1.nw.1.gen=1:=by rw[enw]
 refine⟨d1,by rw[enw];exact ew,⟨B.ok,by rw[B.sectors];exact h4,by omega,by omega,by omega,by omega,λs hs=>?_,by rw[B.buf];simp,λi h1 h2=>?_,by rw[B.buf];simp,by rw[B.buf];simp⟩,eg,B.buf,B.arm,B.size,B.sectors⟩
 ·rw[eg];obtain⟨i,hi,rfl⟩:=List.mem_iff_getElem.1 hs;have hi2:i<d.sectors:=by rw[←B.sectors,←B.ok.len];exact hi
  have e:d1.st[i]=d1.st.getD i []:=by rw[sQ,kF hi];rfl
  rw[e];have:i=0∨i=1∨2≤i:=by omega
  rcases this with rfl|rfl|h2
  ·rw[e0];exact aQC _ _
  ·rw[e1];exact aPO (by decide) (by decide) hl2
  ·rw[ez i h2 hi2];exact aQC _ _
 ·rw[B.size,ez i h1 (by rw[←B.sectors];exact h2)];intro a;have:=(aL8 a).1;rw[aLR ok.1] at this;cases this
def aVN{d:Dk}(H:aM8 d)(h4:4≤d.sectors){room:Int}{p q:Pl}(hc:chk ⟨p,q,[]⟩ room=0):
  (fU d room p q).1.nw.1.gen≤2∧((fU d room p q).2.2≠0∧Stk (fU d room p q).1 room ⟨p,q,[]⟩∨(fU d room p q).2.2=0∧Tw (fU d room p q).1 (fU d room p q).1.nw.1.gen∧JT (fU d room p q).1 (fU d room p q).2.1.w):=by
 obtain⟨d1,ho,T,eg,hb,ha,-,-⟩:=aT2 H h4;have J:=aSB T hb;rw[aGx hc ho];by_cases c:(pL d1 room ⟨p,q,[]⟩).2=0
 ·rw[if_neg (by simp[c])];by_cases f:aJd d1 room ⟨p,q,[]⟩
  ·obtain⟨a,b⟩:=aJD f c;rw[if_pos b];refine⟨by show(xX d1 room ⟨p,q,[]⟩).1.nw.1.gen≤2;rw[a];omega,.inl ⟨b,?_⟩⟩;show Stk (xX d1 room ⟨p,q,[]⟩).1 _ _;rw[a];exact⟨⟨1,T⟩,hb,f⟩
  ·have hnp:dL d1.size (fZ (pL d1 room ⟨p,q,[]⟩).1).length≠0:=λx=>f (.inr (.inl x));have hsg:¬d1.segs<dL d1.size (fZ (pL d1 room ⟨p,q,[]⟩).1).length:=λx=>f (.inr (.inr x));obtain⟨-,s1,-⟩:=aEw T.pos;obtain⟨-,d2,sg,-,-,-,e⟩:=aKG T (by omega) hb ha (w:=(oX d1 d1.nw.1 d1.nw.2.toNat).1) rfl s1 rfl hnp (by omega);obtain⟨g',t1,t2,t3,t4,t5,t6⟩:=aJw T (by omega) J rfl (fZ (pL d1 room ⟨p,q,[]⟩).1);have e0:(xX d1 room ⟨p,q,[]⟩).2.2=0:=congrArg (λx:Dk×Wl×Int=>x.2.2) e;obtain⟨k1,k2⟩:=t6 e0;rw[if_neg (by simp[e0])];have t3:(xX d1 room ⟨p,q,[]⟩).1.nw.1.gen≤d1.nw.1.gen+1:=t3;refine⟨by show(xX d1 room ⟨p,q,[]⟩).1.nw.1.gen≤2;omega,.inr ⟨rfl,?_,t5 k2⟩⟩;have k1:g'=(xX d1 room ⟨p,q,[]⟩).1.nw.1.gen:=k1;have t1:Tw (xX d1 room ⟨p,q,[]⟩).1 g':=t1;rw[k1] at t1;exact t1
 ·rw[if_pos c];exact⟨by show d1.nw.1.gen≤2;omega,.inl ⟨c,⟨1,T⟩,hb,.inl c⟩⟩
def aSW{d:Dk}(H:d.Ok)(w:Wl)(s:Tx):(hM d w s).1.buf.length≤d.buf.length+106:=by
 have hp:=aBi (fR d.size w.hd.gen w.ser s) d (d.base w.hd.seg+w.used);rw[iN] at hp;have h1:=aIf (n:=s.length) H.size;have ha:(rG d w s).1.buf.length≤d.buf.length+106:=by unfold rG;omega
 unfold hM
 repeat' split
 all_goals first|exact ha|(show d.buf.length≤_;omega)
def aOm{d:Dk}(H:d.Ok)(w:Wl)(s:Tx):(fP d w s).1.buf.length≤d.buf.length+107:=by
 have hp:=aBi (fR d.size (gT w.hd).1.gen 0 s) d (d.base (gT w.hd).1.seg);rw[iN] at hp;have h1:=aIf (n:=s.length) H.size;have ha:(lL d (gT w.hd).1 s).1.buf.length≤d.buf.length+106:=by unfold lL;omega
 have hq:=aBi [(fO d.size (gT w.hd).1).1] (lL d (gT w.hd).1 s).1 (1-w.slot);simp only[iU,kV] at hq;unfold fP
 repeat' split
 all_goals first|(show d.buf.length≤_;omega)|(show(lL d (gT w.hd).1 s).1.buf.length≤_;omega)|(show(iE (lL d (gT w.hd).1 s).1 (1-w.slot) [(fO d.size (gT w.hd).1).1]).1.buf.length≤_;omega)
def aU5{d:Dk}(H:d.Ok)(j:Jn)(ch:Int)(q:Pl)(ns:List Nt):(lS d j ch q ns).1.buf.length≤d.buf.length+107:=by
 have h1:=aSW H j.w (gN ch q ns).bytes.1;have h2:=aOm H j.w (fZ (lT j.s j.room (gN ch q ns)).1);have h3:(vH d j (gN ch q ns) (lT j.s j.room (gN ch q ns)).1).1.buf.length≤d.buf.length+107:=by
  unfold vH;split
  ·omega
  ·exact h2
 unfold lS
 repeat' split
 all_goals first|(show d.buf.length≤_;omega)|exact h3
def aVL{d:Dk}(H:d.Ok)(room:Int)(p q:Pl):(fU d room p q).1.buf.length≤d.buf.length+108:=by
 have h1:=aI7 d;have h2:=aOm (aM0 H).1 (fA d).2.1.1 (fZ (kE room ⟨p,q,[]⟩ (fA d).2.1.2).1);unfold fU
 repeat' split
 all_goals first|(show d.buf.length≤_;omega)|(show(fA d).1.buf.length≤_;omega)|(show(fP (fA d).1 (fA d).2.1.1 (fZ (kE room ⟨p,q,[]⟩ (fA d).2.1.2).1)).1.buf.length≤_;omega)
def aCl(room:Int)(p q:Pl)(d:Dk):Dk×Option Jn:=((fU d room p q).1,if (fU d room p q).2.2=0 then some (fU d room p q).2.1 else none)
def doJ(room:Int)(p q:Pl)(x:JAc)(s:Dk×Option Jn):Dk×Option Jn:=
 if x.k=0 then(match s.2 with
  | none=>s
  | some j=>((lS s.1 j x.ch x.q x.l).1,some (lS s.1 j x.ch x.q x.l).2.1))
 else if x.k=1 then(s.1.armed x.n,s.2)
 else if x.k=2 then aCl room p q s.1
 else aCl room p q (s.1.crash x.w)
def aYu{h:PH}{d:Nat}(q q':Pl):cD PG h (Op.equalIn (d+1+1) cG (plv q) (plv q'))=some (decide (q=q')):=by
 rw[aAq cG.und (by kernel_rfl) (λf=>match f.offset with|0=>q.h==q'.h|_=>q.i==q'.i)]
 ·congr 1;rw[xF];obtain⟨a,b⟩:=q;obtain⟨a',b'⟩:=q';simp
 ·intro f hf;simp only[iW,zLg,or_false] at hf;rcases hf with rfl|rfl
  ·exact⟨by decide,_,_,iM cJ.und rfl rfl,iM cJ.und rfl rfl,rH cJ.und⟩
  ·exact⟨by decide,_,_,iM aR.und rfl rfl,iM aR.und rfl rfl,rH aR.und⟩
def aXa{h:PH}{x y:Operand}(q q':Pl):cD PG h (fV .eql cG x y (plv q) (plv q'))=some (.bool (decide (q=q'))):=aIY (by kernel_rfl) (aYu (d:=9998) q q')
def aYL{h:PH}{d:Nat}(m m':Pk):cD PG h (Op.equalIn (d+1+1) bX (pkv m) (pkv m'))=some (decide (m=m')):=by
 have:cD PG h (Op.equalIn (d+1+1) bX (pkv m) (pkv m'))=some (m.f==m'.f&&(m.s==m'.s&&(m.t==m'.t&&(m.d==m'.d&&true)))):=by
  refine(aAq bX.und (by kernel_rfl) (λf=>match f.offset with|0=>m.f==m'.f|1=>m.s==m'.s|2=>m.t==m'.t|_=>m.d==m'.d) ?_);intro f hf;simp only[iW,zLg,or_false] at hf;rcases hf with rfl|rfl|rfl|rfl
  ·exact⟨by decide,_,_,iM aR.und rfl rfl,iM aR.und rfl rfl,rH aR.und⟩
  ·exact⟨by decide,_,_,iM cJ.und rfl rfl,iM cJ.und rfl rfl,rH cJ.und⟩
  ·exact⟨by decide,_,_,iM cJ.und rfl rfl,iM cJ.und rfl rfl,rH cJ.und⟩
  ·exact⟨by decide,_,_,iM aT.und rfl rfl,iM aT.und rfl rfl,aL4 aT.und⟩
 rw[this,aOg];congr 1;rw[xF];obtain⟨a,b,c,e⟩:=m;obtain⟨a',b',c',e'⟩:=m';simp
def aXe{h:PH}{x y:Operand}(m m':Pk):cD PG h (fV .eql bX x y (pkv m) (pkv m'))=some (.bool (decide (m=m'))):=aIY (by kernel_rfl) (aYL (d:=9998) m m')
def aY7:cB PG (build cG #[(0,(Value.int IntKind.u64 5))])=some (plv ⟨5,0⟩):=by kernel_rfl
def aYk:cB PG (build cU #[(0,plv ⟨5,0⟩),(1,plv ⟨5,0⟩)])=some (lO ⟨5,0⟩ ⟨5,0⟩):=by kernel_rfl
def aVt:cB PG (build cG #[(0,(Value.int IntKind.u64 6)),(1,(Value.int IntKind.i64 1))])=some (plv ⟨6,1⟩):=by kernel_rfl
def aYv:cB PG (build bX #[(1,(Value.int IntKind.u64 1)),(2,(Value.int IntKind.u64 9))])=some (pkv jPk):=by kernel_rfl
def aY6:cB PG (build cL #[(0,(Value.int IntKind.i64 1)),(1,pkv jPk)])=some (.agg jN.cells.toArray):=by kernel_rfl
def aXj:kC PG (buildSlice cZ 1 #[(0,.agg jN.cells.toArray)])=some (.cells jN.cells.toArray cL,λr=>pure (.slice (some ⟨r,0,none⟩) 1 1)):=by kernel_rfl
def aQG{h:PH}{x y:Operand}{r:Nat}:cD PG h (fV .eql oZ x y (pT r 0) (.pointer none))=some (.bool false):=yE oZ.und
def aXv{h:PH}{v:Value}{l:List It}(S:jT h v l){j:Nat}{x:It}(hx:l[j]? =some x):∃b o,cB PG (indexAt bZ v (.int .i64 (j:Int)))=some (pT b o)∧cD PG h (loadAt bX (pT b o))=some (pkv x.p):=by
 obtain⟨b,o,cs,e',fr,h1,hb,hle,hex⟩:=S.at bZ.und cF.info cF.size (k:=.i64) (j:=(j:Int)) (r:=x.cells) (by omega) (by rw[wG,xK,hx];rfl);refine⟨b,o,h1,?_⟩;rw[bX.loadAgg hb (by omega)];congr 2;apply zLw;have:=congrArg (λl:List Value=>l.take 4) hex;simp only[zLD,zLx,aCb,aI0] at this ⊢;exact this
def kR.scan{r a m w j:Nat}{d d2:Dk}{x:Jn}{vp:JP}{e room:Int}{p q:Pl}{h:PH}{F:List Nat}(H:kR r a m d (some (w,j,x)) e d2 vp room p q h F){vn:Value}{ns:List Nt}(ch:Int)(qs:Pl)(hq:qs.wf)(N:wN h vn ns)(hn:∀y∈ns,y.p.wf)(hb:d.buf.length≤900000){k:cE}
  (hk:∀h' F',kR r a m (lS d x ch qs ns).1 (some (w,j,(lS d x ch qs ns).2.1)) e d2 vp room p q h' F'->eA h F h' F'->k (.int .i64 (lS d x ch qs ns).2.2) h'):bT PG qI #[pT j 0,.int .i64 ch,.agg qs.cells.toArray,vn] h k:=by
 obtain⟨Fa,Fm,rfl,B,P,D,n1,n2,n3⟩:=H.here;have P:wQ a w j d x h Fa:=P;refine aUr P ch qs hq N hn hb λh1 F1 P1 s1=>?_;obtain⟨B1,D1,m1,m3⟩:=kR.prog (d:=d) (d':=d) (jp':=vp) (e':=e) B D n1 n2 n3 s1;exact hk h1 (r::(F1++Fm)) ⟨⟨F1,Fm,rfl,B1,P1,D1,m1,n2,m3⟩⟩ (eA.app [r] (eA.appR Fm s1))
structure aYb(r a m:Nat)(jp:JP)(e:Int)(vp:JP)(room:Int)(p q:Pl)(h:PH):Prop where
 d:cV h ⟨r,0,none⟩=some (pT a 0)
 j:cV h ⟨r,0+1,none⟩=some (aE9 jp)
 e:cV h ⟨r,0+2,none⟩=some (.int .i64 e)
 m:cV h ⟨r,0+3,none⟩=some (pT m 0)
 v:cV h ⟨r,0+4,none⟩=some (aE9 vp)
def kR.b{r a m:Nat}{d d2:Dk}{jp vp:JP}{e room:Int}{p q:Pl}{h:PH}{F:List Nat}(H:kR r a m d jp e d2 vp room p q h F):aYb r a m jp e vp room p q h:=by
 obtain⟨_,_,_,B,_⟩:=H.here;exact⟨B.cell 0,B.cell 1,B.cell 2,B.cell 3,B.cell 4⟩
def kR.state{r a m w j:Nat}{d d2:Dk}{x:Jn}{vp:JP}{e room:Int}{p q:Pl}{h:PH}{F:List Nat}(H:kR r a m d (some (w,j,x)) e d2 vp room p q h F){k:cE}(hk:∀h' v,jT h' v x.s.its->iQ h v->dA h h'->k (x.s.v v) h'):bT PG nD #[pT j 0] h k:=by
 obtain⟨_,_,_,_,P,_⟩:=H.here;have P:wQ a w j d x h _:=P;exact aMS P hk
def aSX{h:PH}{k:cE}(hk:∀h',dA h h'->k (.bool true) h'):bT PG aBb #[] h k:=by
 apply rP.call;unfold rP;obtain⟨d1,w1,d2,j2,d3,w3,d4,w4,e1,e2,e3,e4,y1,y2,q1,q2⟩:=aYT;simp only[aY7,aYk,cC,reduceIte,cI,Nat.reduceAdd];refine aOK 64 20 (by decide) (by decide) (by decide) 2 ⟨5,0⟩ ⟨5,0⟩ λh1 r a m F1 P1 f1 u1=>?_;have N1:aDj h h1 F1:=⟨u1,f1⟩;simp only[aQG,cC,reduceIte,cI,Nat.reduceAdd];refine aMM P1 aHw aHw (by decide) (by decide) (by decide) (by decide) λh2 F2 jp vp P2 s2 o2 v2=>?_;rw[e1] at P2 o2 v2 ⊢;have N2:=N1.step s2;obtain⟨w,j,rfl⟩:=o2.1 rfl;obtain⟨wv,jv,rfl⟩:=v2.1 rfl;have b2:=P2.b;simp only[decide_true,cW.f1,eR.load,b2.j,aK2,aLC,aYv,cC,reduceIte,cI,Nat.reduceAdd];intro r41 hr41
 try rw[cR]
 refine bX.fill (vs:=jPk.cells) hr41 rfl (Pk.isC _) λh3 B3 u3=>?_;have n3:r41∉F2:=λhm=>P2.known r41 hm hr41;have P3:=P2.ext u3;have N3:=N2.more u3;have b3:=P3.b;have l3:cD PG h3 (loadAt bX (pT r41 0))=some (pkv jPk):=bX.agg B3 (by show 0+4≤4;decide);simp only[cW.f1,eR.load,b3.j,aVt,l3,aY6,aXj,cC,reduceIte,cI,Nat.reduceAdd];intro r51 hr51;refine iB ?_
 try rw[cR]
 have u4:dA h3 (h3.set r51 (.cells jN.cells.toArray cL)):=cX.new hr51;have S4:wN (h3.set r51 (.cells jN.cells.toArray cL)) (.slice (some ⟨r51,0,none⟩) 1 1) [jN]:=(eH.lit (n:=1) (Nt.rows _) eN (by simp) (by decide) (by simp)).slR;generalize h3.set r51 (.cells jN.cells.toArray cL)=h4 at *;have P4:=P3.ext u4;have N4:=N3.more u4;refine P4.scan 0 ⟨6,1⟩ aWD S4 (λy hy=>?_) (by rw[q1];decide) λh5 F5 P5 s5=>?_
 ·simp only[iC] at hy;subst hy;exact⟨by decide,by decide,by decide,by decide⟩
 rw[e2] at P5 ⊢;have P5:kR r a m d2 (some (w,j,j2)) 0 d1 (some (wv,jv,(⟨w1,2,jS0⟩:Jn))) 2 ⟨5,0⟩ ⟨5,0⟩ h5 F5:=P5;have N5:=N4.step s5;obtain⟨B5,n5⟩:=uO (B3.ext u4) n3 s5;refine aMM P5 aHw aHw (by rw[y2];decide) (by rw[y1];decide) (by rw[q2];decide) (by rw[q1];decide) λh6 F6 jp' vp' P6 s6 o6 v6=>?_;rw[e3,e4] at P6 ⊢;rw[e3] at o6;rw[e4] at v6;have N6:=N5.step s6;obtain⟨B6,n6⟩:=uO B5 n5 s6;obtain⟨w',j',rfl⟩:=o6.1 rfl;have b6:=P6.b;simp only[decide_true,cW.f1,eR.load,b6.j,aK2,aLC,cC,reduceIte,cI,Nat.reduceAdd];refine P6.state λh7 v S7 nv u7=>?_;have S7:jT h7 v [⟨jPk,1⟩]:=S7;simp only[cC,reduceIte,cI,Nat.reduceAdd];intro r85 hr85
 try rw[cR]
 refine bR.fill (vs:=jS1.cells v) hr85 rfl (Dm.isC _ S7.isc) λh8 B8 u8=>?_;have B8p:=(B6.ext u7).ext u8;have l8:cD PG h8 (loadAt bX (pT r41 0))=some (pkv jPk):=bX.agg B8p (by show 0+4≤4;decide);have c4:cV h8 ⟨r85,0+4,none⟩=some v:=B8.cell 4;have lv:cB PG (Builtin.len_ #[bZ] aR #[v])=some (.int .i64 1):=S7.len (t':=aR) bZ.und;obtain⟨b,o,i1,i2⟩:=aXv (S7.ext u8) (j:=0) rfl;have i1:cB PG (indexAt bZ v (.int .i64 0))=some (pT b o):=i1;have i2:cD PG h8 (loadAt bX (pT b o))=some (pkv jPk):=i2;have x0:cB PG (indexAt cU (pT r85 0) (.int .i64 0))=some (pT r85 0):=by kernel_rfl
 have l0:cD PG h8 (loadAt cG (pT r85 0))=some (plv ⟨6,1⟩):=cG.agg B8 (by show 0+2≤5;decide);have q3:((0:Int)==0)=true:=rfl;have q4:((1:Int)==1)=true:=rfl;simp only[gA,q3,q4,bR.f0,bR.f1,bZ.load,c4,lv,i1,cF.f0,i2,l8,aXe,decide_true,x0,l0,aVt,aXa,cC,reduceIte,cI,Nat.reduceAdd];exact hk h8 ((N6.ext.trans u7).trans u8)
structure aY8(size sectors:Int)(L:List JV):Prop where
 s1:64≤size
 s2:size≤128
 n1:1≤sectors
 n2:sectors≤60
 len:L.length≤30
 each:∀y∈L,y.1.l.length≤40∧y.1.w.length≤100
def aWp{h:PH}{v:Value}{l:List Nt}(S:wN h v l):cB PG (Builtin.len_ #[cZ] aR #[v])=some (.int .i64 l.length):=by
 have:=S.len (t':=aR) cZ.und;rw[iL] at this;exact this
def aYO{h:PH}{v:Value}{l:List Nt}(S:wN h v l){j:Nat}{x:Nt}(hx:l[j]? =some x):∃b o,cB PG (indexAt cZ v (.int .i64 (j:Int)))=some (pT b o)∧cV h ⟨b,o+4,none⟩=some (.string x.p.d):=by
 obtain⟨b,o,h1,h2,-⟩:=S.fields cZ.und cL.info cL.size (k:=.i64) (j:=j) (r:=x.cells) (by rw[wG,hx];rfl);exact⟨b,o,h1,h2 4 _ rfl⟩
def aVV{h:PH}{v:Value}{L:List JV}(A:JAs h v L)(size sectors:Int){k:cE}(hk:∀b,(b=true->aY8 size sectors L)->k (.bool b) h):bT PG aCT #[.int .i64 size,.int .i64 sectors,v] h k:=by
 apply uJ.call;unfold uJ;have no:k (.bool false) h:=hk false λe=>by cases e
 have ll:=aQ1 A;by_cases c1:size<64
 ·have g1:(size<64)=True:=eq_true c1;simp only[g1,cC,reduceIte,cI,Nat.reduceAdd];exact no
 have g1:(size<64)=False:=eq_false c1;by_cases c2:128<size
 ·have g2:((128:Int)<size)=True:=eq_true c2;simp only[g1,g2,cC,reduceIte,cI,Nat.reduceAdd];exact no
 have g2:((128:Int)<size)=False:=eq_false c2;by_cases c3:sectors<1
 ·have g3:(sectors<1)=True:=eq_true c3;simp only[g1,g2,g3,cC,reduceIte,cI,Nat.reduceAdd];exact no
 have g3:(sectors<1)=False:=eq_false c3;by_cases c4:60<sectors
 ·have g4:((60:Int)<sectors)=True:=eq_true c4;simp only[g1,g2,g3,g4,cC,reduceIte,cI,Nat.reduceAdd];exact no
 have g4:((60:Int)<sectors)=False:=eq_false c4;by_cases c5:30<L.length
 ·have g5:((30:Int)<(L.length:Int))=True:=eq_true (by omega);simp only[g1,g2,g3,g4,ll,g5,cC,reduceIte,cI,Nat.reduceAdd];exact no
 have g5:((30:Int)<(L.length:Int))=False:=eq_false (by omega);simp only[g1,g2,g3,g4,ll,g5,cC,reduceIte,cI,Nat.reduceAdd];refine⟨λvs h'=>∃i:Nat,i≤L.length∧vs=[v,.int .i64 (i:Int)]∧h'=h∧∀y∈L.take i,y.1.l.length≤40∧y.1.w.length≤100,fT L.length 1,⟨0,by omega,rfl,rfl,by simp⟩,?_⟩;rintro ρ h' ⟨i,hi,hvs,rfl,hy⟩;simp only[iG,jB,kZ,and_true] at hvs;obtain⟨v0,v1⟩:=hvs;unfold aFr;rw[v0,v1];by_cases hlt:i<L.length
 ·have g6:((i:Int)<(L.length:Int))=True:=eq_true (by omega);have gi:=nR (i:=i) (by omega);obtain⟨y,hx⟩:∃x,L[i]? =some x:=⟨_,kF hlt⟩;obtain⟨b,o,i1,P⟩:=A.pt hx;obtain⟨NS,CS,wf⟩:=A.e y (zX hx);have ln:=aWp NS;have lc:=aNh CS;by_cases d1:40<y.1.l.length
  ·have k1:((40:Int)<(y.1.l.length:Int))=True:=eq_true (by omega);simp only[ll,g6,i1,dI.f4,cZ.load,P.l,ln,k1,cC,reduceIte,cI,Nat.reduceAdd];exact no
  have k1:((40:Int)<(y.1.l.length:Int))=False:=eq_false (by omega);by_cases d2:100<y.1.w.length
  ·have k2:((100:Int)<(y.1.w.length:Int))=True:=eq_true (by omega);simp only[ll,g6,i1,dI.f4,dI.f5,cZ.load,gG.load,P.l,P.w,ln,lc,k1,k2,cC,reduceIte,cI,Nat.reduceAdd];exact no
  have k2:((100:Int)<(y.1.w.length:Int))=False:=eq_false (by omega);simp only[ll,g6,i1,dI.f4,dI.f5,cZ.load,gG.load,P.l,P.w,ln,lc,k1,k2,cC,reduceIte,cI,Nat.reduceAdd];refine⟨λvs h2=>∃m:Nat,m≤y.1.l.length∧vs=[v,.int .i64 (i:Int),.int .i64 (m:Int)]∧h2=h',fT y.1.l.length 2,⟨0,by omega,rfl,rfl⟩,?_⟩;rintro ρ2 h2 ⟨m,hm,hvs2,rfl⟩;simp only[iG,jB,kZ,and_true] at hvs2;obtain⟨w0,w1,w2⟩:=hvs2;unfold aFJ;rw[w0,w1,w2];by_cases hlm:m<y.1.l.length
  ·have k3:((m:Int)<(y.1.l.length:Int))=True:=eq_true (by omega);have gm:=nR (i:=m) (by omega);obtain⟨z,hz⟩:∃x,y.1.l[m]? =some x:=⟨_,kF hlm⟩;obtain⟨b',o',j1,j2⟩:=aYO NS hz;have lp:cB PG (Builtin.len_ #[aT] aR #[.string z.p.d])=some (.int .i64 (z.p.d.size:Int)):=uZ aT.und;by_cases y1:300<z.p.d.size
   ·have k4:((300:Int)<(z.p.d.size:Int))=True:=eq_true (by omega);simp only[i1,dI.f4,cZ.load,P.l,ln,k3,j1,cL.f1,bX.f3,Nat.add_assoc,Nat.reduceAdd,aT.load,j2,lp,k4,cC,reduceIte,cI,Nat.reduceAdd];exact no
   have k4:((300:Int)<(z.p.d.size:Int))=False:=eq_false (by omega);simp only[i1,dI.f4,cZ.load,P.l,ln,k3,j1,cL.f1,bX.f3,Nat.add_assoc,Nat.reduceAdd,aT.load,j2,lp,k4,gm,cC,reduceIte,cI,Nat.reduceAdd];exact⟨⟨m+1,by omega,rfl,by first|rfl|trivial⟩,by simp[fT,w2];omega⟩
  ·have k3:((m:Int)<(y.1.l.length:Int))=False:=eq_false (by omega);simp only[i1,dI.f4,cZ.load,P.l,ln,k3,gi,cC,reduceIte,cI,Nat.reduceAdd];refine⟨⟨i+1,by omega,rfl,by first|rfl|trivial,λz hz=>?_⟩,by simp[fT,v1];omega⟩;rw[zLR,hx] at hz;rcases tK.1 hz with hz|hz
   ·exact hy z hz
   ·simp only[Option.toList_some,iC] at hz;subst hz;exact⟨by omega,by omega⟩
 ·have g6:((i:Int)<(L.length:Int))=False:=eq_false (by omega);rw[sK (by omega)] at hy;simp only[ll,g6,cC,reduceIte,cI,Nat.reduceAdd];exact hk true λ_=>⟨by omega,by omega,by omega,by omega,by omega,hy⟩
def aOB(size:Nat)(x:(Nat×Tx)×(Bool×Int))(r:List ((Nat×Tx)×(Bool×Int)))(t:Bool)(st:List Tx):
  uG size (x::r) t st=if x.2.1=false then uG size r t st else if 0<x.2.2∧x.2.2<size∧t=false then uG size r true (st.set x.1.1 (x.1.2.take x.2.2.toNat++(st.getD x.1.1 []).drop x.2.2.toNat)) else uG size r t (st.set x.1.1 x.1.2):=rfl
def wrw.isC(w:Bool×Int):∀v∈wrw w,fL v=true:=by simp[wrw,fL]
def aSz{h:PH}{v:Value}{l:List (Bool×Int)}(S:CSl h v l){i:Nat}{y:Bool×Int}(hy:l[i]? =some y):
  ∃b o,cB PG (indexAt gG v (.int .i64 (i:Int)))=some (pT b o)∧cD PG h (loadAt eX (pT b o))=some (.agg (wrw y).toArray)∧cV h ⟨b,o,none⟩=some (.bool y.1)∧cV h ⟨b,o+1,none⟩=some (.int .i64 y.2):=by
 obtain⟨b,o,h1,h2,h3⟩:=S.fields gG.und eX.info eX.size (k:=.i64) (j:=i) (r:=wrw y) (by rw[wG,hy];rfl);exact⟨b,o,h1,h3 _ eX.und rfl,h2 0 _ rfl,h2 1 _ rfl⟩
def aT7{α β:Type}{l:List α}{m:List β}{i:Nat}{x:α}{y:β}(hx:l[i]? =some x)(hy:m[i]? =some y):(l.zip m).drop i=(x,y)::(l.zip m).drop (i+1):=by
 have hz:(l.zip m)[i]? =some (x,y):=by rw[List.getElem?_zip_eq_some];exact⟨hx,hy⟩
 obtain⟨hl,e⟩:=zLA.1 hz;rw[aAs hl,e]
def aVT{F:List Nat}{h h1:PH}{r:Nat}(w:cX F h h1)(n:r∉F)(hr:h1 r=none):h r=none:=by
 cases e:h r with
 | none=>rfl
 | some o=>rw[w r o e n] at hr;cases hr
def aUi{F:List Nat}{h h1 h2:PH}{r:Nat}(w:cX F h h1)(u:cX [r] h1 h2)(hr:h r=none):cX F h h2:=by
 have a:cX (r::F) h h1:=w.mono λb hb=>.inl (aHC r hb);have c:cX (r::F) h1 h2:=u.mono λb hb=>.inl (by simp only[iC] at hb;simp[hb]);refine(a.trans c).mono λb hb=>?_;rcases iW.1 hb with rfl|hb
 ·exact .inr hr
 ·exact .inl hb
def aMV{h:PH}{a:Nat}{d:Dk}{F:List Nat}{vw:Value}{l:List (Bool×Int)}(D:oQ a d h F)(S:∀h',cX F h h'->CSl h' vw l)(hb:d.buf.length≤1000000){k:cE}(hk:∀h' F',oQ a (d.crash l) h' F'->eA h F h' F'->k (.tuple #[]) h'):bT PG vI #[pT a 0,vw] h k:=by
 apply wC.call;unfold wC;have hok:=D.ok.crash l;have hz:=D.ok.size;obtain⟨sv,bv,Fs,Fb,eF,B,Z,W,n1,n2,n3⟩:=id D.here;have L:=DkB.of B;obtain⟨n,hn⟩:∃n,min l.length d.buf.length=n:=⟨_,rfl⟩;have em:(if (d.buf.length:Int)<(l.length:Int) then(d.buf.length:Int) else(l.length:Int))=(n:Int):=by split<;>omega
 obtain⟨v10,ec,-,-⟩:=W.slR.cut (t:=eK) (lo:=none) (hi:=some (.int .i64 (n:Int))) (l:=0) (m:=n) eK.und dX.info dX.size (.inl ⟨rfl,rfl⟩) (.inr ⟨_,rfl⟩) (by omega) (by rw[iL];omega);have cut:∀{h':PH},eH h' dX 2 bv (d.buf.map sI) Fb->iH h' 2 v10 ((d.buf.take n).map sI):=fun {h'} W'=>by
  obtain⟨v',ec',S',-⟩:=W'.slR.cut (t:=eK) (lo:=none) (hi:=some (.int .i64 (n:Int))) (l:=0) (m:=n) eK.und dX.info dX.size (.inl ⟨rfl,rfl⟩) (.inr ⟨_,rfl⟩) (by omega) (by rw[iL];omega);rw[ec] at ec';cases ec';rw[zLb,←List.map_take] at S';exact S'
 have le0:=aM5 (cut W);have lt0:(d.buf.take n).length=n:=by rw[lU];omega
 rw[lt0] at le0;simp only[dW.f2,eK.load,L.buf,aNh (S h cX.refl),aM5 W.slR,aLW,em,ec,le0,cC,reduceIte,cI,Nat.reduceAdd];refine⟨λvs h'=>∃(i:Nat) (t:Bool) (st:List Tx),i≤n∧vs=[pT a 0,vw,.bool t,v10,.int .i64 (n:Int),.int .i64 (i:Int)]∧eH h' aT 1 sv (st.map jI) Fs∧cX Fs h h'∧st.length=d.sectors∧(∀s∈st,s.length=d.size)∧uG d.size ((d.buf.zip l).drop i) t st=(d.crash l).st,fT n 5,⟨0,false,d.st,by omega,rfl,Z,cX.refl,D.ok.len,D.ok.each,rfl⟩,?_⟩;rintro ρ h' ⟨i,t,st,hi,hvs,Z2,w,hl,he,hcr⟩;simp only[iG,jB,kZ,and_true] at hvs;obtain⟨x0,x1,x4,x20,x21,x22⟩:=hvs;unfold aF2;rw[x0,x1,x4,x20,x21,x22];have wF:cX F h h':=w.mono λb hb=>.inl (by rw[eF];simp[hb]);have B2:=B.upd w n1;have W2:=W.upd w (λb hb hm=>n3 b hm hb);have S2:=S h' wF;by_cases hlt:i<n
 ·have g:((i:Int)<(n:Int))=True:=eq_true (by omega);have gi:=nR (i:=i) (by omega);obtain⟨x,hx⟩:∃x,d.buf[i]? =some x:=⟨_,kF (by omega)⟩;obtain⟨y,hy⟩:∃y,l[i]? =some y:=⟨_,kF (by omega)⟩;obtain⟨hx1,hx2⟩:=D.ok.buf x (zX hx);rw[aT7 hx hy,aOB] at hcr;obtain⟨p,i1,i2⟩:=aSv (cut W2) (w:=x) (i:=i) (by rw[aDn,if_pos hlt];exact hx);simp only[g,i1,i2,cC,reduceIte,cI,Nat.reduceAdd];intro r17 hr17
  try rw[cR]
  refine dX.fill (vs:=sI x) hr17 rfl (sI.isC x) λh3 B3 u3=>?_;obtain⟨b,o,j1,j2,-⟩:=aSz (S2.ext u3) hy;simp only[j1,j2,cC,reduceIte,cI,Nat.reduceAdd];intro r23 hr23
  try rw[cR]
  refine eX.fill (vs:=wrw y) hr23 rfl (wrw.isC y) λh4 B4 u4=>?_;have w4:cX Fs h h4:=(w.trans u3.upd).trans u4.upd;have Z4:=(Z2.ext u3).ext u4;have B3:=B3.ext u4;have A4:=(B2.ext u3).ext u4;have ne:r17∉Fs:=λhm=>Z2.known r17 hm hr17;have na:r17≠a:=λe=>B2.known (by rw[←e];exact hr17);have d0:cV h4 ⟨r23,0,none⟩=some (.bool y.1):=B4.cell 0;have d1:cV h4 ⟨r23,0+1,none⟩=some (.int .i64 y.2):=B4.cell 1;have hgl:x.1<st.length:=by omega
  -- what is behind: the sector is set
  have put:∀(t':Bool) (s:Tx) (h5:PH),Bx h5 r17 [.int .i64 (x.1:Int),.string (tx s)]->eH h5 aT 1 sv (st.map jI) Fs->Bx h5 a [.int .i64 (d.size:Int),.int .i64 (d.sectors:Int),sv,bv,.int .i64 (d.arm:Int)]->cX Fs h h5->s.length=d.size->uG d.size ((d.buf.zip l).drop (i+1)) t' (st.set x.1 s)=(d.crash l).st->
    ∀n12:List Value->PH->Prop,(∀h6 (st':List Tx),eH h6 aT 1 sv (st'.map jI) Fs->cX Fs h h6->st'.length=d.sectors->(∀s∈st',s.length=d.size)->uG d.size ((d.buf.zip l).drop (i+1)) t' st'=(d.crash l).st->n12 [pT a 0,vw,.bool t',v10,.int .i64 (n:Int),.int .i64 ((i+1:Nat):Int)] h6)->
    tW k n12 (pT a 0) vw (.bool t') (pT r17 0) v10 (.int .i64 (n:Int)) (.int .i64 (i:Int)) h5:=by
   intro t' s h5 B5 Z5 A5 w5 hs hc n12 hk12;unfold tW;have cs:cV h5 ⟨a,0+2,none⟩=some sv:=A5.cell 2;have e0:cV h5 ⟨r17,0,none⟩=some (.int .i64 (x.1:Int)):=B5.cell 0;have e1:cV h5 ⟨r17,0+1,none⟩=some (.string (tx s)):=B5.cell 1;have hxm:x.1<(st.map jI).length:=by rw[iL];exact hgl
   obtain⟨b,o,m1,m2⟩:=aNs Z5 hxm (x:=.string (tx s)) rfl;simp only[dW.f1,dD.load,cs,dX.f0,dX.f1,aR.load,aT.load,e0,e1,m1,cC,reduceIte,cI,Nat.reduceAdd];refine m2 λh6 Z6 u6=>?_;simp only[zA,aCU,gi,cC,reduceIte,cI,Nat.reduceAdd];rw[aKy] at Z6;refine hk12 h6 _ Z6 (w5.trans u6) (by rw[List.length_set];exact hl) (λz hz=>?_) hc;rcases List.mem_or_eq_of_mem_set hz with e|e
   ·exact he z e
   ·rw[e];exact hs
  have done:∀(t':Bool) h6 (st':List Tx),eH h6 aT 1 sv (st'.map jI) Fs->cX Fs h h6->st'.length=d.sectors->(∀s∈st',s.length=d.size)->uG d.size ((d.buf.zip l).drop (i+1)) t' st'=(d.crash l).st->
    (∃(i':Nat) (t:Bool) (st:List Tx),i'≤n∧[pT a 0,vw,.bool t',v10,.int .i64 (n:Int),.int .i64 ((i+1:Nat):Int)]=[pT a 0,vw,.bool t,v10,.int .i64 (n:Int),.int .i64 (i':Int)]∧eH h6 aT 1 sv (st.map jI) Fs∧cX Fs h h6∧st.length=d.sectors∧(∀s∈st,s.length=d.size)∧uG d.size ((d.buf.zip l).drop i') t st=(d.crash l).st):=λt' h6 st' a1 a2 a3 a4 a5=>⟨i+1,t',st',by omega,rfl,a1,a2,a3,a4,a5⟩
  cases y1:y.1 with
  | false=>
   rw[if_pos (by exact y1)] at hcr;rw[y1] at d0;simp only[eX.f0,gR.load,d0,zA,aCU,gi,cC,reduceIte,cI,Nat.reduceAdd];exact⟨done t h4 st Z4 w4 hl he hcr,by simp[fT,x22];omega⟩
  | true=>
   rw[if_neg (by show ¬y.1=false;rw[y1];decide)] at hcr;rw[y1] at d0;have as0:cV h4 ⟨a,0,none⟩=some (.int .i64 (d.size:Int)):=A4.cell 0;have mA:¬(0<y.2∧y.2<(d.size:Int)∧t=false)->∀n12:List Value->PH->Prop,(∀t' h6 (st':List Tx),eH h6 aT 1 sv (st'.map jI) Fs->cX Fs h h6->st'.length=d.sectors->(∀s∈st',s.length=d.size)->uG d.size ((d.buf.zip l).drop (i+1)) t' st'=(d.crash l).st->n12 [pT a 0,vw,.bool t',v10,.int .i64 (n:Int),.int .i64 ((i+1:Nat):Int)] h6)->
     tW k n12 (pT a 0) vw (.bool t) (pT r17 0) v10 (.int .i64 (n:Int)) (.int .i64 (i:Int)) h4:=λhc n12 hn=>by
    rw[if_neg hc] at hcr;exact put t x.2 h4 B3 Z4 A4 w4 hx2 hcr n12 (hn t)
   by_cases c1:0<y.2
   ·have g1:((0:Int)<y.2)=True:=eq_true c1;by_cases c2:y.2<(d.size:Int)
    ·have g2:(y.2<(d.size:Int))=True:=eq_true c2;cases t with
     | true=>
      simp only[eX.f0,eX.f1,gR.load,aR.load,d0,d1,g1,dW.f0,dZ.f0,as0,g2,cC,reduceIte,cI,Nat.reduceAdd];exact mA (by simp) _ λt' h6 st' a1 a2 a3 a4 a5=>⟨done t' h6 st' a1 a2 a3 a4 a5,by simp[fT,x22];omega⟩
     | false=>
      rw[if_pos ⟨c1,c2,rfl⟩] at hcr;obtain⟨m,hm⟩:∃m:Nat,y.2=(m:Int):=⟨y.2.toNat,by omega⟩;rw[hm] at d1 g1 g2;have hcr:uG d.size ((d.buf.zip l).drop (i+1)) true (st.set x.1 (x.2.take m++(st.getD x.1 []).drop m))=(d.crash l).st:=by
       have e:y.2.toNat=m:=by omega
       rw[←e];exact hcr
      have hz2:=hz.2;obtain⟨z,hzz⟩:∃z,st[x.1]? =some z:=⟨_,kF hgl⟩;have ez:st.getD x.1 []=z:=by rw[sQ,hzz];rfl
      rw[ez] at hcr;have hzl:z.length=d.size:=he z (zX hzz);obtain⟨p2,t1,t2⟩:=aJB Z4.slR hzz;have e0:cV h4 ⟨r17,0,none⟩=some (.int .i64 (x.1:Int)):=B3.cell 0;have e1:cV h4 ⟨r17,0+1,none⟩=some (.string (tx x.2)):=B3.cell 1;have cs:cV h4 ⟨a,0+2,none⟩=some sv:=A4.cell 2;have k1:cB PG (Instr.sliceAt aT (.string (tx x.2)) none (some (.int .i64 (m:Int))) none)=some (.string (tx (x.2.take m))):=by
       have:=kD (P:=PG) (t:=aT) (l:=x.2) (i:=0) (j:=m) (lo:=none) (hi:=some (.int .i64 (m:Int))) aT.und (.inl ⟨rfl,rfl⟩) (.inr ⟨_,rfl⟩) (by omega) (by omega);rw[this,zLb]
      have k2:cB PG (Instr.sliceAt aT (.string (tx z)) (some (.int .i64 (m:Int))) none none)=some (.string (tx (z.drop m))):=by
       have:=kD (P:=PG) (t:=aT) (l:=z) (i:=m) (j:=z.length) (lo:=some (.int .i64 (m:Int))) (hi:=none) aT.und (.inr ⟨_,rfl⟩) (.inl ⟨rfl,rfl⟩) (by omega) (by omega);rw[this,zLJ]
      have a1:cB PG (binOp .add aT (.string (tx (x.2.take m))) (.string (tx (z.drop m))))=some (.string (tx (x.2.take m++z.drop m))):=jW (by rw[lU,jC];omega);simp only[eX.f0,eX.f1,gR.load,aR.load,d0,d1,g1,dW.f0,dZ.f0,as0,g2,dX.f0,dX.f1,dW.f1,dD.load,aT.load,e0,e1,cs,k1,t1,t2,k2,a1,cC,reduceIte,cI,Nat.reduceAdd];refine aT.put B3 (o:=1) (by show 1<2;decide) rfl λh5 B5 u5=>?_;have B5:Bx h5 r17 [.int .i64 (x.1:Int),.string (tx (x.2.take m++z.drop m))]:=B5;have r0:h r17=none:=aVT w ne hr17;refine put true (x.2.take m++z.drop m) h5 B5 (Z4.upd u5 (λb hb hm=>?_)) (A4.upd u5 (by simp only[iC];exact λe=>na e.symm)) (aUi w4 u5 r0) ?_ hcr _ λh6 st' a1 a2 a3 a4 a5=>⟨done true h6 st' a1 a2 a3 a4 a5,by simp[fT,x22];omega⟩
      ·simp only[iC] at hm;exact ne (hm▸hb)
      ·rw[jM,lU,jC];omega
    ·have g2:(y.2<(d.size:Int))=False:=eq_false c2;simp only[eX.f0,eX.f1,gR.load,aR.load,d0,d1,g1,dW.f0,dZ.f0,as0,g2,cC,reduceIte,cI,Nat.reduceAdd];exact mA (λx=>c2 x.2.1) _ λt' h6 st' a1 a2 a3 a4 a5=>⟨done t' h6 st' a1 a2 a3 a4 a5,by simp[fT,x22];omega⟩
   ·have g1:((0:Int)<y.2)=False:=eq_false c1;simp only[eX.f0,eX.f1,gR.load,aR.load,d0,d1,g1,cC,reduceIte,cI,Nat.reduceAdd];exact mA (λx=>c1 x.1) _ λt' h6 st' a1 a2 a3 a4 a5=>⟨done t' h6 st' a1 a2 a3 a4 a5,by simp[fT,x22];omega⟩
 ·have g:((i:Int)<(n:Int))=False:=eq_false (by omega);have ez:(d.buf.zip l).drop i=[]:=yQ (by rw[List.length_zip];omega);rw[ez] at hcr;have hcr:st=(d.crash l).st:=hcr;rw[hcr] at Z2;simp only[g,dW.f2,cC,reduceIte,cI,Nat.reduceAdd];refine eK.put B2 (o:=3) (by show 3<5;decide) rfl λh3 B3 u3=>?_;simp only[dW.f3,cC,reduceIte,cI,Nat.reduceAdd];refine aR.put B3 (o:=4) (by show 4<5;decide) rfl λh4 B4 u4=>?_;have B4:Bx h4 a [.int .i64 (d.size:Int),.int .i64 (d.sectors:Int),sv,.slice none 0 0,.int .i64 ((0:Nat):Int)]:=B4;have u34:=u3.trans u4;refine hk h4 (a::(Fs++[])) ⟨⟨sv,.slice none 0 0,Fs,[],rfl,B4,Z2.upd u34 (λb hb hm=>?_),eH.nil,n1,by simp,by simp⟩,hok,by show 0<_;decide⟩ ⟨?_,λb hb=>?_⟩
  ·simp only[iC] at hm;exact n1 (hm▸hb)
  ·rw[eF];exact(w.mono λb hb=>.inl (by simp[hb])).trans (u34.mono λb hb=>.inl (by simp only[iC] at hb;simp[hb]))
  ·rw[eF];simp only[zLQ,iW,tK] at hb ⊢;rcases hb with rfl|hb
   ·exact .inl (.inl rfl)
   ·exact .inl (.inr (.inl hb))
structure DCr(h h':PH)(r:Nat)(d:Dk)(bv:Value)(l:List (Bool×Int))(i:Nat)(t:Bool):Prop where
 here:∃st:List Tx,Bx h' r [.int .i64 (d.size:Int),.int .i64 (d.sectors:Int),.string (tx st.flatten),bv,.int .i64 (d.arm:Int)]∧cX [r] h h'∧st.length=d.sectors∧(∀s∈st,s.length=d.size)∧uG d.size ((d.buf.zip l).drop i) t st=(d.crash l).st
def aTG{h:PH}{r:Nat}{d:Dk}{F:List Nat}{vw:Value}{l:List (Bool×Int)}(D:oF r d h F)(S:∀h',cX F h h'->CSl h' vw l)(hb:d.buf.length≤1000000){k:cE}(hk:∀h' F',oF r (d.crash l) h' F'->eA h F h' F'->k (.tuple #[]) h'):bT PG wZ #[pT r 0,vw] h k:=by
 apply nY.call;unfold nY;have hok:=D.ok.crash l;have hz:=D.ok.size;have hmany:=D.ok.many;have hz1:=hz.1;have hz2:=hz.2;obtain⟨bv,Fb,eF,B,W,n1⟩:=id D.here;refine⟨λvs h'=>∃(i:Nat) (t:Bool),i≤d.buf.length∧i≤l.length∧vs=[pT r 0,vw,.bool t,.int .i64 (i:Int)]∧DCr h h' r d bv l i t,fT d.buf.length 3,⟨0,false,by omega,by omega,rfl,⟨d.st,B,cX.refl,D.ok.len,D.ok.each,rfl⟩⟩,?_⟩;rintro ρ h' ⟨i,t,hi,hi2,hvs,⟨st,B2,w,hl,he,hcr⟩⟩;simp only[iG,jB,kZ,and_true] at hvs;obtain⟨x0,x1,x4,x5⟩:=hvs;unfold aCL;rw[x0,x1,x4,x5];have wF:cX F h h':=w.mono λb hb=>.inl (by rw[eF];simp only[iC] at hb;simp[hb]);have W2:=W.upd w (λb hb hm=>by simp only[iC] at hm;exact n1 (hm▸hb));have S2:=S h' wF;have b3:cV h' ⟨r,0+3,none⟩=some bv:=B2.cell 3;have b0:cV h' ⟨r,0,none⟩=some (.int .i64 (d.size:Int)):=B2.cell 0;have ll:=aNh S2;have lb:=aMp W2.slR;by_cases hlt:i<d.buf.length∧i<l.length
 ·have g:((i:Int)<(d.buf.length:Int))=True:=eq_true (by omega);have g':((i:Int)<(l.length:Int))=True:=eq_true (by omega);have gi:=nR (i:=i) (by omega);obtain⟨x,hx⟩:∃x,d.buf[i]? =some x:=⟨_,kF hlt.1⟩;obtain⟨y,hy⟩:∃y,l[i]? =some y:=⟨_,kF hlt.2⟩;obtain⟨hx1,hx2⟩:=D.ok.buf x (zX hx);rw[aT7 hx hy,aOB] at hcr;obtain⟨p,o,i1,i2,i3⟩:=aRq W2.slR hx;obtain⟨p',o',j1,-,j2,j3⟩:=aSz S2 hy;have hgl:x.1<st.length:=by omega
  have hzl:(st.getD x.1 []).length=d.size:=he _ (aJv hgl);have put:∀(t':Bool) (s:Tx),s.length≤d.size->uG d.size ((d.buf.zip l).drop (i+1)) t' (st.set x.1 (s++(st.getD x.1 []).drop s.length))=(d.crash l).st->
    ∀n1:List Value->PH->Prop,(∀h6,DCr h h6 r d bv l (i+1) t'->n1 [pT r 0,vw,.bool t',.int .i64 ((i+1:Nat):Int)] h6)->
    nK k n1 (pT r 0) vw (.bool t') (.int .i64 (i:Int)) (.string (tx s)) h':=by
   intro t' s hs hc n1 hn;unfold nK;simp only[cO.f3,cT.load,b3,i1,dQ.f0,aR.load,i2,cC,reduceIte,cI,Nat.reduceAdd];refine aRA B2 he hgl hs hz.2 (by omega) λh6 B6 u6=>?_;simp only[qB,uM,gi,cC,reduceIte,cI,Nat.reduceAdd];refine hn h6 ⟨_,B6,w.trans u6,by rw[List.length_set];exact hl,λz hz=>?_,hc⟩;rcases List.mem_or_eq_of_mem_set hz with e|e
   ·exact he z e
   ·rw[e,jM,jC,hzl];omega
  have done:∀(t':Bool) h6,DCr h h6 r d bv l (i+1) t'->(∃(i':Nat) (t:Bool),i'≤d.buf.length∧i'≤l.length∧[pT r 0,vw,.bool t',.int .i64 ((i+1:Nat):Int)]=[pT r 0,vw,.bool t,.int .i64 (i':Int)]∧DCr h h6 r d bv l i' t):=λt' h6 D=>⟨i+1,t',by omega,by omega,rfl,D⟩;have full:x.2++(st.getD x.1 []).drop x.2.length=x.2:=by rw[yQ (by omega),zLQ]
  cases y1:y.1 with
  | false=>
   rw[if_pos (by exact y1)] at hcr;rw[y1] at j2;simp only[cO.f3,cT.load,b3,lb,g,ll,g',i1,dQ.f1,aT.load,i3,j1,eX.f0,gR.load,j2,qB,uM,gi,cC,reduceIte,cI,Nat.reduceAdd];exact⟨done t h' ⟨st,B2,w,hl,he,hcr⟩,by simp[fT,x5];omega⟩
  | true=>
   rw[if_neg (by show ¬y.1=false;rw[y1];decide)] at hcr;rw[y1] at j2;have mA:¬(0<y.2∧y.2<(d.size:Int)∧t=false)->∀n1:List Value->PH->Prop,(∀t' h6,DCr h h6 r d bv l (i+1) t'->n1 [pT r 0,vw,.bool t',.int .i64 ((i+1:Nat):Int)] h6)->
     nK k n1 (pT r 0) vw (.bool t) (.int .i64 (i:Int)) (.string (tx x.2)) h':=λhc n1 hn=>by
    rw[if_neg hc] at hcr;exact put t x.2 (by omega) (by rw[full];exact hcr) n1 (hn t)
   have ws:IntKind.i64.wrap ((d.size:Int)-1)=(d.size:Int)-1:=eB (by omega) (by omega);cases t with
   | true=>
    simp only[cO.f3,cT.load,b3,lb,g,ll,g',i1,dQ.f1,aT.load,i3,j1,eX.f0,gR.load,j2,cC,reduceIte,cI,Nat.reduceAdd];exact mA (by simp) _ λt' h6 a=>⟨done t' h6 a,by simp[fT,x5];omega⟩
   | false=>
    by_cases c1:0<y.2
    ·have g1:((1:Int)≤y.2)=True:=eq_true (by omega);by_cases c2:y.2<(d.size:Int)
     ·have g2:(y.2≤(d.size:Int)-1)=True:=eq_true (by omega);rw[if_pos ⟨c1,c2,rfl⟩] at hcr;obtain⟨m,hm⟩:∃m:Nat,y.2=(m:Int):=⟨y.2.toNat,by omega⟩;have em:y.2.toNat=m:=by omega
      rw[hm] at j3 g1 g2;have hml:(x.2.take m).length=m:=by rw[lU];omega
      have hcr:uG d.size ((d.buf.zip l).drop (i+1)) true (st.set x.1 (x.2.take m++(st.getD x.1 []).drop (x.2.take m).length))=(d.crash l).st:=by
       rw[hml,←em];exact hcr
      have k1:cB PG (Instr.sliceAt aT (.string (tx x.2)) none (some (.int .i64 (m:Int))) none)=some (.string (tx (x.2.take m))):=by
       have:=kD (P:=PG) (t:=aT) (l:=x.2) (i:=0) (j:=m) (lo:=none) (hi:=some (.int .i64 (m:Int))) aT.und (.inl ⟨rfl,rfl⟩) (.inr ⟨_,rfl⟩) (by omega) (by omega);rw[this,zLb]
      simp only[cO.f0,cO.f3,cT.load,b0,b3,lb,g,ll,g',i1,dQ.f1,aT.load,i3,j1,eX.f0,eX.f1,gR.load,aR.load,j2,j3,g1,ws,g2,k1,cC,reduceIte,cI,Nat.reduceAdd];exact put true (x.2.take m) (by omega) hcr _ λh6 a=>⟨done true h6 a,by simp[fT,x5];omega⟩
     ·have g2:(y.2≤(d.size:Int)-1)=False:=eq_false (by omega);simp only[cO.f0,cO.f3,cT.load,b0,b3,lb,g,ll,g',i1,dQ.f1,aT.load,i3,j1,eX.f0,eX.f1,gR.load,aR.load,j2,j3,g1,ws,g2,cC,reduceIte,cI,Nat.reduceAdd];exact mA (λx=>c2 x.2.1) _ λt' h6 a=>⟨done t' h6 a,by simp[fT,x5];omega⟩
    ·have g1:((1:Int)≤y.2)=False:=eq_false (by omega);simp only[cO.f3,cT.load,b3,lb,g,ll,g',i1,dQ.f1,aT.load,i3,j1,eX.f0,eX.f1,gR.load,aR.load,j2,j3,g1,cC,reduceIte,cI,Nat.reduceAdd];exact mA (λx=>c1 x.1) _ λt' h6 a=>⟨done t' h6 a,by simp[fT,x5];omega⟩
 ·have ez:(d.buf.zip l).drop i=[]:=yQ (by rw[List.length_zip];omega);rw[ez] at hcr;have hcr:st=(d.crash l).st:=hcr;rw[hcr] at B2;have fin:∀h3,Bx h3 r [.int .i64 (d.size:Int),.int .i64 (d.sectors:Int),.string (tx (d.crash l).st.flatten),.slice none 0 0,.int .i64 0]->cX [r] h' h3->k (.tuple #[]) h3:=λh3 B3 u3=>by
   refine hk h3 [r] ⟨⟨.slice none 0 0,[],rfl,B3,eH.nil,by simp⟩,hok,by show 0<_;decide⟩ ⟨?_,λb hb=>?_⟩
   ·rw[eF];exact(w.trans u3).mono λb hb=>.inl (by simp only[iC] at hb;simp[hb])
   ·simp only[iC] at hb;exact .inl (by rw[eF];simp[hb])
  by_cases c:i<d.buf.length
  ·have g:((i:Int)<(d.buf.length:Int))=True:=eq_true (by omega);have g':((i:Int)<(l.length:Int))=False:=eq_false (by omega);simp only[cO.f3,cT.load,b3,lb,g,ll,g',cC,reduceIte,cI,Nat.reduceAdd];refine cT.put B2 (o:=3) (by show 3<5;decide) rfl λh3 B3 u3=>?_;simp only[cO.f4,cC,reduceIte,cI,Nat.reduceAdd];exact aR.put B3 (o:=4) (by show 4<5;decide) rfl λh4 B4 u4=>fin h4 B4 (u3.trans u4)
  ·have g:((i:Int)<(d.buf.length:Int))=False:=eq_false (by omega);simp only[cO.f3,cT.load,b3,lb,g,cC,reduceIte,cI,Nat.reduceAdd];refine cT.put B2 (o:=3) (by show 3<5;decide) rfl λh3 B3 u3=>?_;simp only[cO.f4,cC,reduceIte,cI,Nat.reduceAdd];exact aR.put B3 (o:=4) (by show 4<5;decide) rfl λh4 B4 u4=>fin h4 B4 (u3.trans u4)
def xY.swap{a w:Nat}{d:Dk}{x:Wl}{h:PH}{F:List Nat}(H:xY a w d x h F):∃Fd,oQ a d h Fd∧(∀b∈Fd,b∈F)∧∀d' h' Fd',oQ a d' h' Fd'->eA h Fd h' Fd'->d'.sectors=d.sectors->∃F',xY a w d' x h' F'∧eA h F h' F':=by
 obtain⟨Fd,rfl,B,D,n⟩:=H.here;refine⟨Fd,D,λb hb=>aHC _ hb,λd' h' Fd' D' s e=>?_⟩;obtain⟨B',n'⟩:=B.step s n;exact⟨w::Fd',⟨⟨Fd',rfl,B',D',n'⟩,H.ok.to D'.ok e,H.ser,H.gen⟩,eA.app [w] s⟩
def WoA.swap{a w:Nat}{d:Dk}{x:Wl}{h:PH}{F:List Nat}(H:WoA a w d x h F):∃Fd,oF a d h Fd∧(∀b∈Fd,b∈F)∧∀d' h' Fd',oF a d' h' Fd'->eA h Fd h' Fd'->d'.sectors=d.sectors->∃F',WoA a w d' x h' F'∧eA h F h' F':=by
 obtain⟨Fd,rfl,B,D,n⟩:=H.here;refine⟨Fd,D,λb hb=>aHC _ hb,λd' h' Fd' D' s e=>?_⟩;obtain⟨B',n'⟩:=B.step s n;exact⟨w::Fd',⟨⟨Fd',rfl,B',D',n'⟩,H.ok.to D'.ok e,H.ser,H.gen⟩,eA.app [w] s⟩
def wQ.swap{a w j:Nat}{d:Dk}{x:Jn}{h:PH}{F:List Nat}(H:wQ a w j d x h F):∃Fd,oQ a d h Fd∧(∀b∈Fd,b∈F)∧∀d' h' Fd',oQ a d' h' Fd'->eA h Fd h' Fd'->d'.sectors=d.sectors->∃F',wQ a w j d' x h' F'∧eA h F h' F':=by
 obtain⟨Fw,iv,rfl,B,W,S,n1,n2,n3⟩:=H.here;obtain⟨Fd,D,hF,sw⟩:=W.swap;refine⟨Fd,D,λb hb=>by simp[hF b hb],λd' h' Fd' D' s e=>?_⟩;obtain⟨Fw',W',s'⟩:=sw d' h' Fd' D' s e;obtain⟨B',n1'⟩:=B.step s' n1;obtain⟨S',n3'⟩:=aBw S s' n3;exact⟨j::(mE iv x.s.its.length++Fw'),⟨⟨Fw',iv,rfl,B',W',S',n1',n2,n3'⟩,H.ok,H.wf⟩,eA.app [j] (eA.app _ s')⟩
def JoA.swap{a w j:Nat}{d:Dk}{x:Jn}{h:PH}{F:List Nat}(H:JoA a w j d x h F):∃Fd,oF a d h Fd∧(∀b∈Fd,b∈F)∧∀d' h' Fd',oF a d' h' Fd'->eA h Fd h' Fd'->d'.sectors=d.sectors->∃F',JoA a w j d' x h' F'∧eA h F h' F':=by
 obtain⟨Fw,iv,rfl,B,W,S,n1,n2,n3⟩:=H.here;obtain⟨Fd,D,hF,sw⟩:=W.swap;refine⟨Fd,D,λb hb=>by simp[hF b hb],λd' h' Fd' D' s e=>?_⟩;obtain⟨Fw',W',s'⟩:=sw d' h' Fd' D' s e;obtain⟨B',n1'⟩:=B.step s' n1;obtain⟨S',n3'⟩:=aBw S s' n3;exact⟨j::(mE iv x.s.its.length++Fw'),⟨⟨Fw',iv,rfl,B',W',S',n1',n2,n3'⟩,H.ok,H.wf⟩,eA.app [j] (eA.app _ s')⟩
def PrA.swap{a:Nat}{d:Dk}{jp:JP}{h:PH}{F:List Nat}(H:PrA a d jp h F):∃Fd,oQ a d h Fd∧(∀b∈Fd,b∈F)∧∀d' h' Fd',oQ a d' h' Fd'->eA h Fd h' Fd'->d'.sectors=d.sectors->∃F',PrA a d' jp h' F'∧eA h F h' F':=by
 cases jp with
 | none=>exact⟨F,H,λb hb=>hb,λd' h' Fd' D' s _=>⟨Fd',D',s⟩⟩
 | some t=>obtain⟨w,j,x⟩:=t;exact wQ.swap H
def DpA.swap{a:Nat}{d:Dk}{jp:JP}{h:PH}{F:List Nat}(H:DpA a d jp h F):∃Fd,oF a d h Fd∧(∀b∈Fd,b∈F)∧∀d' h' Fd',oF a d' h' Fd'->eA h Fd h' Fd'->d'.sectors=d.sectors->∃F',DpA a d' jp h' F'∧eA h F h' F':=by
 cases jp with
 | none=>exact⟨F,H,λb hb=>hb,λd' h' Fd' D' s _=>⟨Fd',D',s⟩⟩
 | some t=>obtain⟨w,j,x⟩:=t;exact JoA.swap H
def kR.swapP{r a m:Nat}{d d2:Dk}{jp vp:JP}{e room:Int}{p q:Pl}{h:PH}{F:List Nat}(H:kR r a m d jp e d2 vp room p q h F):∃Fd,oQ a d h Fd∧(∀b∈Fd,b∈F)∧∀d' h' Fd',oQ a d' h' Fd'->eA h Fd h' Fd'->d'.sectors=d.sectors->∃F',kR r a m d' jp e d2 vp room p q h' F'∧eA h F h' F':=by
 obtain⟨Fa,Fm,rfl,B,P,D,n1,n2,n3⟩:=H.here;obtain⟨Fd,Dk,hF,sw⟩:=P.swap;refine⟨Fd,Dk,λb hb=>by simp[hF b hb],λd' h' Fd' D' s eq=>?_⟩;obtain⟨Fa',P',s'⟩:=sw d' h' Fd' D' s eq;obtain⟨B1,D1,m1,m3⟩:=kR.prog (d:=d) (d':=d) (jp':=vp) (e':=e) B D n1 n2 n3 s';exact⟨r::(Fa'++Fm),⟨⟨Fa',Fm,rfl,B1,P',D1,m1,n2,m3⟩⟩,eA.app [r] (eA.appR Fm s')⟩
def kR.swapD{r a m:Nat}{d d2:Dk}{jp vp:JP}{e room:Int}{p q:Pl}{h:PH}{F:List Nat}(H:kR r a m d jp e d2 vp room p q h F):∃Fd,oF m d2 h Fd∧(∀b∈Fd,b∈F)∧∀d' h' Fd',oF m d' h' Fd'->eA h Fd h' Fd'->d'.sectors=d2.sectors->∃F',kR r a m d jp e d' vp room p q h' F'∧eA h F h' F':=by
 obtain⟨Fa,Fm,rfl,B,P,D,n1,n2,n3⟩:=H.here;obtain⟨Fd,Dk,hF,sw⟩:=D.swap;refine⟨Fd,Dk,λb hb=>by simp[hF b hb],λd' h' Fd' D' s eq=>?_⟩;obtain⟨Fm',D2,s'⟩:=sw d' h' Fd' D' s eq;obtain⟨B1,P1,m2,m3⟩:=kR.docu (d2:=d2) B P n1 n2 n3 s';exact⟨r::(Fa++Fm'),⟨⟨Fa,Fm',rfl,B1,P1,D2,n1,m2,m3⟩⟩,eA.app (r::Fa) s'⟩
def kR.dscan{r a m w j:Nat}{d d2:Dk}{x:Jn}{jp:JP}{e room:Int}{p q:Pl}{h:PH}{F:List Nat}(H:kR r a m d jp e d2 (some (w,j,x)) room p q h F){vn:Value}{ns:List Nt}(ch:Int)(qs:Pl)(hq:qs.wf)(N:wN h vn ns)(hn:∀y∈ns,y.p.wf)(hl:ns.length≤1000)(hb:d2.buf.length≤900000){k:cE}
  (hk:∀h' F',kR r a m d jp e (lS d2 x ch qs ns).1 (some (w,j,(lS d2 x ch qs ns).2.1)) room p q h' F'->eA h F h' F'->k (.int .i64 (lS d2 x ch qs ns).2.2) h'):bT PG pU #[pT j 0,.int .i64 ch,.agg qs.cells.toArray,vn] h k:=by
 obtain⟨Fa,Fm,rfl,B,P,D,n1,n2,n3⟩:=H.here;have D:JoA m w j d2 x h Fm:=D;refine aTA D ch qs hq N hn hl hb λh1 F1 D1 s1=>?_;obtain⟨B1,P1,m2,m3⟩:=kR.docu (d2:=d2) B P n1 n2 n3 s1;exact hk h1 (r::(Fa++F1)) ⟨⟨Fa,F1,rfl,B1,P1,D1,n1,m2,m3⟩⟩ (eA.app (r::Fa) s1)
def kR.sete{r a m:Nat}{d d2:Dk}{jp vp:JP}{e room:Int}{p q:Pl}{h:PH}{F:List Nat}(H:kR r a m d jp e d2 vp room p q h F)(e':Int){k:cE}(hk:∀h',kR r a m d jp e' d2 vp room p q h' F->eA h F h' F->k undef h'):cN PG (cP dK (pT r (0+2)) (.int .i64 e')) h k:=by
 obtain⟨Fa,Fm,rfl,B,P,D,n1,n2,n3⟩:=H.here;refine dK.put B (o:=2) (by show 2<10;decide) rfl λh1 B1 u1=>?_;have B1:Bx h1 r (aCr a m jp e' vp room p q):=B1;exact hk h1 ⟨⟨Fa,Fm,rfl,B1,(PrA.good a d jp).upd P u1 (kN n1),(DpA.good m d2 vp).upd D u1 (kN n2),n1,n2,n3⟩⟩ (eA.of u1 (by simp))
def aUW(jp:JP):Option Jn:=jp.map λt=>t.2.2
structure aDO(r a m:Nat)(d:Dk)(jx:Option Jn)(room:Int)(p q:Pl)(h:PH)(F:List Nat):Prop where
 here:∃jp vp e,kR r a m d jp e d vp room p q h F∧aUW jp=jx∧aUW vp=jx
def aDO.ext{r a m:Nat}{d:Dk}{jx:Option Jn}{room:Int}{p q:Pl}{h h':PH}{F:List Nat}(H:aDO r a m d jx room p q h F)(u:dA h h'):aDO r a m d jx room p q h' F:=by
 obtain⟨jp,vp,e,P,e1,e2⟩:=H.here;exact⟨jp,vp,e,P.ext u,e1,e2⟩
def aCM.jx{A:Dk×Jn×Int}{jp:JP}(o:aCM A jp):aUW jp=if A.2.2=0 then some A.2.1 else none:=by
 by_cases c:A.2.2=0
 ·obtain⟨w,j,e⟩:=o.1 c;rw[e,if_pos c];rfl
 ·rw[o.2 c,if_neg c];rfl
def aMK{h:PH}{r a m:Nat}{d:Dk}{jx:Option Jn}{room:Int}{p q:Pl}{F:List Nat}(H:aDO r a m d jx room p q h F)(wp:p.wf)(wq:q.wf)(hs:d.sectors≤1000)(hb:d.buf.length≤800000){k:cE}
  (hk:∀h' F',aDO r a m (aCl room p q d).1 (aCl room p q d).2 room p q h' F'->eA h F h' F'->k (.bool true) h'):bT PG jR #[pT r 0] h k:=by
 obtain⟨jp,vp,e,P,-,-⟩:=H.here;refine aMM P wp wq hs hs hb hb λh1 F1 jp1 vp1 P1 s1 o1 o2=>?_;rw[decide_eq_true rfl];exact hk h1 F1 ⟨jp1,vp1,_,P1,o1.jx,o2.jx⟩ s1
def aW8{h:PH}{r a m:Nat}{d:Dk}{jx:Option Jn}{room:Int}{p q:Pl}{F:List Nat}(H:aDO r a m d jx room p q h F)(wp:p.wf)(wq:q.wf)(hs:d.sectors≤1000)(hb:d.buf.length≤700000)(y:JV)(N:∀h',cX F h h'->wN h' y.2.1 y.1.l)(C:∀h',cX F h h'->CSl h' y.2.2 y.1.w)(wf:y.1.wf)(hl:y.1.l.length≤1000){k:cE}
  (hk:∀h' F',aDO r a m (doJ room p q y.1 (d,jx)).1 (doJ room p q y.1 (d,jx)).2 room p q h' F'->eA h F h' F'->k (.bool true) h'):bT PG tO #[pT r 0,.agg (jrw y).toArray] h k:=by
 apply qC.call;unfold qC;obtain⟨x,vl,vw⟩:=y;have N:∀h',cX F h h'->wN h' vl x.l:=N;have C:∀h',cX F h h'->CSl h' vw x.w:=C;have wf:x.wf:=wf;have hl:x.l.length≤1000:=hl;obtain⟨la,ln,lc,rfl⟩:∃a n c,vl=Value.slice a n c:=by
  obtain⟨a,c,e,-⟩:=(N h cX.refl).here;exact⟨a,_,c,e⟩
 obtain⟨wa,wn,wc,rfl⟩:∃a n c,vw=Value.slice a n c:=by
  obtain⟨a,c,e,-⟩:=(C h cX.refl).here;exact⟨a,_,c,e⟩
 obtain⟨vl,hvl⟩:∃v,Value.slice la ln lc=v:=⟨_,rfl⟩;obtain⟨vw,hvw⟩:∃v,Value.slice wa wn wc=v:=⟨_,rfl⟩;intro r1 hr1
 try rw[cR]
 have nF:r1∉F:=λhm=>by
  obtain⟨_,_,_,P0,-⟩:=H.here;exact P0.known r1 hm hr1
 have u1:dA h (h.set r1 (.cells (Value.cells (.agg (jrw (x,Value.slice la ln lc,Value.slice wa wn wc)).toArray)) dI)):=cX.new hr1;have B1:Bx (h.set r1 (.cells (Value.cells (.agg (jrw (x,Value.slice la ln lc,Value.slice wa wn wc)).toArray)) dI)) r1 (jrw (x,Value.slice la ln lc,Value.slice wa wn wc)):=Bx.new;generalize h.set r1 (.cells (Value.cells (.agg (jrw (x,Value.slice la ln lc,Value.slice wa wn wc)).toArray)) dI)=h1 at *;rw[hvl] at N;rw[hvw] at C;rw[hvl,hvw] at B1;have H1:=H.ext u1;have c0:cV h1 ⟨r1,0,none⟩=some (.int .i64 x.k):=B1.cell 0;have hk:∀h' F',aDO r a m (doJ room p q x (d,jx)).1 (doJ room p q x (d,jx)).2 room p q h' F'->eA h F h' F'->k (.bool true) h':=hk;have st1:eA h F h1 F:=eA.ext u1;obtain⟨jp,vp,e,P,ej,ev⟩:=H1.here;have b1:=P.b;by_cases k0:x.k=0
 ·have q0:(x.k==0)=true:=by rw[k0];rfl
  unfold doJ at hk;rw[if_pos k0] at hk;cases jp with
  | none=>
   subst ej;have hk:=hk h1 F ⟨none,vp,e,P,rfl,ev⟩ st1;simp only[dI.f0,aR.load,c0,gA,q0,cW.f1,eR.load,b1.j,aK2,Option.isNone_none,cC,reduceIte,cI,Nat.reduceAdd];exact hk
  | some t=>
   obtain⟨w,j,xj⟩:=t;have ej:some xj=jx:=ej;subst ej;obtain⟨wv,jv,rfl⟩:∃wv jv,vp=some (wv,jv,xj):=by
    cases vp with
    | none=>cases ev
    | some t=>
     obtain⟨wv,jv,xv⟩:=t;have ev:some xv=some xj:=ev;cases ev;exact⟨wv,jv,rfl⟩
   have hk:∀h' F',aDO r a m (lS d xj x.ch x.q x.l).1 (some (lS d xj x.ch x.q x.l).2.1) room p q h' F'->eA h F h' F'->k (.bool true) h':=hk;have c2:cV h1 ⟨r1,0+2,none⟩=some (.int .i64 x.ch):=B1.cell 2;have l3:cD PG h1 (loadAt cG (pT r1 (0+3)))=some (.agg x.q.cells.toArray):=cG.agg B1 (by show 0+3+2≤7;decide);have c5:cV h1 ⟨r1,0+5,none⟩=some vl:=B1.cell 5;simp only[dI.f0,dI.f2,dI.f3,dI.f4,aR.load,cZ.load,c0,c2,l3,c5,gA,q0,cW.f1,cW.f4,eR.load,fE.load,b1.j,b1.v,aK2,aXr,aLC,cC,reduceIte,cI,Nat.reduceAdd];refine P.scan x.ch x.q wf.q (N h1 u1.upd) wf.l (by omega) λh2 F2 P2 s2=>?_;obtain⟨B2,n2⟩:=uO B1 nF s2;simp only[cW.f2,cC,reduceIte,cI,Nat.reduceAdd];refine P2.sete _ λh3 P3 s3=>?_;obtain⟨B3,n3⟩:=uO B2 n2 s3;have b3:=P3.b;have st3:=(st1.trans s2).trans s3;have c2':cV h3 ⟨r1,0+2,none⟩=some (.int .i64 x.ch):=B3.cell 2;have l3':cD PG h3 (loadAt cG (pT r1 (0+3)))=some (.agg x.q.cells.toArray):=cG.agg B3 (by show 0+3+2≤7;decide);have c5':cV h3 ⟨r1,0+5,none⟩=some vl:=B3.cell 5;simp only[dI.f2,dI.f3,dI.f4,aR.load,cZ.load,c2',l3',c5',cW.f2,cW.f4,dK.load,fE.load,b3.e,b3.v,cC,reduceIte,cI,Nat.reduceAdd];refine P3.dscan x.ch x.q wf.q (N h3 st3.upd) wf.l hl (by omega) λh4 F4 P4 s4=>?_;have b4:=P4.b;simp only[dK.load,b4.e,gA,beq_self_eq_true,cC,reduceIte,cI,Nat.reduceAdd];exact⟨trivial,hk h4 F4 ⟨_,_,_,P4,rfl,rfl⟩ (st3.trans s4)⟩
 ·have q0:(x.k==0)=false:=beq_eq_false_iff_ne.2 k0;unfold doJ at hk;rw[if_neg k0] at hk;by_cases k1:x.k=1
  ·have q1:(x.k==1)=true:=by rw[k1];rfl
   rw[if_pos k1] at hk;have hk:∀h' F',aDO r a m (d.armed x.n) jx room p q h' F'->eA h F h' F'->k (.bool true) h':=hk;have c1:cV h1 ⟨r1,0+1,none⟩=some (.int .i64 x.n):=B1.cell 1;simp only[dI.f0,dI.f1,aR.load,c0,c1,gA,q0,q1,cW.f0,fY.load,b1.d,cC,reduceIte,cI,Nat.reduceAdd];obtain⟨Fd,D,hF,sw⟩:=P.swapP;refine aX3 D x.n wf.n λh2 D2 u2=>?_;obtain⟨F2,P2,s2⟩:=sw _ h2 Fd D2 ⟨u2,λb hb=>.inl hb⟩ rfl;obtain⟨B2,n2⟩:=uO B1 nF s2;have b2:=P2.b;have c1':cV h2 ⟨r1,0+1,none⟩=some (.int .i64 x.n):=B2.cell 1;simp only[dI.f1,aR.load,c1',cW.f3,eJ.load,b2.m,cC,reduceIte,cI,Nat.reduceAdd];obtain⟨Fm,Dm,hFm,swm⟩:=P2.swapD;refine aVG Dm x.n wf.n λh3 D3 u3=>?_;obtain⟨F3,P3,s3⟩:=swm _ h3 Fm D3 ⟨u3,λb hb=>.inl hb⟩ rfl;exact hk h3 F3 ⟨jp,vp,e,P3,ej,ev⟩ ((st1.trans s2).trans s3)
  ·have q1:(x.k==1)=false:=beq_eq_false_iff_ne.2 k1;rw[if_neg k1] at hk;by_cases k2:x.k=2
   ·have q2:(x.k==2)=true:=by rw[k2];rfl
    rw[if_pos k2] at hk;simp only[dI.f0,aR.load,c0,gA,q0,q1,q2,cC,reduceIte,cI,Nat.reduceAdd];exact aMK H1 wp wq hs (by omega) λh2 F2 P2 s2=>hk h2 F2 P2 (st1.trans s2)
   ·have q2:(x.k==2)=false:=beq_eq_false_iff_ne.2 k2;rw[if_neg k2] at hk;have c6:cV h1 ⟨r1,0+6,none⟩=some vw:=B1.cell 6;simp only[dI.f0,dI.f5,aR.load,gG.load,c0,c6,gA,q0,q1,q2,cW.f0,fY.load,b1.d,cC,reduceIte,cI,Nat.reduceAdd];obtain⟨Fd,D,hF,sw⟩:=P.swapP;refine aMV D (λh' u=>C h' (u1.upd.trans (u.mono λb hb=>.inl (hF b hb)))) (by omega) λh2 Fd2 D2 s=>?_;obtain⟨F2,P2,s2⟩:=sw _ h2 Fd2 D2 s rfl;obtain⟨B2,n2⟩:=uO B1 nF s2;have b2:=P2.b;have st2:=st1.trans s2;have c6':cV h2 ⟨r1,0+6,none⟩=some vw:=B2.cell 6;simp only[dI.f5,gG.load,c6',cW.f3,eJ.load,b2.m,cC,reduceIte,cI,Nat.reduceAdd];obtain⟨Fm,Dm,hFm,swm⟩:=P2.swapD;refine aTG Dm (λh' u=>C h' ?_) (by omega) λh3 Fm3 D3 s'=>?_
    ·have lT:eA h2 F2 h' F2:=⟨u.mono λb hb=>.inl (hFm b hb),λb hb=>.inl hb⟩;exact(st2.trans lT).upd
    obtain⟨F3,P3,s3⟩:=swm _ h3 Fm3 D3 s' rfl;have st3:=st2.trans s3;exact aMK ⟨jp,vp,e,P3,ej,ev⟩ wp wq hs (by show(0:Nat)≤_;omega) λh4 F4 P4 s4=>hk h4 F4 P4 (st3.trans s4)
def aLh{h:PH}{r a:Nat}(c:cV h ⟨r,0,none⟩=some (pT a 0)):cD PG h (loadAt fY (pT r 0))=some (pT a 0):=by rw[fY.load,c]
def iQ.notin{h:PH}{v:Value}{m:Nat}{F:List Nat}(n:iQ h v)(k:∀b∈F,h b≠none):∀b∈mE v m,b∉F:=λb hb hm=>by
 obtain⟨-,a,c,e,rfl,rfl⟩:=mE.mem hb;exact k _ hm (n a c e rfl)
def aDj.sub{h0 h:PH}{F G:List Nat}(N:aDj h0 h F)(hs:∀b∈G,b∈F):aDj h0 h G:=⟨N.ext,λb hb=>N.fr b (hs b hb)⟩
structure SmA(h0:PH)(r1 r rw a:Nat)(p q:Pl)(cs:List Value)(d:Dk)(w j:Nat)(x:Jn)(vw:Value)(h:PH)(F:List Nat):Prop where
 b1:Bx h r1 (p.cells++q.cells)
 br:Bx h r cs
 c0:cs[0]? =some (pT a 0)
 bw:Bx h rw (x.s.cells vw)
 iw:jT h vw x.s.its
 J:wQ a w j d x h F
 n1:r1∉F
 nr:r∉F
 nw:rw∉F
 ni:∀b∈mE vw x.s.its.length,b∉F
 e1:r1≠rw
 er:r≠rw
 ei:∀b∈mE vw x.s.its.length,b≠rw
 now:aDj h0 h (rw::F)
def SmA.ext{h0:PH}{r1 r rw a:Nat}{p q:Pl}{cs:List Value}{d:Dk}{w j:Nat}{x:Jn}{vw:Value}{h h':PH}{F:List Nat}(S:SmA h0 r1 r rw a p q cs d w j x vw h F)(u:dA h h'):SmA h0 r1 r rw a p q cs d w j x vw h' F:=
 ⟨S.b1.ext u,S.br.ext u,S.c0,S.bw.ext u,S.iw.ext u,S.J.ext u,S.n1,S.nr,S.nw,S.ni,S.e1,S.er,S.ei,S.now.more u⟩
def SmA.to{h0:PH}{r1 r rw a:Nat}{p q:Pl}{cs:List Value}{d:Dk}{w j:Nat}{x:Jn}{vw:Value}{h h':PH}{F F0 F':List Nat}(S:SmA h0 r1 r rw a p q cs d w j x vw h F)(s:eA h F0 h' F')(hF:∀b∈F0,b∈F){d':Dk}{w' j':Nat}{x':Jn}(J':wQ a w' j' d' x' h' F')(es:x'.s=x.s):SmA h0 r1 r rw a p q cs d' w' j' x' vw h' F':=by
 obtain⟨b1,n1⟩:=uO S.b1 (λhm=>S.n1 (hF _ hm)) s;obtain⟨br,nr⟩:=uO S.br (λhm=>S.nr (hF _ hm)) s;obtain⟨bw,nw⟩:=uO S.bw (λhm=>S.nw (hF _ hm)) s;obtain⟨iw,ni⟩:=aBw S.iw s (λb hb hm=>S.ni b hb (hF _ hm));refine⟨b1,br,S.c0,?_,?_,J',n1,nr,nw,?_,S.e1,S.er,?_,(S.now.sub λb hb=>?_).step (eA.app [rw] s)⟩
 ·rw[es];exact bw
 ·rw[es];exact iw
 ·rw[es];exact ni
 ·rw[es];exact S.ei
 ·rcases iW.1 hb with rfl|hb
  ·exact aNa ..
  ·exact aHC _ (hF _ hb)
structure TI(room:Int)(p q:Pl)(n:Nat)(s:Dk×Option Jn):Prop where
 gen:s.1.nw.1.gen≤n
 st:(Tw s.1 s.1.nw.1.gen∧∀j,s.2=some j->j.w.broken=false->JT s.1 j.w)∨(Stk s.1 room ⟨p,q,[]⟩∧s.2=none)
def TI.open{room:Int}{p q:Pl}{n:Nat}{d:Dk}(hc:chk ⟨p,q,[]⟩ room=0)(hn:n≤220)(hg:d.nw.1.gen≤n)(H:Tw d d.nw.1.gen∨(∃g,Tw d g∧d.buf=[]∧d.arm=0)∨Stk d room ⟨p,q,[]⟩):TI room p q (n+2) (aCl room p q d):=by
 have yes:∀{d':Dk} {j:Jn},Tw d' d'.nw.1.gen->JT d' j.w->d'.nw.1.gen≤n+2->TI room p q (n+2) (d',some j):=λT J g=>⟨g,.inl ⟨T,λj e _=>by cases e;exact J⟩⟩;unfold aCl;rcases H with H|⟨g,H,hb,ha⟩|H
 ·obtain⟨g',T,le,k,k0⟩:=aQr H (by omega) hc;rw[k rfl] at T;by_cases e:(fU d room p q).2.2=0
  ·rw[if_pos e];exact yes T (k0 e).2.1 (by omega)
  ·rw[if_neg e];exact⟨by show(fU d room p q).1.nw.1.gen≤_;omega,.inl ⟨T,λj e=>by cases e⟩⟩
 ·obtain⟨g',T,le,k,k0⟩:=aQr H (by omega) hc;by_cases e:(fU d room p q).2.2=0
  ·obtain⟨eg,J,-⟩:=k0 e;rw[eg] at T;rw[if_pos e];exact yes T J (by omega)
  ·obtain⟨S,ed⟩:=aSr H (by omega) hb ha hc e;rw[if_neg e,ed];exact⟨by show d.nw.1.gen≤_;omega,.inr ⟨S,rfl⟩⟩
 ·obtain⟨e,S,en⟩:=H.open hc;rw[if_neg e];exact⟨by show(fU d room p q).1.nw.1.gen≤_;rw[en];omega,.inr ⟨S,rfl⟩⟩
def aOp{d:Dk}(hb:d.buf=[])(l:List (Bool×Int)):d.crash l=⟨d.size,d.sectors,d.st,d.buf,0⟩:=by
 unfold Dk.crash;rw[hb];rfl
def TI.step{room:Int}{p q:Pl}{n:Nat}{s:Dk×Option Jn}(hc:chk ⟨p,q,[]⟩ room=0)(hn:n≤210)(T:TI room p q n s)(x:JAc):TI room p q (n+4) (doJ room p q x s):=by
 have hg:=T.gen;have wid:∀{m:Nat} {s:Dk×Option Jn},m≤n+4->TI room p q m s->TI room p q (n+4) s:=λhm t=>⟨zLE t.gen hm,t.st⟩;unfold doJ;split
 ·split
  ·exact wid (by omega) T
  ·rename_i j ej;rcases T.st with⟨H,J⟩|⟨-,e⟩
   ·obtain⟨g',T',le,k,kj⟩:=aWl H (by omega) (J j ej) x.ch x.q x.l;rw[k rfl] at T';exact⟨by show(lS s.1 j x.ch x.q x.l).1.nw.1.gen≤_;omega,.inl ⟨T',λj' e' hb=>by cases e';exact kj hb⟩⟩
   ·rw[e] at ej;cases ej
 ·split
  ·rcases T.st with⟨H,J⟩|⟨S,e⟩
   ·refine⟨by show s.1.nw.1.gen≤_;omega,.inl ⟨aP1 H _,λj e b=>?_⟩⟩;have:=J j e b;exact⟨this.wok.to (this.wok.ok.armed x.n) rfl,this.hd,this.slot,this.buf,this.ser⟩
   ·exact⟨by show s.1.nw.1.gen≤_;omega,.inr ⟨S.arm _,e⟩⟩
  ·split
   ·refine wid (by omega) (TI.open hc (by omega) hg ?_);rcases T.st with⟨H,-⟩|⟨S,-⟩
    ·exact .inl H
    ·exact .inr (.inr S)
   ·rcases T.st with⟨H,-⟩|⟨S,-⟩
    ·obtain⟨C,le⟩:=H.crash (by omega) x.w;exact wid (by omega) (TI.open (n:=n+1) hc (by omega) (by omega) (.inr (.inl ⟨_,C,rfl,rfl⟩)))
    ·rw[aOp S.buf];exact wid (by omega) (TI.open (n:=n) hc (by omega) hg (.inr (.inr (S.arm 0))))
def TI.last{room:Int}{p q:Pl}{n:Nat}{s:Dk×Option Jn}(hc:chk ⟨p,q,[]⟩ room=0)(ws:(⟨p,q,[]⟩:Dm).wf)(hn:n≤210)(T:TI room p q n s):
  (fU (s.1.crash []) room p q).2.2≠0∨(aJ5 (fU (s.1.crash []) room p q).1 (fU (s.1.crash []) room p q).2.1 room∧(fU (s.1.crash []) room p q).2.2=0∧(fU (s.1.crash []) room p q).1.nw.1.gen≤n+1):=by
 have hg:=T.gen;rcases T.st with⟨H,-⟩|⟨S,-⟩
 ·have ec:s.1.crash []=⟨s.1.size,s.1.sectors,s.1.st,[],0⟩:=by unfold Dk.crash;rw[List.zip_nil_right];rfl
  have C:Tw (s.1.crash []) (s.1.crash []).nw.1.gen:=by
   rw[ec];exact⟨⟨H.ok.len,H.ok.size,H.ok.one,H.ok.many,H.ok.each,by simp⟩,H.four,H.pos,H.small,lM _,aES _,H.low,by simp,H.q,by simp,by simp⟩
  have en:(s.1.crash []).nw.1.gen=s.1.nw.1.gen:=by rw[ec];rfl
  rcases aSJ C (by rw[en];omega) (by rw[ec]) (by rw[ec]) hc ws with h|⟨P,e,g⟩
  ·exact .inl h
  ·exact .inr ⟨P,e,by rw[g,en];omega⟩
 ·left;rw[aOp S.buf];exact((S.arm 0).open hc).1
def aSV(room:Int)(p q:Pl)(n:Nat):Prop:=chk ⟨p,q,[]⟩ room≠0∨n<4
def aT4{room:Int}{p q:Pl}{d:Dk}(H:aSV room p q d.sectors):(fU d room p q).2.2≠0:=by
 unfold fU;by_cases c:chk ⟨p,q,[]⟩ room=0
 ·rw[if_neg (by simp[c])];have h4:d.sectors<4:=H.resolve_left (λx=>x c);have e:fA d=(d,(Wl.zero,[]),1):=by unfold fA;rw[if_pos h4]
  rw[e,if_pos (by show(1:Int)≠0;decide)];show(1:Int)≠0;decide
 ·rw[if_pos c];exact c
def aK1{room:Int}{p q:Pl}{d:Dk}(H:d.Ok):(aCl room p q d).1.Ok∧(aCl room p q d).1.sectors=d.sectors∧(aCl room p q d).1.buf.length≤d.buf.length+108:=by
 obtain⟨a,-,b,-⟩:=aPK H room p q;exact⟨a,b,aVL H room p q⟩
def aV5{room:Int}{p q:Pl}{d:Dk}(H:d.Ok)(jx:Option Jn)(x:JAc):(doJ room p q x (d,jx)).1.Ok∧(doJ room p q x (d,jx)).1.sectors=d.sectors∧(doJ room p q x (d,jx)).1.buf.length≤d.buf.length+108:=by
 unfold doJ;split
 ·cases jx with
  | none=>exact⟨H,rfl,by show d.buf.length≤_;omega⟩
  | some j=>
   obtain⟨a,-,b⟩:=aU4 (j:=j) H x.ch x.q x.l;have:=aU5 H j x.ch x.q x.l;exact⟨a,b,by show(lS d j x.ch x.q x.l).1.buf.length≤_;omega⟩
 ·split
  ·exact⟨H.armed _,rfl,by show d.buf.length≤_;omega⟩
  ·split
   ·exact aK1 H
   ·obtain⟨a,b,c⟩:=aK1 (room:=room) (p:=p) (q:=q) (H.crash x.w);refine⟨a,b,zLE c ?_⟩;show 0+108≤_;omega
def aRy{s n:Nat}(ok:gB s)(h1:1≤n)(h2:n≤4096)(room:Int)(p q:Pl):aSV room p q n∨(chk ⟨p,q,[]⟩ room=0∧TI room p q 2 (aCl room p q (Dk.new s n))):=by
 by_cases hc:chk ⟨p,q,[]⟩ room=0
 ·by_cases h4:4≤n
  ·right;refine⟨hc,?_⟩;obtain⟨g,st⟩:=aVN (aOO ok h1 h2) (show 4≤(Dk.new s n).sectors from h4) (room:=room) (p:=p) (q:=q) hc;unfold aCl;rcases st with⟨e,S⟩|⟨e,T,J⟩
   ·rw[if_neg e];exact⟨g,.inr ⟨S,rfl⟩⟩
   ·rw[if_pos e];exact⟨g,.inl ⟨T,λj ej _=>by cases ej;exact J⟩⟩
  ·exact .inl (.inr (by omega))
 ·exact .inl (.inl hc)
def JAs.whole{h:PH}{v:Value}{l:List JV}(H:JAs h v l){j:Nat}{y:JV}(hy:l[j]? =some y):
  ∃a,cB PG (indexAt gW v (.int .i64 (j:Int)))=some (.pointer (some a))∧cD PG h (loadAt dI (.pointer (some a)))=some (.agg (jrw y).toArray):=
 H.s.loadAgg (k:=.i64) (j:=(j:Int)) gW.und dI.info dI.size dI.und rfl (by omega) (by rw[xK,wG,hy];rfl)
def aX6{h0 h:PH}{r a m:Nat}{d:Dk}{jx:Option Jn}{room:Int}{p q:Pl}{F:List Nat}{v:Value}{L:List JV}{y:JV}(H:aDO r a m d jx room p q h F)(N:aDj h0 h F)(A:JAs h0 v L)(hy:y∈L)(hl:y.1.l.length≤40)(wp:p.wf)(wq:q.wf)(hs:d.sectors≤1000)(hb:d.buf.length≤700000){k:cE}
  (hk:∀h' F',aDO r a m (doJ room p q y.1 (d,jx)).1 (doJ room p q y.1 (d,jx)).2 room p q h' F'->eA h F h' F'->k (.bool true) h'):bT PG tO #[pT r 0,.agg (jrw y).toArray] h k:=by
 have ex:∀h',cX F h h'->dA h0 h':=λh' u=>(N.step (F':=F) ⟨u,λb hb=>.inl hb⟩).ext;exact aW8 H wp wq hs hb y (λh' u=>((A.ext (ex h' u)).e y hy).1) (λh' u=>((A.ext (ex h' u)).e y hy).2.1) (A.e y hy).2.2 (by omega) hk
def aYW:cB PG (build eX #[(0,(Value.bool true))])=some (.agg (wrw (true,0)).toArray):=by kernel_rfl
def aV8:kC PG (buildSlice gG 1 #[(0,.agg (wrw (true,0)).toArray)])=some (.cells (wrw (true,0)).toArray eX,λr=>pure (.slice (some ⟨r,0,none⟩) 1 1)):=by kernel_rfl
def aXW(x:Int):cB PG (convert dM aR (.int .u8 x))=some (.int .i64 (IntKind.i64.wrap x)):=by kernel_rfl
def aUq{h0 h:PH}{r1 r rw a w j g i:Nat}{p q:Pl}{cs:List Value}{d:Dk}{x:Jn}{vw:Value}{F:List Nat}{room:Int}(wp:p.wf)(wq:q.wf)(hc:chk ⟨p,q,[]⟩ room=0)(S:SmA h0 r1 r rw a p q cs d w j x vw h F)(P:aJ5 d x room)(small:d.nw.1.gen≤220)(hs:d.sectors≤1000)(hg:g<256)(hi:i≤g%4+1){k:cE}{n61:gH}
  (fin:k (.bool true) h)
  (next:i<g%4+1->∀h' F' d' w' j' x',SmA h0 r1 r rw a p q cs d' w' j' x' vw h' F'->aJ5 d' x' room->d'.nw.1.gen=d.nw.1.gen+1->d'.sectors=d.sectors->n61 [.int .i64 room,.int .u8 (g:Int),pT r1 0,pT r 0,pT rw 0,.int .i64 ((i+1:Nat):Int)] h'):
  tM k n61 (.int .i64 room) (.int .u8 (g:Int)) (pT r1 0) (pT r 0) (pT rw 0) (.int .i64 (i:Int)) h:=by
 unfold tM;have rm:cB PG (binOp .rem dM (.int .u8 (g:Int)) (.int .u8 4))=some (.int .u8 ((g%4:Nat):Int)):=by rw[aPt (by decide)];rfl
 have w1:IntKind.i64.wrap ((g%4:Nat):Int)=((g%4:Nat):Int):=eB (by omega) (by omega);have w2:IntKind.i64.wrap (((g%4:Nat):Int)+1)=((g%4+1:Nat):Int):=by rw[eB (by omega) (by omega)];omega
 have gi:=nR (i:=i) (by omega);by_cases hlt:i<g%4+1
 ·have gl:((i:Int)<((g%4+1:Nat):Int))=True:=eq_true (by omega);have cd:cV h ⟨r,0,none⟩=some (pT a 0):=(S.br.cell 0).trans S.c0;simp only[rm,aXW,w1,w2,gl,cW.f0,aLh cd,aYW,aV8,cC,reduceIte,cI,Nat.reduceAdd];intro r71 hr71;refine iB ?_
  try rw[cR]
  have u1:dA h (h.set r71 (.cells (wrw (true,0)).toArray eX)):=cX.new hr71;have C1:iH (h.set r71 (.cells (wrw (true,0)).toArray eX)) 2 (.slice (some ⟨r71,0,none⟩) 1 1) ([(true,(0:Int))].map wrw):=(eH.lit (n:=1) (rows:=[(true,(0:Int))].map wrw) (λr hr=>by simp only[iG,jB,iC] at hr;subst hr;rfl) eN (by simp) (by decide) (by simp)).slR;generalize h.set r71 (.cells (wrw (true,0)).toArray eX)=h1 at *;have S1:=S.ext u1;obtain⟨Fd,D,hF,-⟩:=S1.J.swap;have n71:r71∉Fd:=λhm=>S.J.known r71 (hF _ hm) hr71;refine aMV (l:=[(true,0)]) D (λh' u=>C1.upd u (λa n c e=>by cases e;exact n71)) (by rw[P.jt.buf];simp) λh2 F2 D2 s2=>?_;have cd2:cV h2 ⟨r,0,none⟩=some (pT a 0):=((uO S1.br (λhm=>S1.nr (hF _ hm)) s2).1.cell 0).trans S.c0;have l2:cD PG h2 (loadAt cU (pT r1 0))=some (lO p q):=cU.agg (uO S1.b1 (λhm=>S1.n1 (hF _ hm)) s2).1 (by show 0+4≤4;decide);simp only[cW.f0,aLh cd2,l2,cC,reduceIte,cI,Nat.reduceAdd];refine aNp D2 room p q wp wq hs (kT _) λh3 F3 jp P3 s3 o3=>?_;obtain⟨d3,w3,eq,P',g3,-,z3,-⟩:=aR3 P small hc ⟨wp,wq,by simp⟩ [(true,0)];rw[eq] at P3 o3 ⊢;obtain⟨wj,j3,rfl⟩:=o3.1 rfl;have P3:wQ a wj j3 d3 ⟨w3,room,x.s⟩ h3 F3:=P3;have S3:=S1.to (s2.trans s3) hF P3 rfl;have e0:((0:Int) !=0)=false:=rfl;simp only[eI,e0,aK2,aLC,cC,reduceIte,cI,Nat.reduceAdd];refine wQ.halted P3 ?_;have br:w3.broken=false:=P'.broken;have lw:cD PG h3 (loadAt bR (pT rw 0))=some (x.s.v vw):=bR.agg S3.bw (by show 0+5≤5;decide);simp only[br,lw,cC,reduceIte,cI,Nat.reduceAdd];refine aMS P3 λh4 v4 S4 _ u4=>?_;have S3':=S3.ext u4;have lw4:cD PG h4 (loadAt bR (pT rw 0))=some (x.s.v vw):=bR.agg S3'.bw (by show 0+5≤5;decide);have hlen:x.s.its.length≤1000000:=by have:=S.J.ok.len;have:=S.J.ok.r2;omega
  simp only[lw4,eq_self,true_and,implies_true,cC,reduceIte,cI,Nat.reduceAdd];refine aPZ S4 S3'.iw hlen λh5 u5=>?_;have ss:(⟨w3,room,x.s⟩:Jn).s=x.s:=rfl;simp only[ss,decide_true,gi,cC,reduceIte,cI,Nat.reduceAdd];exact next hlt h5 F3 d3 wj j3 _ (S3'.ext u5) P' g3 z3
 ·have gl:((i:Int)<((g%4+1:Nat):Int))=False:=eq_false (by omega);simp only[rm,aXW,w1,w2,gl,cC,reduceIte,cI,Nat.reduceAdd];exact fin
end
end Go.Proofs.YtiohehjhlghikaaGreatDoor
