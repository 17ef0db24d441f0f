/- journal: the card of JournalPlays: whatever is scanned, armed, opened anew and crashed, each call is told as the document says; so stand the journal and its disk behind it. -/
import Derived.Test.YtiohehjhlghikaaGreatDoorJgUVC8
import Derived.Test.YtiohehjhlghikaaGreatDoorCards
import Derived.Test.YtiohehjhlghikaaGreatDoorTie
import Derived.WalkKit
import Derived.ProofKit
import Derived.Lay
import Derived.SevenTiedAt
set_option linter.all false
set_option maxRecDepth 100000
open Go.Instr (loadAt fieldAt indexAt extract buildSlice build)
namespace Go.Proofs.YtiohehjhlghikaaGreatDoor
section
open Go
abbrev JP:=Option (Nat×Nat×Jn)
def aEs:JP->Value
 | none=>.pointer none
 | some (_,j,_)=>pT j 0
def aEs.isC(p:JP):gN (aEs p)=true:=by cases p<;>rfl
def PrA(a:Nat)(d:Dk):JP->aQR
 | none=>pD a d
 | some (w,j,x)=>yY a w j d x
def DpA(m:Nat)(d:Dk):JP->aQR
 | none=>pI m d
 | some (w,j,x)=>JoA m w j d x
def PrA.good(a:Nat)(d:Dk)(p:JP):aIu (PrA a d p):=by
 cases p with
 | none=>exact pD.good a d
 | some t=>exact yY.good a t.1 t.2.1 d t.2.2
def DpA.good(a:Nat)(d:Dk)(p:JP):aIu (DpA a d p):=by
 cases p with
 | none=>exact pI.good a d
 | some t=>exact JoA.good a t.1 t.2.1 d t.2.2
def PrA.disk{a:Nat}{d:Dk}{p:JP}{h:PH}{F:List Nat}(H:PrA a d p h F):∃Fd,pD a d h Fd∧∀b∈Fd,b∈F:=by
 cases p with
 | none=>exact⟨F,H,λb hb=>hb⟩
 | some t=>
  obtain⟨w,j,x⟩:=t;have H:yY a w j d x h F:=H;obtain⟨Fw,iv,rfl,B,W,-⟩:=H.here;obtain⟨Fd,rfl,Bw,D,-⟩:=W.here;exact⟨Fd,D,λb hb=>by simp[hb]⟩
def DpA.disk{a:Nat}{d:Dk}{p:JP}{h:PH}{F:List Nat}(H:DpA a d p h F):∃Fd,pI a d h Fd∧∀b∈Fd,b∈F:=by
 cases p with
 | none=>exact⟨F,H,λb hb=>hb⟩
 | some t=>
  obtain⟨w,j,x⟩:=t;have H:JoA a w j d x h F:=H;obtain⟨Fw,iv,rfl,B,W,-⟩:=H.here;obtain⟨Fd,rfl,Bw,D,-⟩:=W.here;exact⟨Fd,D,λb hb=>by simp[hb]⟩
def fT.wide{h h':PH}{F F' G:List Nat}(s:fT h F h' F')(hG:∀b∈F,b∈G):fT h G h' F':=
 ⟨s.upd.mono λb hb=>.inl (hG b hb),λb hb=>(s.grow b hb).imp (hG b) id⟩
def fT.app{h h':PH}{F F':List Nat}(L:List Nat)(s:fT h F h' F'):fT h (L++F) h' (L++F'):=
 ⟨s.upd.mono λb hb=>.inl (by simp[hb]),λb hb=>by
  rcases wQ.1 hb with hb|hb
  ·exact .inl (by simp[hb])
  ·exact(s.grow b hb).imp (λx=>by simp[x]) id⟩
def fT.appR{h h':PH}{F F':List Nat}(L:List Nat)(s:fT h F h' F'):fT h (F++L) h' (F'++L):=
 ⟨s.upd.mono λb hb=>.inl (by simp[hb]),λb hb=>by
  rcases wQ.1 hb with hb|hb
  ·exact(s.grow b hb).imp (λx=>by simp[x]) id
  ·exact .inl (by simp[hb])⟩
def fT.of{h h':PH}{F K:List Nat}(u:eH K h h')(hK:∀b∈K,b∈F):fT h F h' F:=⟨u.mono λb hb=>.inl (hK b hb),λb hb=>.inl hb⟩
def aDm(a m:Nat)(jp:JP)(e:Int)(vp:JP)(room:Int)(p q:Pl):List Value:=
 [pT a 0,aEs jp,.int .i64 e,pT m 0,aEs vp,.int .i64 room,.int .u64 p.h,.int .i64 p.i,.int .u64 q.h,.int .i64 q.i]
structure kL(r a m:Nat)(d:Dk)(jp:JP)(e:Int)(d2:Dk)(vp:JP)(room:Int)(p q:Pl)(h:PH)(F:List Nat):Prop where
 here:∃Fa Fm,F=r::(Fa++Fm)∧Bx h r (aDm a m jp e vp room p q)∧PrA a d jp h Fa∧DpA m d2 vp h Fm∧r∉Fa∧r∉Fm∧∀b∈Fa,b∉Fm
def kL.known{r a m:Nat}{d d2:Dk}{jp vp:JP}{e room:Int}{p q:Pl}{h:PH}{F:List Nat}(H:kL r a m d jp e d2 vp room p q h F):∀b∈F,h b≠none:=by
 obtain⟨Fa,Fm,rfl,B,P,D,-⟩:=H.here;intro b hb;simp only[jW,wQ] at hb;rcases hb with rfl|hb|hb
 ·exact B.known
 ·exact(PrA.good a d jp).known P b hb
 ·exact(DpA.good m d2 vp).known D b hb
def kL.upd{r a m:Nat}{d d2:Dk}{jp vp:JP}{e room:Int}{p q:Pl}{h h':PH}{F K:List Nat}(H:kL r a m d jp e d2 vp room p q h F)(u:eH K h h')(hK:∀b∈F,b∉K):kL r a m d jp e d2 vp room p q h' F:=by
 obtain⟨Fa,Fm,rfl,B,P,D,n⟩:=H.here;exact⟨⟨Fa,Fm,rfl,B.upd u (hK r (by simp)),(PrA.good a d jp).upd P u (λb hb=>hK b (by simp[hb])),(DpA.good m d2 vp).upd D u (λb hb=>hK b (by simp[hb])),n⟩⟩
def kL.good(r a m:Nat)(d:Dk)(jp:JP)(e:Int)(d2:Dk)(vp:JP)(room:Int)(p q:Pl):aIu (kL r a m d jp e d2 vp room p q):=⟨λH=>H.known,λH u hK=>H.upd u hK⟩
def kL.ext{r a m:Nat}{d d2:Dk}{jp vp:JP}{e room:Int}{p q:Pl}{h h':PH}{F:List Nat}(H:kL r a m d jp e d2 vp room p q h F)(u:eM h h'):kL r a m d jp e d2 vp room p q h' F:=(kL.good r a m d jp e d2 vp room p q).ext H u
def kL.prog{r a m:Nat}{d d2 d':Dk}{jp vp jp':JP}{e e' room:Int}{p q:Pl}{h h':PH}{Fa Fm Fa':List Nat}(B:Bx h r (aDm a m jp e vp room p q))(D:DpA m d2 vp h Fm)(n1:r∉Fa)(n2:r∉Fm)(n3:∀b∈Fa,b∉Fm)(s:fT h Fa h' Fa'):
  Bx h' r (aDm a m jp e vp room p q)∧DpA m d2 vp h' Fm∧r∉Fa'∧(∀b∈Fa',b∉Fm):=
 ⟨B.upd s.upd n1,(DpA.good m d2 vp).upd D s.upd (λb hb hm=>n3 b hm hb),(B.step s n1).2,λb hb hm=>by
  rcases s.grow b hb with x|x
  ·exact n3 b x hm
  ·exact(DpA.good m d2 vp).known D b hm x⟩
def kL.docu{r a m:Nat}{d d2:Dk}{jp vp:JP}{e room:Int}{p q:Pl}{h h':PH}{Fa Fm Fm':List Nat}(B:Bx h r (aDm a m jp e vp room p q))(P:PrA a d jp h Fa)(n1:r∉Fa)(n2:r∉Fm)(n3:∀b∈Fa,b∉Fm)(s:fT h Fm h' Fm'):
  Bx h' r (aDm a m jp e vp room p q)∧PrA a d jp h' Fa∧r∉Fm'∧(∀b∈Fa,b∉Fm'):=
 ⟨B.upd s.upd n2,(PrA.good a d jp).upd P s.upd n3,(B.step s n2).2,λb hb hm=>by
  rcases s.grow b hm with x|x
  ·exact n3 b hb x
  ·exact(PrA.good a d jp).known P b hb x⟩
def aYC(a m:Nat)(room:Int)(p q:Pl):dE PG (build dU #[(0,pT a 0),(3,pT m 0),(5,.int .i64 room),(6,mP p q)])=some (.agg (aDm a m none 0 none room p q).toArray):=by kernel_rfl
def aOw{h:PH}(size sectors:Nat)(ok:iB size)(h1:1≤sectors)(h2:sectors≤4096)(room:Int)(p q:Pl){k:dI}
  (hk:∀h' r a m F,kL r a m (Dk.new size sectors) none 0 (Dk.new size sectors) none room p q h' F->fX h F->eM h h'->k (pT r 0) h'):bR PG yL #[.int .i64 (size:Int),.int .i64 (sectors:Int),.int .i64 room,mP p q] h k:=by
 apply tY.call;unfold tY;intro r1 hr1
 try rw[dY]
 have u1:eM h (h.set r1 (.cells (Value.cells (mP p q)) eD)):=eH.new hr1;have B1:Bx (h.set r1 (.cells (Value.cells (mP p q)) eD)) r1 (p.cells++q.cells):=Bx.new;generalize h.set r1 (.cells (Value.cells (mP p q)) eD)=g1 at *;refine aWv size sectors ok h1 h2 λh2 a Fa D2 f2 u2=>?_;have q0:((0:Int) !=0)=false:=rfl;have pn:∀{h:PH} {x y:Operand},dH PG h (gV .eql hZ x y (pT a 0) (.pointer none))=some (.bool false):=fun {h x y}=>zC (P:=PG) (a:=some ⟨a,0,none⟩) hZ.und;have l2:dH PG h2 (loadAt eD (pT r1 0))=some (mP p q):=eD.agg (B1.ext u2) (by show 0+4≤4;decide);simp only[fZ,q0,pn,l2,dF,reduceIte,dM,Nat.reduceAdd];refine aUj size sectors ok h1 (by assumption) λh3 m Fm D3 f3 u3=>?_;have l3:dH PG h3 (loadAt eD (pT r1 0))=some (mP p q):=eD.agg ((B1.ext u2).ext u3) (by show 0+4≤4;decide);refine⟨l3,?_⟩;simp only[aYC,dF,reduceIte,dM,Nat.reduceAdd];intro r20 hr20
 try rw[dY]
 have u4:eM h3 (h3.set r20 (.cells (Value.cells (.agg (aDm a m none 0 none room p q).toArray)) dU)):=eH.new hr20;have B4:Bx (h3.set r20 (.cells (Value.cells (.agg (aDm a m none 0 none room p q).toArray)) dU)) r20 (aDm a m none 0 none room p q):=Bx.new;generalize h3.set r20 (.cells (Value.cells (.agg (aDm a m none 0 none room p q).toArray)) dU)=h4 at *;have e2:=u1.trans u2;have e3:=e2.trans u3;refine hk h4 r20 a m (r20::(Fa++Fm)) ⟨⟨Fa,Fm,rfl,B4,(D2.ext u3).ext u4,D3.ext u4,λhm=>(D2.ext u3).known r20 hm hr20,λhm=>D3.known r20 hm hr20,λb hb hm=>D2.known b hb (f3 b hm)⟩⟩ (λb hb=>?_) (e3.trans u4);simp only[jW,wQ] at hb;rcases hb with rfl|hb|hb
 ·exact e3.none hr20
 ·exact u1.none (f2 b hb)
 ·exact e2.none (f3 b hb)
def aCl(A:Dk×Jn×Int)(jp:JP):Prop:=(A.2.2=0->∃w j,jp=some (w,j,A.2.1))∧(A.2.2≠0->jp=none)
def aWf{h:PH}{a:Nat}{d:Dk}{F:List Nat}(D:pD a d h F)(room:Int)(p q:Pl)(wp:p.wf)(wq:q.wf)(hs:d.sectors≤1000)(hb:d.buf.length≤800000){k:dI}
  (hk:∀h' F' jp',PrA a (jP d room p q).1 jp' h' F'->fT h F h' F'->aCl (jP d room p q) jp'->k (.tuple #[aEs jp',.int .i64 (jP d room p q).2.2]) h'):bR PG aDN #[pT a 0,.int .i64 room,mP p q] h k:=by
 refine aVN D room p q wp wq hs hb (λh1 F1 D1 s1 ne=>?_) (λh1 F1 w j J1 s1 e0=>?_)
 ·exact hk h1 F1 none D1 s1 ⟨λe=>absurd e ne,λ_=>rfl⟩
 ·have:=hk h1 F1 (some (w,j,(jP d room p q).2.1)) J1 s1 ⟨λ_=>⟨w,j,rfl⟩,λne=>absurd e0 ne⟩;rw[e0] at this;exact this
def aVl{h:PH}{a:Nat}{d:Dk}{F:List Nat}(D:pI a d h F)(room:Int)(p q:Pl)(wp:p.wf)(wq:q.wf)(hs:d.sectors≤1000)(hb:d.buf.length≤800000){k:dI}
  (hrep:∀(h:PH) (v:Value),jE h 1 v ((gQ d).2.1.2.map jX)->(gQ d).2.1.2≠[]->∀{k:dI},(∀h' v',kV h' v' (zS room (gQ d).2.1.2).1.its->jV h v'->eM h h'->k (.tuple #[(zS room (gQ d).2.1.2).1.v v',.int .i64 (zS room (gQ d).2.1.2).2]) h')->bR PG pL #[.int .i64 room,v] h k)
  (hk:∀h' F' jp',DpA a (jP d room p q).1 jp' h' F'->fT h F h' F'->aCl (jP d room p q) jp'->k (.tuple #[aEs jp',.int .i64 (jP d room p q).2.2]) h'):bR PG yH #[pT a 0,.int .i64 room,mP p q] h k:=by
 refine aTH D room p q wp wq hs hb hrep (λh1 F1 D1 s1 ne=>?_) (λh1 F1 w j J1 s1 e0=>?_)
 ·exact hk h1 F1 none D1 s1 ⟨λe=>absurd e ne,λ_=>rfl⟩
 ·have:=hk h1 F1 (some (w,j,(jP d room p q).2.1)) J1 s1 ⟨λ_=>⟨w,j,rfl⟩,λne=>absurd e0 ne⟩;rw[e0] at this;exact this
def aNw{h:PH}{x y:Operand}(p:JP):dH PG h (gV .eql fO x y (aEs p) (.pointer none))=some (.bool p.isNone):=by
 cases p with
 | none=>exact zC (P:=PG) (a:=none) fO.und
 | some t=>exact zC (P:=PG) (a:=some ⟨t.2.1,0,none⟩) fO.und
def aVK{h:PH}{x y:Operand}(p:JP):dH PG h (gV .eql fJ x y (aEs p) (.pointer none))=some (.bool p.isNone):=by
 cases p with
 | none=>exact zC (P:=PG) (a:=none) fJ.und
 | some t=>exact zC (P:=PG) (a:=some ⟨t.2.1,0,none⟩) fJ.und
def aCl.nil{A:Dk×Jn×Int}{jp:JP}(o:aCl A jp):jp.isNone=decide (A.2.2≠0):=by
 by_cases c:A.2.2=0
 ·obtain⟨w,j,e⟩:=o.1 c;rw[e,decide_eq_false (λx=>x c)];rfl
 ·rw[o.2 c,decide_eq_true c];rfl
def aYt{h:PH}{x y:Operand}(a b:Bool):dH PG h (gV .eql iI x y (.bool a) (.bool b))=some (.bool (a==b)):=by
 cases a<;>cases b<;>kernel_rfl
def aQZ{h:PH}{r a m:Nat}{d d2:Dk}{jp vp:JP}{e room:Int}{p q:Pl}{F:List Nat}(H:kL r a m d jp e d2 vp room p q h F)(wp:p.wf)(wq:q.wf)(hs:d.sectors≤1000)(hs2:d2.sectors≤1000)(hb:d.buf.length≤800000)(hb2:d2.buf.length≤800000){k:dI}
  (hrep:∀(h:PH) (v:Value),jE h 1 v ((gQ d2).2.1.2.map jX)->(gQ d2).2.1.2≠[]->∀{k:dI},(∀h' v',kV h' v' (zS room (gQ d2).2.1.2).1.its->jV h v'->eM h h'->k (.tuple #[(zS room (gQ d2).2.1.2).1.v v',.int .i64 (zS room (gQ d2).2.1.2).2]) h')->bR PG pL #[.int .i64 room,v] h k)
  (hk:∀h' F' jp' vp',kL r a m (jP d room p q).1 jp' (jP d room p q).2.2 (jP d2 room p q).1 vp' room p q h' F'->fT h F h' F'->aCl (jP d room p q) jp'->aCl (jP d2 room p q) vp'->k (.bool (decide ((jP d room p q).2.2=(jP d2 room p q).2.2))) h'):bR PG kR #[pT r 0] h k:=by
 apply pO.call;unfold pO;obtain⟨Fa,Fm,rfl,B,P,D,n1,n2,n3⟩:=H.here;obtain⟨Fd,Da,hFd⟩:=PrA.disk P;have c0:eA h ⟨r,0,none⟩=some (pT a 0):=B.cell 0;have c5:eA h ⟨r,0+5,none⟩=some (.int .i64 room):=B.cell 5;have l6:dH PG h (loadAt eD (pT r (0+6)))=some (mP p q):=eD.agg B (by show 0+6+4≤10;decide);simp only[dU.f0,dU.f5,dU.f6,hZ.load,aR.load,c0,c5,l6,dF,reduceIte,dM,Nat.reduceAdd];refine aWf Da room p q wp wq hs hb λh1 Fa' jp' P1 s1 o1=>?_;obtain⟨B1,D1,n1',n3'⟩:=kL.prog (d:=d) (d':=d) (jp':=jp) (e':=e) B D n1 n2 n3 (s1.wide hFd);obtain⟨A,hA⟩:∃A,jP d room p q=A:=⟨_,rfl⟩;rw[hA] at hk P1 o1 ⊢;simp only[dU.f1,dU.f2,dF,reduceIte,dM,Nat.reduceAdd];refine fO.put B1 (o:=1) (by show 1<10;decide) (aEs.isC jp') λh2 B2 u2=>?_;refine eY.put B2 (o:=2) (by show 2<10;decide) rfl λh3 B3 u3=>?_;have B3:Bx h3 r (aDm a m jp' A.2.2 vp room p q):=B3;have u23:=u2.trans u3;have P3:=(PrA.good a A.1 jp').upd P1 u23 (lL n1');have D3:=(DpA.good m d2 vp).upd D1 u23 (lL n2);have c3:eA h3 ⟨r,0+3,none⟩=some (pT m 0):=B3.cell 3;have c5':eA h3 ⟨r,0+5,none⟩=some (.int .i64 room):=B3.cell 5;have l6':dH PG h3 (loadAt eD (pT r (0+6)))=some (mP p q):=eD.agg B3 (by show 0+6+4≤10;decide);obtain⟨Fdm,Dm,hFm⟩:=DpA.disk D3;simp only[dU.f3,dU.f5,dU.f6,fN.load,aR.load,c3,c5',l6',dF,reduceIte,dM,Nat.reduceAdd];refine aVl Dm room p q wp wq hs2 hb2 hrep λh4 Fm' vp' P4 s4 o4=>?_;obtain⟨B4,Pa4,n2',n3''⟩:=kL.docu (d2:=d2) B3 P3 n1' n2 n3' (s4.wide hFm);obtain⟨A2,hA2⟩:∃A,jP d2 room p q=A:=⟨_,rfl⟩;rw[hA2] at hk P4 o4 ⊢;simp only[dU.f4,dF,reduceIte,dM,Nat.reduceAdd];refine fJ.put B4 (o:=4) (by show 4<10;decide) (aEs.isC vp') λh5 B5 u5=>?_;have B5:Bx h5 r (aDm a m jp' A.2.2 vp' room p q):=B5;have P5:=(PrA.good a A.1 jp').upd Pa4 u5 (lL n1');have D5:=(DpA.good m A2.1 vp').upd P4 u5 (lL n2');have c1:eA h5 ⟨r,0+1,none⟩=some (aEs jp'):=B5.cell 1;have c2:eA h5 ⟨r,0+2,none⟩=some (.int .i64 A.2.2):=B5.cell 2;have c4:eA h5 ⟨r,0+4,none⟩=some (aEs vp'):=B5.cell 4;have fin:k (.bool (decide (A.2.2=A2.2.2))) h5:=by
  refine hk h5 (r::(Fa'++Fm')) jp' vp' ⟨⟨Fa',Fm',rfl,B5,P5,D5,n1',n2',n3''⟩⟩ ?_ o1 o4;have t1:fT h (r::(Fa++Fm)) h1 (r::(Fa'++Fm)):=fT.app [r] (fT.appR Fm (s1.wide hFd));have t2:fT h1 (r::(Fa'++Fm)) h3 (r::(Fa'++Fm)):=fT.of u23 (by simp);have t3:fT h3 (r::(Fa'++Fm)) h4 (r::(Fa'++Fm')):=fT.app (r::Fa') (s4.wide hFm);have t4:fT h4 (r::(Fa'++Fm')) h5 (r::(Fa'++Fm')):=fT.of u5 (by simp);exact((t1.trans t2).trans t3).trans t4
 have qe:(A.2.2==A2.2.2)=decide (A.2.2=A2.2.2):=by rw[yA,beq_iff_eq,decide_eq_true_iff]
 by_cases c:A.2.2=A2.2.2
 ·rw[decide_eq_true c] at fin;have qt:(A.2.2==A2.2.2)=true:=by rw[qe,decide_eq_true c]
  have eb:(jp'.isNone==vp'.isNone)=true:=by rw[o1.nil,o4.nil,c];simp
  simp only[dU.f1,dU.f2,dU.f4,eY.load,fO.load,fJ.load,c1,c2,c4,gX,qt,aNw,aVK,aYt,eb,dF,reduceIte,dM,Nat.reduceAdd];exact fin
 ·rw[decide_eq_false c] at fin;have qf:(A.2.2==A2.2.2)=false:=by rw[qe,decide_eq_false c]
  simp only[dU.f2,eY.load,c2,gX,qf,dF,reduceIte,dM,Nat.reduceAdd];exact fin
def aCm{t:Tx}{c:Nat}(h:t.length<c):gO (0,t) c=(0,((6:Int),t)):=by
 unfold gO;rw[aNc h];rfl
def aLA{e:Int}{t:Tx}{n:Int}(he:e≠0):nM (e,t) n=([],(e,t)):=by
 unfold nM;rw[if_neg (λh=>he h.1)];simp only;rw[if_neg he]
def aHQ{e:Int}{t:Tx}{c:Nat}(he:e≠0):gO (e,t) c=(0,(e,t)):=by
 unfold gO;rw[aLA he];rfl
def aRh{e:Int}{t:Tx}(he:e≠0):wR (e,t)=([],(e,t)):=by
 unfold wR;rw[aHQ he,aLA he]
def aSl{t:Tx}{c:Nat}:gO ((6:Int),t) c=(0,((6:Int),t)):=aHQ (by decide)
def aNQ{t:Tx}:wR ((6:Int),t)=([],((6:Int),t)):=aRh (by decide)
def aOy(s:Tx):
  (s.length<16∧(iR (0,s)).1=Pl.zero∧(iR (0,s)).2.1=6)∨
  (16≤s.length∧65535<mJ ((s.drop 8).take 8)∧(iR (0,s)).1=Pl.zero∧(iR (0,s)).2.1=5)∨
  (16≤s.length∧mJ ((s.drop 8).take 8)≤65535∧iR (0,s)=(⟨(mJ (s.take 8):Nat),(mJ ((s.drop 8).take 8):Nat)⟩,((0:Int),s.drop 16))):=by
 by_cases h16:s.length<16
 ·left;refine⟨h16,?_⟩;unfold iR;by_cases h8:s.length<8
  ·rw[aCm h8];simp only;rw[aHQ (by decide)];exact⟨rfl,rfl⟩
  ·rw[qC (t:=s) (c:=8) (by omega)];simp only;rw[aCm (t:=s.drop 8) (by rw[kD];omega)];exact⟨rfl,rfl⟩
 ·right;have e1:gO (0,s) 8=(mJ (s.take 8),((0:Int),s.drop 8)):=qC (by omega);have e2:gO (0,s.drop 8) 8=(mJ ((s.drop 8).take 8),((0:Int),s.drop 16)):=by
   rw[qC (by rw[kD];omega),rQ]
  unfold iR;rw[e1];simp only;rw[e2];simp only;by_cases c:65535<mJ ((s.drop 8).take 8)
  ·left;rw[if_pos c];exact⟨by omega,c,rfl,rfl⟩
  ·right;rw[if_neg c];exact⟨by omega,by omega,rfl⟩
def aVz:dE PG (build dK #[])=some (.agg Pl.zero.cells.toArray):=by kernel_rfl
def aXR(a b:Int):dE PG (build dK #[(0,.int .u64 a),(1,.int .i64 b)])=some (.agg (Pl.cells ⟨a,b⟩).toArray):=by kernel_rfl
def aUb(n:Nat)(hn:n<9223372036854775808):dE PG (convert dN aR (.int .u64 (n:Int)))=some (.int .i64 (n:Int)):=by
 rw[show dE PG (convert dN aR (.int .u64 (n:Int)))=some (.int .i64 (IntKind.i64.wrap (n:Int))) from by kernel_rfl,fW (by omega) (by omega)]
def aLE{h:PH}(s:Tx)(hs:s.length≤1000000){k:dI}(hk:∀h',eM h h'->k (.tuple #[.agg (iR (0,s)).1.cells.toArray,.int .i64 (if (iR (0,s)).2.1=0 then 16 else 0),.int .i64 (iR (0,s)).2.1]) h'):bR PG tK #[.string (tx s)] h k:=by
 apply wT.call;unfold wT;intro r1 hr1
 try rw[dY]
 have Z1:Bx (h.set r1 (.cells (eX PG dK) dK)) r1 Pl.zero.cells:=dK.zbox;have u1:eM h (h.set r1 (.cells (eX PG dK) dK)):=eH.new hr1;generalize h.set r1 (.cells (eX PG dK) dK)=h1 at *;have fin:∀{h':PH} (q:Pl) (n e:Int),(iR (0,s)).1=q->(iR (0,s)).2.1=e->(if e=0 then(16:Int) else 0)=n->Bx h' r1 Pl.zero.cells->eM h h'->dT PG (dX dK (pT r1 0) (.agg q.cells.toArray)) h' λ_ h8=>dA (dH PG h8 (loadAt dK (pT r1 0))) λv9=>k (.tuple #[v9,.int .i64 n,.int .i64 e]) h8:=by
  intro h' q n e hq he hn B w;refine dK.put B (vs:=q.cells) (o:=0) rfl (by show 0+2≤2;decide) (by simp[Pl.cells,gN]) λh2 B2 u2=>?_;have B2:Bx h2 r1 q.cells:=B2;have l2:dH PG h2 (loadAt dK (pT r1 0))=some (.agg q.cells.toArray):=aCn B2 rfl;simp only[l2,jQ,zPP];have:=hk h2 (w.fresh u2 (fX.one hr1));rw[hq,he,hn] at this;exact this
 rcases aOy s with⟨c,e1,e2⟩|⟨c,c2,e1,e2⟩|⟨c,c2,e⟩
 ·have g:((s.length:Int)<16)=True:=eq_true (by omega);simp only[jS,g,aVz,dF,reduceIte,dM,Nat.reduceAdd];exact fin Pl.zero 0 6 e1 e2 rfl Z1 u1
 ·have g:((s.length:Int)<16)=False:=eq_false (by omega);have c1:dE PG (Instr.sliceAt aT (.string (tx s)) (some (.int .i64 8)) (some (.int .i64 16)) none)=some (.string (tx ((s.drop 8).take 8))):=by
   have:=lE (P:=PG) (t:=aT) (l:=s) (i:=8) (j:=16) (lo:=some (.int .i64 8)) (hi:=some (.int .i64 16)) aT.und (.inr ⟨_,rfl⟩) (.inr ⟨_,rfl⟩) (by omega) (by omega);rw[this,zLy]
  have g2:((65535:Int)<(mJ ((s.drop 8).take 8):Int))=True:=eq_true (by omega);simp only[jS,g,c1,dF,reduceIte,dM,Nat.reduceAdd];refine aB9 (by rw[mT];omega) ?_;simp only[g2,aVz,dF,reduceIte,dM,Nat.reduceAdd];exact fin Pl.zero 0 5 e1 e2 rfl Z1 u1
 ·have g:((s.length:Int)<16)=False:=eq_false (by omega);have c1:dE PG (Instr.sliceAt aT (.string (tx s)) (some (.int .i64 8)) (some (.int .i64 16)) none)=some (.string (tx ((s.drop 8).take 8))):=by
   have:=lE (P:=PG) (t:=aT) (l:=s) (i:=8) (j:=16) (lo:=some (.int .i64 8)) (hi:=some (.int .i64 16)) aT.und (.inr ⟨_,rfl⟩) (.inr ⟨_,rfl⟩) (by omega) (by omega);rw[this,zLy]
  have c0:dE PG (Instr.sliceAt aT (.string (tx s)) none (some (.int .i64 8)) none)=some (.string (tx (s.take 8))):=by
   have:=lE (P:=PG) (t:=aT) (l:=s) (i:=0) (j:=8) (lo:=none) (hi:=some (.int .i64 8)) aT.und (.inl ⟨rfl,rfl⟩) (.inr ⟨_,rfl⟩) (by omega) (by omega);rw[this,zLb]
  have g2:((65535:Int)<(mJ ((s.drop 8).take 8):Int))=False:=eq_false (by omega);simp only[jS,g,c1,dF,reduceIte,dM,Nat.reduceAdd];refine aB9 (by rw[mT];omega) ?_;simp only[g2,c0,dF,reduceIte,dM,Nat.reduceAdd];refine aB9 (by rw[mT];omega) ?_;simp only[aUb _ (show mJ ((s.drop 8).take 8)<9223372036854775808 by omega),aXR,dF,reduceIte,dM,Nat.reduceAdd];exact fin _ 16 0 (by rw[e]) (by rw[e]) rfl Z1 u1
def dpN(s:Tx):Nat:=mJ ((s.drop 17).take 2)
def dpk(s:Tx):Pk:=⟨(mJ (s.take 1):Nat),(mJ ((s.drop 1).take 8):Nat),(mJ ((s.drop 9).take 8):Nat),tx ((s.drop 19).take (dpN s))⟩
def aJQ(s:Tx):
  ((s.length<19∨s.length<19+dpN s)∧(pU (0,s)).1=default∧(pU (0,s)).2.1=6)∨
  (19+dpN s≤s.length∧(dpk s).right=false∧(pU (0,s)).1=default∧(pU (0,s)).2.1=5)∨
  (19+dpN s≤s.length∧(dpk s).right=true∧pU (0,s)=(dpk s,((0:Int),s.drop (19+dpN s)))):=by
 have bad:∀{t:Tx},(rC (0,s)).2=((6:Int),t)->(pU (0,s)).1=default∧(pU (0,s)).2.1=6:=fun {t} h=>by
  have e:(if (rC (0,s)).1.right then(rC (0,s)).2 else yO (rC (0,s)).2 5)=((6:Int),t):=by
   split
   ·exact h
   ·rw[h];rfl
  unfold pU;simp only;rw[e];exact⟨rfl,rfl⟩
 by_cases h1:s.length<1
 ·refine .inl ⟨.inl (by omega),bad (t:=s) ?_⟩;unfold rC rB rA;rw[aCm h1];simp only[aSl,aNQ]
 have e1:gO (0,s) 1=(mJ (s.take 1),((0:Int),s.drop 1)):=qC (by omega);by_cases h9:s.length<9
 ·refine .inl ⟨.inl (by omega),bad (t:=s.drop 1) ?_⟩;unfold rC rB rA;rw[e1];simp only;rw[aCm (t:=s.drop 1) (c:=8) (by rw[kD];omega)];simp only[aSl,aNQ]
 have e2:gO (0,s.drop 1) 8=(mJ ((s.drop 1).take 8),((0:Int),s.drop 9)):=by rw[qC (by rw[kD];omega),rQ]
 by_cases h17:s.length<17
 ·refine .inl ⟨.inl (by omega),bad (t:=s.drop 9) ?_⟩;unfold rC rB rA;rw[e1];simp only;rw[e2];simp only;rw[aCm (t:=s.drop 9) (c:=8) (by rw[kD];omega)];simp only[aNQ]
 have e3:gO (0,s.drop 9) 8=(mJ ((s.drop 9).take 8),((0:Int),s.drop 17)):=by rw[qC (by rw[kD];omega),rQ]
 by_cases h19:s.length<19
 ·refine .inl ⟨.inl (by omega),bad (t:=s.drop 17) ?_⟩;unfold rC rB rA wR;rw[e1];simp only;rw[e2];simp only;rw[e3];simp only;rw[aCm (t:=s.drop 17) (c:=2) (by rw[kD];omega)];simp only;rw[aLA (by decide)]
 have e4:gO (0,s.drop 17) 2=(dpN s,((0:Int),s.drop 19)):=by rw[qC (by rw[kD];omega),rQ];rfl
 by_cases hn:s.length<19+dpN s
 ·refine .inl ⟨.inr hn,bad (t:=s.drop 19) ?_⟩;unfold rC rB rA wR;rw[e1];simp only;rw[e2];simp only;rw[e3];simp only;rw[e4];simp only;rw[aNc (by rw[kD];omega)]
 right;have eC:rC (0,s)=(dpk s,((0:Int),s.drop (19+dpN s))):=by
  unfold rC rB rA wR;rw[e1];simp only;rw[e2];simp only;rw[e3];simp only;rw[e4];simp only;rw[aJs (by rw[kD];omega),rQ];rfl
 cases cr:(dpk s).right with
 | false=>
  left;refine⟨by omega,rfl,?_⟩;unfold pU;simp only;rw[eC];simp only;rw[cr];exact⟨rfl,rfl⟩
 | true=>
  right;refine⟨by omega,rfl,?_⟩;unfold pU;simp only;rw[eC];simp only;rw[cr];rfl
def aJ9{h:PH}{r:Nat}{x:Pk}(B:Bx h r x.cells):dH PG h (loadAt cT (pT r 0))=some (.agg x.cells.toArray):=cT.agg B (by show 0+4≤4;decide)
def aWY(a b c:Int)(d:ByteArray):dE PG (build cT #[(0,.int .i64 a),(1,.int .u64 b),(2,.int .u64 c),(3,.string d)])=some (.agg (Pk.cells ⟨a,b,c,d⟩).toArray):=by kernel_rfl
def Pk.isC(x:Pk):∀v∈x.cells,gN v=true:=by simp[Pk.cells,gN]
def aT5(s:Tx):dpN s<65536:=by
 have:=aJm ((s.drop 17).take 2);have h2:((s.drop 17).take 2).length≤2:=by rw[mT];omega
 have h3:256^((s.drop 17).take 2).length≤256^2:=aNb (by decide) h2;unfold dpN;omega
def aVJ{h:PH}(s:Tx)(hs:s.length≤1000000){k:dI}(hk:∀h',eM h h'->k (.tuple #[.agg (pU (0,s)).1.cells.toArray,.int .i64 (if (pU (0,s)).2.1=0 then((19+dpN s:Nat):Int) else 0),.int .i64 (pU (0,s)).2.1]) h'):bR PG aC1 #[.string (tx s)] h k:=by
 apply vJ.call;unfold vJ;intro r1 hr1
 try rw[dY]
 have Z1:Bx (h.set r1 (.cells (eX PG cT) cT)) r1 (Pk.cells default):=cT.zbox;have u1:eM h (h.set r1 (.cells (eX PG cT) cT)):=eH.new hr1;generalize h.set r1 (.cells (eX PG cT) cT)=h1 at *;have fin:∀{h':PH} (q:Pk) (n e:Int),(pU (0,s)).1=q->(pU (0,s)).2.1=e->(if e=0 then((19+dpN s:Nat):Int) else 0)=n->Bx h' r1 (Pk.cells default)->eM h h'->dT PG (dX cT (pT r1 0) (.agg q.cells.toArray)) h' λ_ h8=>dA (dH PG h8 (loadAt cT (pT r1 0))) λv9=>k (.tuple #[v9,.int .i64 n,.int .i64 e]) h8:=by
  intro h' q n e hq he hn B w;refine cT.put B (vs:=q.cells) (o:=0) rfl (by show 0+4≤4;decide) q.isC λh2 B2 u2=>?_;have B2:Bx h2 r1 q.cells:=B2;simp only[aJ9 B2,jQ,zPP];have:=hk h2 (w.fresh u2 (fX.one hr1));rw[hq,he,hn] at this;exact this
 by_cases h19:s.length<19
 ·have g:((s.length:Int)<19)=True:=eq_true (by omega);rcases aJQ s with⟨c,e1,e2⟩|⟨c,c2,e1,e2⟩|⟨c,c2,e⟩
  ·simp only[jS,g,aLr,dF,reduceIte,dM,Nat.reduceAdd];exact fin default 0 6 e1 e2 rfl Z1 u1
  ·omega
  ·omega
 ·have g:((s.length:Int)<19)=False:=eq_false (by omega);have c17:dE PG (Instr.sliceAt aT (.string (tx s)) (some (.int .i64 17)) (some (.int .i64 19)) none)=some (.string (tx ((s.drop 17).take 2))):=by
   have:=lE (P:=PG) (t:=aT) (l:=s) (i:=17) (j:=19) (lo:=some (.int .i64 17)) (hi:=some (.int .i64 19)) aT.und (.inr ⟨_,rfl⟩) (.inr ⟨_,rfl⟩) (by omega) (by omega);rw[this,zLy]
  have hdl:=aT5 s;have w1:IntKind.i64.wrap ((19:Int)+(dpN s:Int))=((19+dpN s:Nat):Int):=by rw[fW (by omega) (by omega)];omega
  simp only[jS,g,c17,dF,reduceIte,dM,Nat.reduceAdd];refine aB9 (by rw[mT];omega) ?_;rw[show mJ ((s.drop 17).take 2)=dpN s from rfl];by_cases hn:s.length<19+dpN s
  ·have g2:((s.length:Int)<((19+dpN s:Nat):Int))=True:=eq_true (by omega);rcases aJQ s with⟨c,e1,e2⟩|⟨c,c2,e1,e2⟩|⟨c,c2,e⟩
   ·simp only[aUb (dpN s) (by omega),jS,w1,g2,aLr,dF,reduceIte,dM,Nat.reduceAdd];exact fin default 0 6 e1 e2 rfl Z1 u1
   ·omega
   ·omega
  ·have g2:((s.length:Int)<((19+dpN s:Nat):Int))=False:=eq_false (by omega);obtain⟨b0,hb0⟩:∃b,s[0]? =some b:=⟨_,lG (by omega)⟩;have i0:dE PG (Instr.index aT (.string (tx s)) (.int .i64 0))=some (.int .u8 b0.toNat):=oZ (j:=0) aT.und hb0;have d0:mJ (s.take 1)=b0.toNat:=by have:=aJ3 hb0;rw[zLb] at this;exact this
   have c1:dE PG (Instr.sliceAt aT (.string (tx s)) (some (.int .i64 1)) (some (.int .i64 9)) none)=some (.string (tx ((s.drop 1).take 8))):=by
    have:=lE (P:=PG) (t:=aT) (l:=s) (i:=1) (j:=9) (lo:=some (.int .i64 1)) (hi:=some (.int .i64 9)) aT.und (.inr ⟨_,rfl⟩) (.inr ⟨_,rfl⟩) (by omega) (by omega);rw[this,zLy]
   have c9:dE PG (Instr.sliceAt aT (.string (tx s)) (some (.int .i64 9)) (some (.int .i64 17)) none)=some (.string (tx ((s.drop 9).take 8))):=by
    have:=lE (P:=PG) (t:=aT) (l:=s) (i:=9) (j:=17) (lo:=some (.int .i64 9)) (hi:=some (.int .i64 17)) aT.und (.inr ⟨_,rfl⟩) (.inr ⟨_,rfl⟩) (by omega) (by omega);rw[this,zLy]
   have c19:dE PG (Instr.sliceAt aT (.string (tx s)) (some (.int .i64 19)) (some (.int .i64 ((19+dpN s:Nat):Int))) none)=some (.string (tx ((s.drop 19).take (dpN s)))):=by
    have:=lE (P:=PG) (t:=aT) (l:=s) (i:=19) (j:=19+dpN s) (lo:=some (.int .i64 19)) (hi:=some (.int .i64 ((19+dpN s:Nat):Int))) aT.und (.inr ⟨_,rfl⟩) (.inr ⟨_,rfl⟩) (by omega) (by omega);rw[this,zLy,aCw]
   simp only[aUb (dpN s) (by omega),jS,w1,g2,i0,aHg,c1,c9,c19,dF,reduceIte,dM,Nat.reduceAdd];refine aB9 (by rw[mT];omega) ?_;refine aB9 (by rw[mT];omega) ?_;rw[←d0];show dA (dE PG (build cT #[(0,.int .i64 (dpk s).f),(1,.int .u64 (dpk s).s),(2,.int .u64 (dpk s).t),(3,.string (dpk s).d)])) _;simp only[aWY,jQ,zPP];intro r31 hr31
   try rw[dY]
   refine cT.fill (vs:=(dpk s).cells) hr31 rfl (dpk s).isC λh5 B5 u5=>?_;have e5:=u1.trans u5;simp only[aJ9 B5,dF,reduceIte,dM,Nat.reduceAdd];refine aI3 (dpk s) (Int.natCast_nonneg _) (Int.natCast_nonneg _) λh6 u6=>?_;have e6:=e5.trans u6;rcases aJQ s with⟨c,e1,e2⟩|⟨c,c2,e1,e2⟩|⟨c,c2,e⟩
   ·omega
   ·simp only[c2,aLr,dF,reduceIte,dM,Nat.reduceAdd];exact fin default 0 5 e1 e2 rfl ((Z1.ext u5).ext u6) e6
   ·simp only[c2,aJ9 (B5.ext u6),w1,dF,reduceIte,dM,Nat.reduceAdd];exact fin (dpk s) _ 0 (by rw[e]) (by rw[e]) (if_pos rfl) ((Z1.ext u5).ext u6) e6
def aYz{t:Tx}:(pU ((6:Int),t)).2.1=6:=by
 have e:(rC ((6:Int),t)).2=((6:Int),t):=by
  unfold rC rB rA;simp only[aSl,aNQ]
 have e2:(if (rC ((6:Int),t)).1.right then(rC ((6:Int),t)).2 else yO (rC ((6:Int),t)).2 5)=((6:Int),t):=by
  split
  ·exact e
  ·rw[e];rfl
 unfold pU;simp only;rw[e2]
def aPi(g:Int):(aBM g (0,[])).2.1=6:=by
 unfold aBM;rw[aCm (t:=[]) (c:=1) (by simp)];simp only;rw[if_pos (.inl (by decide))];unfold yO;rw[aYz,if_neg (by decide)]
def aT8(g:Int)(b:UInt8)(t:Tx):aBM g (0,b::t)=(((b.toNat:Int),(pU (0,t)).1),if (b.toNat:Int)<1∨g<(b.toNat:Int) then yO (pU (0,t)).2 5 else(pU (0,t)).2):=by
 unfold aBM;rw[qC (t:=b::t) (c:=1) (by simp)];have:mJ ((b::t).take 1)=b.toNat:=by simp[mJ]
 simp only;rw[this];rfl
def aH6(g:Int)(n:Nat)(st:iX)(acc:List (Int×Pk))(h:st.1≠0):kT g n st acc=(acc,st):=by
 cases n with
 | zero=>rfl
 | succ n=>unfold kT;rw[if_neg h]
def aU1(g:Int)(n:Nat)(st:iX)(acc:List (Int×Pk))(h:st.1=0):kT g (n+1) st acc=kT g n (aBM g st).2 (acc++[(aBM g st).1]):=by
 conv=>lhs;unfold kT
 rw[if_pos h]
def kc(x:Int×Pk):List Value:=[.int .i64 x.1]
def pc(x:Int×Pk):List Value:=x.2.cells
def aWU(a:Int):lH PG (buildSlice nA 1 #[(0,.int .i64 a)])=some (.cells #[.int .i64 a] aR,λr=>pure (.slice (some ⟨r,0,none⟩) 1 1)):=by kernel_rfl
def aWz(a b c:Int)(d:ByteArray):lH PG (buildSlice jD 1 #[(0,.agg (Pk.cells ⟨a,b,c,d⟩).toArray)])=some (.cells (Pk.cells ⟨a,b,c,d⟩).toArray cT,λr=>pure (.slice (some ⟨r,0,none⟩) 1 1)):=by kernel_rfl
def aUm(p:Pk):lH PG (buildSlice jD 1 #[(0,.agg p.cells.toArray)])=some (.cells p.cells.toArray cT,λr=>pure (.slice (some ⟨r,0,none⟩) 1 1)):=aWz p.f p.s p.t p.d
def aLR(g:Int):∀(n:Nat) (st:iX) (acc:List (Int×Pk)),(kT g n st acc).1.length≤acc.length+n
 | 0,_,_=>nQ _
 | n+1,st,acc=>by
  unfold kT;split
  ·have:=aLR g n (aBM g st).2 (acc++[(aBM g st).1]);rw[kO] at this;simp only[jY,lU] at this;omega
  ·show acc.length≤_;omega
def aG0(g:Int):gM g (0,[])=([],((6:Int),[])):=by
 unfold gM;rw[aCm (t:=[]) (c:=1) (by simp)];rfl
def aMj(g:Int)(b:UInt8)(t:Tx):gM g (0,b::t)=(if (kT g b.toNat (0,t) []).2.1=0 then(kT g b.toNat (0,t) []).1 else [],(kT g b.toNat (0,t) []).2):=by
 unfold gM;rw[qC (t:=b::t) (c:=1) (by simp)];have:mJ ((b::t).take 1)=b.toNat:=by simp[mJ]
 simp only;rw[this];rfl
def aRK{h:PH}(s:Tx)(g:Nat)(hs:s.length≤1000000){k:dI}
  (hk:∀h' vk vp Gk Gp,fY h' aR 1 vk ((gM (g:Int) (0,s)).1.map kc) Gk->fY h' cT 4 vp ((gM (g:Int) (0,s)).1.map pc) Gp->fX h Gk->fX h Gp->eM h h'->((gM (g:Int) (0,s)).2.1=0->(gM (g:Int) (0,s)).2.2.length≤s.length∧(gM (g:Int) (0,s)).2.2=s.drop (s.length-(gM (g:Int) (0,s)).2.2.length))->
   k (.tuple #[vk,vp,.int .i64 (if (gM (g:Int) (0,s)).2.1=0 then((s.length-(gM (g:Int) (0,s)).2.2.length:Nat):Int) else 0),.int .i64 (gM (g:Int) (0,s)).2.1]) h'):bR PG aAO #[.string (tx s),.int .i64 (g:Int)] h k:=by
 apply aCG.call;unfold aCG;cases s with
 | nil=>
  have q:decide (([]:Tx)=[])=true:=rfl;have e0:dH PG h (gV .eql aT (.tmp 15) (.const (.string {data:=#[]})) (.string (tx [])) (.string {data:=#[]}))=some (.bool true):=by
   have:=aFs (t:=aT) (h:=h) (x:=.tmp 15) (y:=.const (.string {data:=#[]})) (a:=[]) (b:=[]);exact this
  simp only[e0,dF,reduceIte,dM,Nat.reduceAdd];have:=hk h (.slice none 0 0) (.slice none 0 0) [] [] (by rw[aG0];exact fY.nil) (by rw[aG0];exact fY.nil) (λb hb=>by cases hb) (λb hb=>by cases hb) eH.refl (by rw[aG0];intro h;cases h);rw[aG0] at this;exact this
 | cons b0 t=>
  have e0:dH PG h (gV .eql aT (.tmp 15) (.const (.string {data:=#[]})) (.string (tx (b0::t))) (.string {data:=#[]}))=some (.bool false):=by
   have:=aFs (t:=aT) (h:=h) (x:=.tmp 15) (y:=.const (.string {data:=#[]})) (a:=b0::t) (b:=[]);exact this
  simp only[e0,dF,reduceIte,dM,Nat.reduceAdd];rw[aMj] at hk;obtain⟨T,hT⟩:∃T,kT (g:Int) b0.toNat (0,t) []=T:=⟨_,rfl⟩;rw[hT] at hk;have hb0:=b0.toNat_lt;have hTl:=aLR (g:Int) b0.toNat (0,t) [];rw[hT] at hTl;simp only[lU,kB] at hTl;simp only[jY] at hs;have bad:∀{h':PH} (e:Int),T.2.1=e->e≠0->eM h h'->k (.tuple #[.slice none 0 0,.slice none 0 0,.int .i64 0,.int .i64 e]) h':=by
   intro h' e he hne w;have:=hk h' (.slice none 0 0) (.slice none 0 0) [] [] (by rw[if_neg (by rw[he];exact hne)];exact fY.nil) (by rw[if_neg (by rw[he];exact hne)];exact fY.nil) (λb hb=>by cases hb) (λb hb=>by cases hb) w (λh0=>absurd h0 (by show T.2.1≠0;rw[he];exact hne));simp only[he] at this;rw[if_neg hne] at this;exact this
  refine⟨λvs h'=>∃(i at':Nat) (acc:List (Int×Pk)) (vk vp:Value) (Gk Gp:List Nat),i≤b0.toNat∧at'≤t.length∧acc.length=i∧vs=[.string (tx (b0::t)),.int .i64 (g:Int),vk,vp,.int .i64 ((at'+1:Nat):Int),.int .i64 (i:Int)]∧fY h' aR 1 vk (acc.map kc) Gk∧fY h' cT 4 vp (acc.map pc) Gp∧fX h Gk∧fX h Gp∧(∀b∈Gk,b∉Gp)∧eM h h'∧kT (g:Int) (b0.toNat-i) (0,t.drop at') acc=T,gT 256 5,⟨0,0,[],.slice none 0 0,.slice none 0 0,[],[],by omega,by omega,rfl,rfl,fY.nil,fY.nil,(λb hb=>by cases hb),(λb hb=>by cases hb),(λb hb=>by cases hb),eH.refl,by rw[Nat.sub_zero,zLb];exact hT⟩,?_⟩;rintro ρ h' ⟨i,at',acc,vk,vp,Gk,Gp,hi,hat,hacc,hvs,Ok,Op,fk,fp,dkp,w,hr⟩;simp only[jF,kF,lT,and_true] at hvs;obtain⟨x0,x1,x8,x9,x10,x11⟩:=hvs;unfold aGK;rw[x0,x1,x8,x9,x10,x11];have i0:dE PG (Instr.index aT (.string (tx (b0::t))) (.int .i64 0))=some (.int .u8 b0.toNat):=oZ (j:=0) aT.und rfl;have ll:(b0::t).length=t.length+1:=rfl;by_cases hlt:i<b0.toNat
  ·have g1:((i:Int)<(b0.toNat:Int))=True:=eq_true (by omega);have gi:=oM (i:=i) (by omega);obtain⟨n,hn⟩:∃n,b0.toNat-i=n+1:=⟨b0.toNat-i-1,by omega⟩;rw[hn,aU1 _ _ _ _ rfl] at hr;by_cases ha:at'=t.length
   ·have g2:(((b0::t).length:Int)≤((at'+1:Nat):Int))=True:=eq_true (by rw[ll];omega);have ed:t.drop at'=[]:=zO (by omega);rw[ed,aH6 _ _ _ _ (by rw[aPi];decide)] at hr;simp only[i0,aHg,g1,jS,g2,dF,reduceIte,dM,Nat.reduceAdd];exact bad 6 (by rw[←hr];exact aPi (g:Int)) (by decide) w
   ·have g2:(((b0::t).length:Int)≤((at'+1:Nat):Int))=False:=eq_false (by rw[ll];omega);obtain⟨y,hy⟩:∃y,t[at']? =some y:=⟨_,lG (by omega)⟩;have ed:t.drop at'=y::t.drop (at'+1):=by
     rw[aBE (by omega)];have:t[at']=y:=by rw[lG (by omega)] at hy;simpa using hy
     rw[this]
    have hsd:((b0::t).drop (at'+2))=t.drop (at'+1):=by rw[zLa]
    have ga:IntKind.i64.wrap (((at'+1:Nat):Int)+1)=((at'+2:Nat):Int):=by rw[fW (by omega) (by omega)];omega
    have c1:dE PG (Instr.sliceAt aT (.string (tx (b0::t))) (some (.int .i64 ((at'+2:Nat):Int))) none none)=some (.string (tx (t.drop (at'+1)))):=by
     have:=lE (P:=PG) (t:=aT) (l:=b0::t) (i:=at'+2) (j:=(b0::t).length) (lo:=some (.int .i64 ((at'+2:Nat):Int))) (hi:=none) aT.und (.inr ⟨_,rfl⟩) (.inl ⟨rfl,rfl⟩) (by rw[ll];omega) (nQ _);rw[this,zLJ,hsd]
    have iy:dE PG (Instr.index aT (.string (tx (b0::t))) (.int .i64 ((at'+1:Nat):Int)))=some (.int .u8 y.toNat):=oZ (j:=at'+1) aT.und hy;have hy8:=y.toNat_lt;rw[ed,aT8] at hr;simp only[i0,aHg,g1,jS,g2,ga,c1,dF,reduceIte,dM,Nat.reduceAdd];refine aVJ (t.drop (at'+1)) (by rw[kD];omega) λh2 u2=>?_;simp only[dF,reduceIte,dM,Nat.reduceAdd];intro r16 hr16
    try rw[dY]
    refine cT.fill (vs:=(pU (0,t.drop (at'+1))).1.cells) hr16 rfl (Pk.isC _) λh3 B3 u3=>?_;have e3:=(w.trans u2).trans u3;by_cases ce:(pU (0,t.drop (at'+1))).2.1=0
    ·have q0:((pU (0,t.drop (at'+1))).2.1 !=0)=false:=by rw[ce];rfl
     rcases aJQ (t.drop (at'+1)) with⟨-,-,e2⟩|⟨-,-,-,e2⟩|⟨hle,-,eP⟩
     ·rw[ce] at e2;cases e2
     ·rw[ce] at e2;cases e2
     ·rw[kD] at hle;by_cases k1:(y.toNat:Int)<1
      ·have g3:((y.toNat:Int)<1)=True:=eq_true k1;rw[if_pos (.inl k1),eP,aH6 _ _ _ _ (by show(5:Int)≠0;decide)] at hr;simp only[fZ,q0,iy,g3,dF,reduceIte,dM,Nat.reduceAdd];exact bad 5 (by rw[←hr];rfl) (by decide) e3
      ·have g3:((y.toNat:Int)<1)=False:=eq_false k1;by_cases k2:(g:Int)<(y.toNat:Int)
       ·have g4:((g:Int)<(y.toNat:Int))=True:=eq_true k2;rw[if_pos (.inr k2),eP,aH6 _ _ _ _ (by show(5:Int)≠0;decide)] at hr;simp only[fZ,q0,iy,g3,aHg,g4,dF,reduceIte,dM,Nat.reduceAdd];exact bad 5 (by rw[←hr];rfl) (by decide) e3
       ·have g4:((g:Int)<(y.toNat:Int))=False:=eq_false k2;rw[if_neg (by omega)] at hr;simp only[fZ,q0,iy,g3,aHg,g4,aWU,dF,reduceIte,dM,Nat.reduceAdd];intro r47 hr47;refine jC ?_
        try rw[dY]
        have S4:jE (h3.set r47 (.cells #[.int .i64 (y.toNat:Int)] aR)) 1 (.slice (some ⟨r47,0,none⟩) 1 1) [[.int .i64 (y.toNat:Int)]]:=(fY.lit (e:=aR) (size:=1) (rows:=[[.int .i64 (y.toNat:Int)]]) (n:=1) (λr hr=>by simp only[jI] at hr;rw[hr];rfl) gB rfl (by decide) rfl).slR;have u4:eM h3 (h3.set r47 (.cells #[.int .i64 (y.toNat:Int)] aR)):=eH.new hr47;generalize h3.set r47 (.cells #[.int .i64 (y.toNat:Int)] aR)=h4 at *;have e4:=e3.trans u4;have u24:=(u2.trans u3).trans u4;refine mQ nA.und nA.und aR.info aR.size aR.bytes aR.zero rfl (by decide) (Ok.ext u24) S4 (by simp[gN]) (by rw[jJ,hacc];simp only[jY,lU];omega) ?_;intro v5 h5 G5 O5 u5 g5 _;have e5:=e4.fresh u5 fk;have nr16:r16∉Gk:=λhm=>(Ok.ext u2).known r16 hm hr16;have B5:=(B3.ext u4).upd u5 nr16;have Op5:=(Op.ext u24).upd u5 (λb hb hm=>dkp b hm hb);have f5:fX h G5:=λb hb=>by
         rcases g5 b hb with x|x
         ·exact fk b x
         ·exact e4.none x
        have d5:∀b∈G5,b∉Gp:=λb hb hm=>by
         rcases g5 b hb with x|x
         ·exact dkp b x hm
         ·exact(Op.ext u24).known b hm x
        simp only[aJ9 B5,aUm,dF,reduceIte,dM,Nat.reduceAdd];intro r54 hr54;refine jC ?_
        try rw[dY]
        have S6:jE (h5.set r54 (.cells (pU (0,t.drop (at'+1))).1.cells.toArray cT)) 4 (.slice (some ⟨r54,0,none⟩) 1 1) [(pU (0,t.drop (at'+1))).1.cells]:=(fY.lit (e:=cT) (size:=4) (rows:=[(pU (0,t.drop (at'+1))).1.cells]) (n:=1) (λr hr=>by simp only[jI] at hr;rw[hr];rfl) gB rfl (by decide) (by simp)).slR;have u6:eM h5 (h5.set r54 (.cells (pU (0,t.drop (at'+1))).1.cells.toArray cT)):=eH.new hr54;generalize h5.set r54 (.cells (pU (0,t.drop (at'+1))).1.cells.toArray cT)=h6 at *;have e6:=e5.trans u6;refine mQ jD.und jD.und cT.info cT.size cT.bytes cT.zero rfl (by decide) (Op5.ext u6) S6 (by simp[Pk.cells,gN]) (by rw[jJ,hacc];simp only[jY,lU];omega) ?_;intro v7 h7 G7 O7 u7 g7 _;have e7:=e6.fresh u7 fp;have O5':=(O5.ext u6).upd u7 d5;have f7:fX h G7:=λb hb=>by
         rcases g7 b hb with x|x
         ·exact fp b x
         ·exact e6.none x
        have d7:∀b∈G5,b∉G7:=λb hb hm=>by
         rcases g7 b hm with x|x
         ·exact d5 b hb x
         ·exact(O5.ext u6).known b hb x
        have hdl:=aT5 (t.drop (at'+1));have ga1:IntKind.i64.wrap (((at'+2:Nat):Int)+((19+dpN (t.drop (at'+1)):Nat):Int))=((at'+1+(19+dpN (t.drop (at'+1)))+1:Nat):Int):=by rw[fW (by omega) (by omega)];omega
        simp only[ce,if_true,ga,ga1,gi,dF,reduceIte,dM,Nat.reduceAdd];have en:b0.toNat-(i+1)=n:=by omega
        refine⟨⟨i+1,at'+1+(19+dpN (t.drop (at'+1))),acc++[((y.toNat:Int),(pU (0,t.drop (at'+1))).1)],v5,v7,G5,G7,by omega,by omega,by rw[kO,hacc];rfl,rfl,?_,?_,f5,f7,d7,e7,?_⟩,by simp[gT,x11];omega⟩
        ·rw[xX];exact O5'
        ·rw[xX];exact O7
        ·rw[en];rw[eP] at hr ⊢;rw[rQ] at hr;exact hr
    ·have q0:((pU (0,t.drop (at'+1))).2.1 !=0)=true:=bne_iff_ne.2 ce;have es:(if (y.toNat:Int)<1∨(g:Int)<(y.toNat:Int) then yO (pU (0,t.drop (at'+1))).2 5 else(pU (0,t.drop (at'+1))).2).1=(pU (0,t.drop (at'+1))).2.1:=by
      split
      ·unfold yO;exact if_neg ce
      ·rfl
     rw[aH6 _ _ _ _ (by show(if _ then _ else _:iX).1≠0;rw[es];exact ce)] at hr;simp only[fZ,q0,dF,reduceIte,dM,Nat.reduceAdd];exact bad _ (by rw[←hr];exact es) ce e3
  ·have g1:((i:Int)<(b0.toNat:Int))=False:=eq_false (by omega);have en:b0.toNat-i=0:=by omega
   rw[en] at hr;have hr:T=(acc,((0:Int),t.drop at')):=hr.symm;rw[hr] at hk;simp only[if_true] at hk;have dl:(t.drop at').length=t.length-at':=kD;simp only[i0,aHg,g1,dF,reduceIte,dM,Nat.reduceAdd];have:=hk h' vk vp Gk Gp Ok Op fk fp w (λ_=>⟨by rw[dl,ll];omega,by
    rw[dl,ll,show t.length+1-(t.length-at')=at'+1 by omega];rfl⟩)
   rw[show(b0::t).length-(t.drop at').length=at'+1 by rw[dl,ll];omega] at this;exact this
def aIx(g:Int)(s:Tx):(gM g (0,s)).1.length≤255:=by
 cases s with
 | nil=>rw[aG0];exact mK _
 | cons b t=>
  rw[aMj];have:=aLR g b.toNat (0,t) [];have hb:=b.toNat_lt;simp only[lU,kB] at this;show(if _ then _ else _:List (Int×Pk)).length≤255;split
  ·omega
  ·exact mK _
def aYM(a:Int)(p:Pk):dE PG (build dJ #[(1,.int .i64 a),(0,.agg p.cells.toArray)])=some (.agg (It.of (a,p)).cells.toArray):=by kernel_rfl
def aYe(x:It):lH PG (buildSlice dC 1 #[(0,.agg x.cells.toArray)])=some (.cells x.cells.toArray dJ,λr=>pure (.slice (some ⟨r,0,none⟩) 1 1)):=by kernel_rfl
def aP3{h:PH}(s:Tx)(hs:s.length≤1000000){k:dI}
  (hk:∀h' v G,fY h' dJ 5 v (((gM 2 (0,s)).1.map It.of).map It.cells) G->fX h G->eM h h'->((gM 2 (0,s)).2.1=0->(gM 2 (0,s)).2.2.length≤s.length∧(gM 2 (0,s)).2.2=s.drop (s.length-(gM 2 (0,s)).2.2.length))->
   k (.tuple #[v,.int .i64 (if (gM 2 (0,s)).2.1=0 then((s.length-(gM 2 (0,s)).2.2.length:Nat):Int) else 0),.int .i64 (gM 2 (0,s)).2.1]) h'):bR PG zX #[.string (tx s)] h k:=by
 apply qK.call;unfold qK;refine aRK s 2 hs λh1 vk vp Gk Gp Ok Op fk fp w hf=>?_;obtain⟨L,hL⟩:∃L,(gM 2 (0,s)).1=L:=⟨_,rfl⟩;have hlen:(gM 2 (0,s)).1.length≤255:=aIx 2 s;rw[show(gM ((2:Nat):Int) (0,s))=gM 2 (0,s) from rfl] at Ok Op hf ⊢;rw[hL] at Ok Op hk hlen;have lp:dE PG (Builtin.len_ #[jD] aR #[vp])=some (.int .i64 (L.length:Int)):=by
  have:=Op.slR.len (t':=aR) jD.und;rw[jJ] at this;exact this
 simp only[dF,reduceIte,dM,Nat.reduceAdd];obtain⟨nv,hnv⟩:∃nv:Value,nv= .int .i64 (if (gM 2 (0,s)).2.1=0 then((s.length-(gM 2 (0,s)).2.2.length:Nat):Int) else 0):=⟨_,rfl⟩;obtain⟨ev,hev⟩:∃ev:Value,ev= .int .i64 (gM 2 (0,s)).2.1:=⟨_,rfl⟩;rw[←hnv,←hev] at hk ⊢;refine⟨λvs h'=>∃(i:Nat) (v:Value) (G:List Nat),i≤L.length∧vs=[vk,vp,nv,ev,v,.int .i64 (i:Int)]∧fY h' dJ 5 v (((L.take i).map It.of).map It.cells) G∧fX h G∧(∀b∈Gk,b∉G)∧(∀b∈Gp,b∉G)∧fY h' aR 1 vk (L.map kc) Gk∧fY h' cT 4 vp (L.map pc) Gp∧eM h h',gT L.length 5,⟨0,.slice none 0 0,[],by omega,rfl,fY.nil,(λb hb=>by cases hb),(λb hb hm=>by cases hm),(λb hb hm=>by cases hm),Ok,Op,w⟩,?_⟩;rintro ρ h' ⟨i,v,G,hi,hvs,O,fG,dk,dp,Ok',Op',w'⟩;simp only[jF,kF,lT,and_true] at hvs;obtain⟨x5,x6,x7,x8,x9,x10⟩:=hvs;unfold aDO;rw[x5,x6,x7,x8,x9,x10];by_cases hlt:i<L.length
 ·have g1:((i:Int)<(L.length:Int))=True:=eq_true (by omega);have gi:=oM (i:=i) (by omega);obtain⟨x,hx⟩:∃x,L[i]? =some x:=⟨_,lG hlt⟩;obtain⟨a1,i1,l1⟩:=Ok'.slR.loadCell (t:=nA) (k:=.i64) (j:=(i:Int)) (x:=.int .i64 x.1) nA.und aR.info aR.size aR.und rfl (by omega) (by rw[xZ,xB,hx];rfl);obtain⟨a2,i2,l2⟩:=Op'.slR.loadAgg (t:=jD) (k:=.i64) (j:=(i:Int)) (r:=x.2.cells) jD.und cT.info cT.size cT.und rfl (by omega) (by rw[xZ,xB,hx];rfl);simp only[lp,g1,i1,l1,i2,l2,aYM,aYe,dF,reduceIte,dM,Nat.reduceAdd];intro r16 hr16;refine jC ?_
  try rw[dY]
  have S4:jE (h'.set r16 (.cells (It.of (x.1,x.2)).cells.toArray dJ)) 5 (.slice (some ⟨r16,0,none⟩) 1 1) [(It.of (x.1,x.2)).cells]:=(fY.lit (e:=dJ) (size:=5) (rows:=[(It.of (x.1,x.2)).cells]) (n:=1) (λr hr=>by simp only[jI] at hr;rw[hr];rfl) gB rfl (by decide) (by simp)).slR;have u4:eM h' (h'.set r16 (.cells (It.of (x.1,x.2)).cells.toArray dJ)):=eH.new hr16;generalize h'.set r16 (.cells (It.of (x.1,x.2)).cells.toArray dJ)=h4 at *;have e4:=w'.trans u4;refine mQ dC.und dC.und dJ.info dJ.size dJ.bytes dJ.zero rfl (by decide) (O.ext u4) S4 (by simp[It.cells,gN]) (by simp only[jJ,mT,jY,lU];omega) ?_;intro v5 h5 G5 O5 u5 g5 _;have f5:fX h G5:=λb hb=>by
   rcases g5 b hb with y|y
   ·exact fG b y
   ·exact e4.none y
  simp only[gi,dF,reduceIte,dM,Nat.reduceAdd];refine⟨⟨i+1,v5,G5,by omega,rfl,?_,f5,(λb hb hm=>?_),(λb hb hm=>?_),(Ok'.ext u4).upd u5 dk,(Op'.ext u4).upd u5 dp,e4.fresh u5 fG⟩,by simp[gT,x10];omega⟩
  ·rw[zLR,hx,xX,xX];exact O5
  ·rcases g5 b hm with y|y
   ·exact dk b hb y
   ·exact(Ok'.ext u4).known b hb y
  ·rcases g5 b hm with y|y
   ·exact dp b hb y
   ·exact(Op'.ext u4).known b hb y
 ·have g1:((i:Int)<(L.length:Int))=False:=eq_false (by omega);have et:L.take i=L:=sU (by omega);rw[et] at O;simp only[lp,g1,dF,reduceIte,dM,Nat.reduceAdd];exact hk h' v G O fG w' hf
def aYU(a:Int)(p:Pk):dE PG (build dP #[(0,.int .i64 a),(1,.agg p.cells.toArray)])=some (.agg (Nt.of (a,p)).cells.toArray):=by kernel_rfl
def aYK(x:Nt):lH PG (buildSlice eK 1 #[(0,.agg x.cells.toArray)])=some (.cells x.cells.toArray dP,λr=>pure (.slice (some ⟨r,0,none⟩) 1 1)):=by kernel_rfl
def aPk{h:PH}(s:Tx)(hs:s.length≤1000000){k:dI}
  (hk:∀h' v G,fY h' dP 5 v (((gM 4 (0,s)).1.map Nt.of).map Nt.cells) G->fX h G->eM h h'->((gM 4 (0,s)).2.1=0->(gM 4 (0,s)).2.2.length≤s.length∧(gM 4 (0,s)).2.2=s.drop (s.length-(gM 4 (0,s)).2.2.length))->
   k (.tuple #[v,.int .i64 (if (gM 4 (0,s)).2.1=0 then((s.length-(gM 4 (0,s)).2.2.length:Nat):Int) else 0),.int .i64 (gM 4 (0,s)).2.1]) h'):bR PG zP #[.string (tx s)] h k:=by
 apply qD.call;unfold qD;refine aRK s 4 hs λh1 vk vp Gk Gp Ok Op fk fp w hf=>?_;obtain⟨L,hL⟩:∃L,(gM 4 (0,s)).1=L:=⟨_,rfl⟩;have hlen:(gM 4 (0,s)).1.length≤255:=aIx 4 s;rw[show(gM ((4:Nat):Int) (0,s))=gM 4 (0,s) from rfl] at Ok Op hf ⊢;rw[hL] at Ok Op hk hlen;have lp:dE PG (Builtin.len_ #[jD] aR #[vp])=some (.int .i64 (L.length:Int)):=by
  have:=Op.slR.len (t':=aR) jD.und;rw[jJ] at this;exact this
 simp only[dF,reduceIte,dM,Nat.reduceAdd];obtain⟨nv,hnv⟩:∃nv:Value,nv= .int .i64 (if (gM 4 (0,s)).2.1=0 then((s.length-(gM 4 (0,s)).2.2.length:Nat):Int) else 0):=⟨_,rfl⟩;obtain⟨ev,hev⟩:∃ev:Value,ev= .int .i64 (gM 4 (0,s)).2.1:=⟨_,rfl⟩;rw[←hnv,←hev] at hk ⊢;refine⟨λvs h'=>∃(i:Nat) (v:Value) (G:List Nat),i≤L.length∧vs=[vk,vp,nv,ev,v,.int .i64 (i:Int)]∧fY h' dP 5 v (((L.take i).map Nt.of).map Nt.cells) G∧fX h G∧(∀b∈Gk,b∉G)∧(∀b∈Gp,b∉G)∧fY h' aR 1 vk (L.map kc) Gk∧fY h' cT 4 vp (L.map pc) Gp∧eM h h',gT L.length 5,⟨0,.slice none 0 0,[],by omega,rfl,fY.nil,(λb hb=>by cases hb),(λb hb hm=>by cases hm),(λb hb hm=>by cases hm),Ok,Op,w⟩,?_⟩;rintro ρ h' ⟨i,v,G,hi,hvs,O,fG,dk,dp,Ok',Op',w'⟩;simp only[jF,kF,lT,and_true] at hvs;obtain⟨x5,x6,x7,x8,x9,x10⟩:=hvs;unfold aDS;rw[x5,x6,x7,x8,x9,x10];by_cases hlt:i<L.length
 ·have g1:((i:Int)<(L.length:Int))=True:=eq_true (by omega);have gi:=oM (i:=i) (by omega);obtain⟨x,hx⟩:∃x,L[i]? =some x:=⟨_,lG hlt⟩;obtain⟨a1,i1,l1⟩:=Ok'.slR.loadCell (t:=nA) (k:=.i64) (j:=(i:Int)) (x:=.int .i64 x.1) nA.und aR.info aR.size aR.und rfl (by omega) (by rw[xZ,xB,hx];rfl);obtain⟨a2,i2,l2⟩:=Op'.slR.loadAgg (t:=jD) (k:=.i64) (j:=(i:Int)) (r:=x.2.cells) jD.und cT.info cT.size cT.und rfl (by omega) (by rw[xZ,xB,hx];rfl);simp only[lp,g1,i1,l1,i2,l2,aYU,aYK,dF,reduceIte,dM,Nat.reduceAdd];intro r16 hr16;refine jC ?_
  try rw[dY]
  have S4:jE (h'.set r16 (.cells (Nt.of (x.1,x.2)).cells.toArray dP)) 5 (.slice (some ⟨r16,0,none⟩) 1 1) [(Nt.of (x.1,x.2)).cells]:=(fY.lit (e:=dP) (size:=5) (rows:=[(Nt.of (x.1,x.2)).cells]) (n:=1) (λr hr=>by simp only[jI] at hr;rw[hr];rfl) gB rfl (by decide) (by simp)).slR;have u4:eM h' (h'.set r16 (.cells (Nt.of (x.1,x.2)).cells.toArray dP)):=eH.new hr16;generalize h'.set r16 (.cells (Nt.of (x.1,x.2)).cells.toArray dP)=h4 at *;have e4:=w'.trans u4;refine mQ eK.und eK.und dP.info dP.size dP.bytes dP.zero rfl (by decide) (O.ext u4) S4 (by simp[Nt.cells,gN]) (by simp only[jJ,mT,jY,lU];omega) ?_;intro v5 h5 G5 O5 u5 g5 _;have f5:fX h G5:=λb hb=>by
   rcases g5 b hb with y|y
   ·exact fG b y
   ·exact e4.none y
  simp only[gi,dF,reduceIte,dM,Nat.reduceAdd];refine⟨⟨i+1,v5,G5,by omega,rfl,?_,f5,(λb hb hm=>?_),(λb hb hm=>?_),(Ok'.ext u4).upd u5 dk,(Op'.ext u4).upd u5 dp,e4.fresh u5 fG⟩,by simp[gT,x10];omega⟩
  ·rw[zLR,hx,xX,xX];exact O5
  ·rcases g5 b hm with y|y
   ·exact dk b hb y
   ·exact(Ok'.ext u4).known b hb y
  ·rcases g5 b hm with y|y
   ·exact dp b hb y
   ·exact(Op'.ext u4).known b hb y
 ·have g1:((i:Int)<(L.length:Int))=False:=eq_false (by omega);have et:L.take i=L:=sU (by omega);rw[et] at O;simp only[lp,g1,dF,reduceIte,dM,Nat.reduceAdd];exact hk h' v G O fG w' hf
def aPX{e:Int}{t:Tx}(he:e≠0):iR (e,t)=(Pl.zero,(e,t)):=by
 have h0:¬(65535<(0:Nat)):=by omega
 unfold iR;simp only[aHQ he,h0,if_false];rw[if_neg he]
def aIE{g e:Int}{t:Tx}(he:e≠0):gM g (e,t)=([],(e,t)):=by
 unfold gM;simp only[aHQ he];show(if e=0 then([]:List (Int×Pk)) else [],(e,t))=_;rw[if_neg he]
def aPv{e:Int}{t:Tx}(he:e≠0):aHU (e,t)=e:=by
 unfold aHU;rw[if_neg (λh=>he h.1)]
def aUI{e x:Int}{t:Tx}(he:e≠0):yO (e,t) x=(e,t):=by
 unfold yO;simp only;rw[if_neg he]
def aDQ{s:Tx}{e:Int}{t:Tx}(h:(Rc.rd s).2=(e,t))(he:e≠0):iK s=(Rc.zero,e):=by
 have e1:xA s=(e,t):=by
  unfold xA;rw[h];split
  ·rfl
  ·exact aUI he
 unfold iK;rw[e1,aPv he,if_pos he]
def aKT{s t:Tx}(h:(Rc.rd s).2=((0:Int),t))(hp:(Rc.rd s).1.plain=false):iK s=(Rc.zero,5):=by
 have e1:xA s=((5:Int),t):=by
  unfold xA;rw[h,hp];rfl
 unfold iK;rw[e1,aPv (by decide),if_pos (by decide)]
def aOa{s t:Tx}(h:(Rc.rd s).2=((0:Int),t))(hp:(Rc.rd s).1.plain=true):iK s=if t≠[] then(Rc.zero,7) else((Rc.rd s).1,0):=by
 have e1:xA s=((0:Int),t):=by
  unfold xA;rw[h,hp];rfl
 unfold iK;rw[e1];by_cases c:t=[]
 ·have:aHU ((0:Int),t)=0:=by unfold aHU;rw[if_neg (λh=>h.2 c)]
  rw[this,if_neg (by simp),if_neg (by simpa using c)]
 ·have:aHU ((0:Int),t)=7:=by unfold aHU;rw[if_pos ⟨rfl,c⟩]
  rw[this,if_pos (by decide),if_pos c]
def aCj(t:Tx):Rc×Int:=
 if (iR (0,t)).2.1≠0 then(Rc.zero,(iR (0,t)).2.1)
 else if (iR (0,t.drop 16)).2.1≠0 then(Rc.zero,(iR (0,t.drop 16)).2.1)
 else if (gM 2 (0,t.drop 32)).2.1≠0 then(Rc.zero,(gM 2 (0,t.drop 32)).2.1)
 else if 40<(gM 2 (0,t.drop 32)).1.length then(Rc.zero,5)
 else if (gM 2 (0,t.drop 32)).2.2≠[] then(Rc.zero,7)
 else(⟨1,⟨(iR (0,t)).1,(iR (0,t.drop 16)).1,(gM 2 (0,t.drop 32)).1.map It.of⟩,0,Pl.zero,[]⟩,0)
def aJn{t:Tx}(h:(iR (0,t)).2.1=0):(iR (0,t)).2=((0:Int),t.drop 16)∧16≤t.length:=by
 rcases aOy t with⟨-,-,e⟩|⟨-,-,-,e⟩|⟨c,-,e⟩
 ·rw[h] at e;cases e
 ·rw[h] at e;cases e
 ·rw[e];exact⟨rfl,c⟩
def rd1(t:Tx):Rc.rd (1::t)=(⟨1,⟨(iR (0,t)).1,(iR (iR (0,t)).2).1,(gM 2 (iR (iR (0,t)).2).2).1.map It.of⟩,0,Pl.zero,[]⟩,(gM 2 (iR (iR (0,t)).2).2).2):=by
 have e:gO (0,1::t) 1=(1,((0:Int),t)):=by
  rw[qC (t:=1::t) (c:=1) (by simp)];rfl
 unfold Rc.rd;rw[e];rfl
def rd2(t:Tx):Rc.rd (2::t)=(⟨2,Dm.zero,(gO (0,t) 1).1,(iR (gO (0,t) 1).2).1,(gM 4 (iR (gO (0,t) 1).2).2).1.map Nt.of⟩,(gM 4 (iR (gO (0,t) 1).2).2).2):=by
 have e:gO (0,2::t) 1=(2,((0:Int),t)):=by
  rw[qC (t:=2::t) (c:=1) (by simp)];rfl
 unfold Rc.rd;rw[e];rfl
def aMJ(t:Tx):iK (1::t)=aCj t:=by
 have hr:=rd1 t;unfold aCj;by_cases c0:(iR (0,t)).2.1=0
 ·rw[if_neg (λx=>x c0)];rw[(aJn c0).1] at hr;by_cases c1:(iR (0,t.drop 16)).2.1=0
  ·rw[if_neg (λx=>x c1)];rw[(aJn c1).1,rQ] at hr;by_cases c2:(gM 2 (0,t.drop 32)).2.1=0
   ·rw[if_neg (λx=>x c2)];have e2:(Rc.rd (1::t)).2=((0:Int),(gM 2 (0,t.drop 32)).2.2):=by
     rw[hr];exact Prod.ext c2 rfl
    by_cases c3:40<(gM 2 (0,t.drop 32)).1.length
    ·rw[if_pos c3];refine aKT e2 ?_;rw[hr];unfold Rc.plain;simp only[if_true,jJ];have:decide ((gM 2 (0,t.drop 32)).1.length≤40)=false:=decide_eq_false (by omega);rw[this,aJY]
    ·rw[if_neg c3];have hp:(Rc.rd (1::t)).1.plain=true:=by
      rw[hr];unfold Rc.plain;simp only[if_true,jJ];have:decide ((gM 2 (0,t.drop 32)).1.length≤40)=true:=decide_eq_true (by omega);rw[this];rfl
     rw[aOa e2 hp,hr]
   ·rw[if_pos c2];refine aDQ (t:=(gM 2 (0,t.drop 32)).2.2) ?_ c2;rw[hr]
  ·rw[if_pos c1];refine aDQ (t:=(iR (0,t.drop 16)).2.2) ?_ c1;rw[hr];show(gM 2 ((iR (0,t.drop 16)).2.1,(iR (0,t.drop 16)).2.2)).2=_;rw[aIE c1]
 ·rw[if_pos c0];refine aDQ (t:=(iR (0,t)).2.2) ?_ c0;rw[hr];show(gM 2 (iR ((iR (0,t)).2.1,(iR (0,t)).2.2)).2).2=_;rw[aPX c0];show(gM 2 ((iR (0,t)).2.1,(iR (0,t)).2.2)).2=_;rw[aIE c0]
def aGG:Tx->Rc×Int
 | []=>(Rc.zero,6)
 | b::t=>
  if (iR (0,t)).2.1≠0 then(Rc.zero,(iR (0,t)).2.1)
  else if (gM 4 (0,t.drop 16)).2.1≠0 then(Rc.zero,(gM 4 (0,t.drop 16)).2.1)
  else if 1<b.toNat∨16<(gM 4 (0,t.drop 16)).1.length then(Rc.zero,5)
  else if (gM 4 (0,t.drop 16)).2.2≠[] then(Rc.zero,7)
  else(⟨2,Dm.zero,(b.toNat:Int),(iR (0,t)).1,(gM 4 (0,t.drop 16)).1.map Nt.of⟩,0)
def aMl(t:Tx):iK (2::t)=aGG t:=by
 have hr:=rd2 t;cases t with
 | nil=>
  rw[aCm (t:=[]) (c:=1) (by simp)] at hr;refine aDQ (t:=[]) ?_ (by decide);rw[hr];show(gM 4 (iR ((6:Int),[])).2).2=_;rw[aPX (by decide)];show(gM 4 ((6:Int),[])).2=_;rw[aIE (by decide)]
 | cons b t=>
  have eg:gO (0,b::t) 1=(b.toNat,((0:Int),t)):=by
   rw[qC (t:=b::t) (c:=1) (by simp)];simp[mJ]
  rw[eg] at hr;simp only at hr;simp only[aGG];by_cases c0:(iR (0,t)).2.1=0
  ·rw[if_neg (λx=>x c0)];rw[(aJn c0).1] at hr;by_cases c2:(gM 4 (0,t.drop 16)).2.1=0
   ·rw[if_neg (λx=>x c2)];have e2:(Rc.rd (2::b::t)).2=((0:Int),(gM 4 (0,t.drop 16)).2.2):=by
     rw[hr];exact Prod.ext c2 rfl
    have epl:(Rc.rd (2::b::t)).1.plain=((decide ((b.toNat:Int)=0)||decide ((b.toNat:Int)=1))&&decide ((gM 4 (0,t.drop 16)).1.length≤16)):=by
     rw[hr];unfold Rc.plain;rw[if_neg (by show ¬((2:Int)=1);decide),if_pos rfl];simp only[jJ];rfl
    by_cases c3:1<b.toNat∨16<(gM 4 (0,t.drop 16)).1.length
    ·rw[if_pos c3];refine aKT e2 ?_;rw[epl];rcases c3 with c3|c3
     ·have a1:decide ((b.toNat:Int)=0)=false:=decide_eq_false (by omega);have a2:decide ((b.toNat:Int)=1)=false:=decide_eq_false (by omega);rw[a1,a2];rfl
     ·have:decide ((gM 4 (0,t.drop 16)).1.length≤16)=false:=decide_eq_false (by omega);rw[this,aJY]
    ·rw[if_neg c3];have hp:(Rc.rd (2::b::t)).1.plain=true:=by
      rw[epl];have a1:(decide ((b.toNat:Int)=0)||decide ((b.toNat:Int)=1))=true:=by
       rw[aHb,decide_eq_true_iff,decide_eq_true_iff];omega
      have a2:decide ((gM 4 (0,t.drop 16)).1.length≤16)=true:=decide_eq_true (by omega);rw[a1,a2];rfl
     rw[aOa e2 hp,hr]
   ·rw[if_pos c2];refine aDQ (t:=(gM 4 (0,t.drop 16)).2.2) ?_ c2;rw[hr]
  ·rw[if_pos c0];refine aDQ (t:=(iR (0,t)).2.2) ?_ c0;rw[hr];show(gM 4 ((iR (0,t)).2.1,(iR (0,t)).2.2)).2=_;rw[aIE c0]
def aOY:iK []=(Rc.zero,6):=by
 refine aDQ (t:=[]) ?_ (by decide);unfold Rc.rd;rw[aCm (t:=[]) (c:=1) (by simp)];rfl
def aMK{b:UInt8}{t:Tx}(h1:b≠1)(h2:b≠2):iK (b::t)=(Rc.zero,5):=by
 have eg:gO (0,b::t) 1=(b.toNat,((0:Int),t)):=by
  rw[qC (t:=b::t) (c:=1) (by simp)];simp[mJ]
 have n1:¬b.toNat=1:=λe=>h1 (UInt8.toNat_inj.1 e);have n2:¬b.toNat=2:=λe=>h2 (UInt8.toNat_inj.1 e);have hr:Rc.rd (b::t)=(⟨(b.toNat:Int),Dm.zero,0,Pl.zero,[]⟩,((0:Int),t)):=by
  unfold Rc.rd;rw[eg];simp only;rw[if_neg n1,if_neg n2]
 refine aKT (t:=t) (by rw[hr]) ?_;rw[hr];unfold Rc.plain;rw[if_neg (by simp only;omega),if_neg (by simp only;omega)]
def aIK{h:PH}{r:Nat}{x:Rc}{v w:Value}(B:Bx h r (x.cells v w)):dH PG h (loadAt bT (pT r 0))=some (x.v v w):=bT.agg B (by show 0+10≤10;decide)
def aFj{h h':PH}{h0:PH}{n:Nat}{v:Value}{rows:List (List Value)}{r:Nat}(S:jE h n v rows)(N:jV h0 v)(hr:h0 r≠none)(u:eH [r] h h'):jE h' n v rows:=S.upd u λa m c e hm=>by
 simp only[jI] at hm;exact hr (hm▸N a m c e)
def rcI(t:Tx):Nat->Rc
 | 0=>⟨1,Dm.zero,0,Pl.zero,[]⟩
 | 1=>⟨1,⟨(iR (0,t)).1,Pl.zero,[]⟩,0,Pl.zero,[]⟩
 | _=>⟨1,⟨(iR (0,t)).1,(iR (0,t.drop 16)).1,[]⟩,0,Pl.zero,[]⟩
def aM2(q:Pl):∀v∈q.cells,gN v=true:=by simp[Pl.cells,gN]
def aUA{h:PH}(t:Tx)(hs:t.length≤1000000){k:dI}
  (hk:∀h' vi,kV h' vi (aCj t).1.s.its->jV h vi->(aCj t).1.ns=[]->eM h h'->k (.tuple #[(aCj t).1.v vi (.slice none 0 0),.int .i64 (aCj t).2]) h'):bR PG aBi #[.string (tx t)] h k:=by
 apply aA4.call;unfold aA4;intro r1 hr1
 try rw[dY]
 have Z1:Bx (h.set r1 (.cells (eX PG bT) bT)) r1 (Rc.zero.cells (.slice none 0 0) (.slice none 0 0)):=bT.zbox;have u1:eM h (h.set r1 (.cells (eX PG bT) bT)):=eH.new hr1;generalize h.set r1 (.cells (eX PG bT) bT)=h1 at *;have rb:dE PG (build bT #[(0,.int .i64 1)])=some ((rcI t 0).v (.slice none 0 0) (.slice none 0 0)):=by kernel_rfl
 simp only[rb,dF,reduceIte,dM,Nat.reduceAdd];intro r4 hr4
 try rw[dY]
 refine bT.fill (vs:=(rcI t 0).cells (.slice none 0 0) (.slice none 0 0)) hr4 rfl (Rc.isC _ rfl rfl) λh2 B2 u2=>?_;have e2:=u1.trans u2;have n14:r1≠r4:=Z1.apart hr4;have f1:fX h [r1]:=fX.one hr1;have f4:fX h [r4]:=fX.one (u1.none hr4);have k1:h1 r1≠none:=Z1.known;have hDm:∀e:Int,(Rc.zero).ns=[]:=λ_=>rfl;have fin:∀{h':PH} (x:Rc) (e:Int) (vi:Value),aCj t=(x,e)->kV h' vi x.s.its->jV h1 vi->x.ns=[]->Bx h' r1 (Rc.zero.cells (.slice none 0 0) (.slice none 0 0))->eM h h'->dT PG (dX bT (pT r1 0) (x.v vi (.slice none 0 0))) h' λ_ h8=>dA (dH PG h8 (loadAt bT (pT r1 0))) λv9=>k (.tuple #[v9,.int .i64 e]) h8:=by
  intro h' x e vi hx S N hns B w;refine bT.put B (vs:=x.cells vi (.slice none 0 0)) (o:=0) rfl (by show 0+10≤10;decide) (Rc.isC _ S.isc rfl) λh3 B3 u3=>?_;have B3:Bx h3 r1 (x.cells vi (.slice none 0 0)):=B3;simp only[aIK B3,jQ,zPP];have:=hk h3 vi (by rw[hx];exact aFj S N k1 u3) (N.of u1) (by rw[hx];exact hns) (w.fresh u3 f1);rw[hx] at this;exact this
 have bad:∀{h':PH} (e:Int),aCj t=(Rc.zero,e)->Bx h' r1 (Rc.zero.cells (.slice none 0 0) (.slice none 0 0))->eM h h'->dT PG (dX bT (pT r1 0) (Rc.zero.v (.slice none 0 0) (.slice none 0 0))) h' λ_ h8=>dA (dH PG h8 (loadAt bT (pT r1 0))) λv9=>k (.tuple #[v9,.int .i64 e]) h8:=
  λe he B w=>fin Rc.zero e (.slice none 0 0) he aEE jV.nil rfl B w
 refine⟨λvs h'=>∃i:Nat,i≤2∧16*i≤t.length∧vs=[.string (tx (t.drop (16*i))),pT r1 0,pT r4 0,.int .i64 (i:Int)]∧Bx h' r4 ((rcI t i).cells (.slice none 0 0) (.slice none 0 0))∧Bx h' r1 (Rc.zero.cells (.slice none 0 0) (.slice none 0 0))∧eM h1 h'∧(1≤i->(iR (0,t)).2.1=0)∧(2≤i->(iR (0,t.drop 16)).2.1=0),gT 2 3,⟨0,by omega,by omega,rfl,B2,Z1.ext u2,u2,(λh=>by omega),(λh=>by omega)⟩,?_⟩;rintro ρ h' ⟨i,hi,h16,hvs,B,Z,w,p0,p1⟩;simp only[jF,kF,lT,and_true] at hvs;obtain⟨x0,x2,x4,x5⟩:=hvs;unfold aFH;rw[x0,x2,x4,x5];have w0:=u1.trans w;by_cases hlt:i<2
 ·have g:((i:Int)<2)=True:=eq_true (by omega);have gi:=oM (i:=i) (by omega);simp only[g,dF,reduceIte,dM,Nat.reduceAdd];refine aLE (t.drop (16*i)) (by rw[kD];omega) λh3 u3=>?_;simp only[dF,reduceIte,dM,Nat.reduceAdd];intro r16 hr16
  try rw[dY]
  refine dK.fill (vs:=(iR (0,t.drop (16*i))).1.cells) hr16 rfl (aM2 _) λh4 B4 u4=>?_;have e34:=u3.trans u4;by_cases c:(iR (0,t.drop (16*i))).2.1=0
  ·have q:((iR (0,t.drop (16*i))).2.1 !=0)=false:=by rw[c];rfl
   have hf:=(aJn c).2;rw[kD] at hf;have l4:dH PG h4 (loadAt dK (pT r16 0))=some (.agg (iR (0,t.drop (16*i))).1.cells.toArray):=aCn B4 rfl;have ixi:dE PG (indexAt eD (pT r4 1) (.int .i64 (i:Int)))=some (pT r4 (1+i*2)):=ixQ hlt;have c16:dE PG (Instr.sliceAt aT (.string (tx (t.drop (16*i)))) (some (.int .i64 16)) none none)=some (.string (tx (t.drop (16*(i+1))))):=by
    have:=lE (P:=PG) (t:=aT) (l:=t.drop (16*i)) (i:=16) (j:=(t.drop (16*i)).length) (lo:=some (.int .i64 16)) (hi:=none) aT.und (.inr ⟨_,rfl⟩) (.inl ⟨rfl,rfl⟩) (by rw[kD];omega) (nQ _);rw[this,zLJ,rQ,Nat.mul_succ]
   simp only[fZ,q,c,if_true,l4,bT.f1,cR.f0,ixi,dF,reduceIte,dM,Nat.reduceAdd];have i01:i=0∨i=1:=by omega
   refine dK.put (B.ext e34) (vs:=(iR (0,t.drop (16*i))).1.cells) (o:=1+i*2) rfl (by show 1+i*2+2≤10;omega) (aM2 _) λh5 B5 u5=>?_;have B5:Bx h5 r4 ((rcI t (i+1)).cells (.slice none 0 0) (.slice none 0 0)):=by
    rcases i01 with rfl|rfl
    ·exact B5
    ·exact B5
   simp only[c16,gi,dF,reduceIte,dM,Nat.reduceAdd];refine⟨⟨i+1,by omega,by omega,rfl,B5,(Z.ext e34).upd u5 (by simpa using n14),(w.trans e34).fresh u5 (fX.one hr4),λ_=>?_,λh2=>?_⟩,by simp[gT,x5];omega⟩
   ·rcases i01 with rfl|rfl
    ·exact c
    ·exact p0 (by omega)
   ·rcases i01 with rfl|rfl
    ·omega
    ·exact c
  ·have q:((iR (0,t.drop (16*i))).2.1 !=0)=true:=bne_iff_ne.2 c;simp only[fZ,q,wV,dF,reduceIte,dM,Nat.reduceAdd];refine bad _ ?_ (Z.ext e34) (w0.trans e34);have i01:i=0∨i=1:=by omega
   unfold aCj;rcases i01 with rfl|rfl
   ·exact if_pos (show(iR (0,t)).2.1≠0 from c)
   ·rw[if_neg (λx=>x (p0 (by omega)))];exact if_pos (show(iR (0,t.drop 16)).2.1≠0 from c)
 ·have g:((i:Int)<2)=False:=eq_false (by omega);obtain rfl:i=2:=by omega
  have hp0:=p0 (by omega);have hp1:=p1 (by omega);have dS:aCj t=if (gM 2 (0,t.drop 32)).2.1≠0 then(Rc.zero,(gM 2 (0,t.drop 32)).2.1)
    else if 40<(gM 2 (0,t.drop 32)).1.length then(Rc.zero,5)
    else if (gM 2 (0,t.drop 32)).2.2≠[] then(Rc.zero,7)
    else(⟨1,⟨(iR (0,t)).1,(iR (0,t.drop 16)).1,(gM 2 (0,t.drop 32)).1.map It.of⟩,0,Pl.zero,[]⟩,0):=by
   unfold aCj;rw[if_neg (λx=>x hp0),if_neg (λx=>x hp1)]
  simp only[g,dF,reduceIte,dM,Nat.reduceAdd];refine aP3 (t.drop 32) (by rw[kD];omega) λh3 v G O3 fG u3 hf=>?_;have NV:jV h1 v:=(O3.newV fG).of w;have lv:dE PG (Builtin.len_ #[dC] aR #[v])=some (.int .i64 ((gM 2 (0,t.drop 32)).1.length:Int)):=by
   have:=It.len O3.slR;rw[jJ] at this;exact this
  obtain⟨L,hL⟩:∃L,gM 2 (0,t.drop 32)=L:=⟨_,rfl⟩;rw[hL] at dS O3 lv hf ⊢;by_cases c2:L.2.1=0
  ·have q2:(L.2.1 !=0)=false:=by rw[c2];rfl
   rw[if_neg (λx=>x c2)] at dS;obtain⟨hf1,hf2⟩:=hf c2;by_cases c3:40<L.1.length
   ·have g3:((40:Int)<(L.1.length:Int))=True:=eq_true (by omega);rw[if_pos c3] at dS;simp only[fZ,q2,lv,g3,wV,dF,reduceIte,dM,Nat.reduceAdd];exact bad 5 dS (Z.ext u3) (w0.trans u3)
   ·have g3:((40:Int)<(L.1.length:Int))=False:=eq_false (by omega);rw[if_neg c3] at dS;by_cases c4:L.2.2=[]
    ·have g4:((((t.drop 32).length-L.2.2.length:Nat):Int)<((t.drop 32).length:Int))=False:=eq_false (by rw[c4];simp);rw[if_neg (λx=>x c4)] at dS;simp only[fZ,q2,lv,g3,c2,if_true,jS,g4,bT.f1,cR.f1,dF,reduceIte,dM,Nat.reduceAdd];refine dC.put (B.ext u3) (o:=5) (by show 5<10;decide) O3.slR.isc λh4 B4 u4=>?_;have B4:Bx h4 r4 (Rc.cells ⟨1,⟨(iR (0,t)).1,(iR (0,t.drop 16)).1,L.1.map It.of⟩,0,Pl.zero,[]⟩ v (.slice none 0 0)):=B4;simp only[aIK B4,dF,reduceIte,dM,Nat.reduceAdd];have S4:kV h4 v (L.1.map It.of):=aFj O3.slR (O3.newV fG) (B.known) u4;exact fin _ 0 v dS S4 NV rfl ((Z.ext u3).upd u4 (by simpa using n14)) ((w0.trans u3).fresh u4 f4)
    ·have g4:((((t.drop 32).length-L.2.2.length:Nat):Int)<((t.drop 32).length:Int))=True:=by
      have:0<L.2.2.length:=aKL.2 c4;exact eq_true (by omega)
     rw[if_pos c4] at dS;simp only[fZ,q2,lv,g3,c2,if_true,jS,g4,wV,dF,reduceIte,dM,Nat.reduceAdd];exact bad 7 dS (Z.ext u3) (w0.trans u3)
  ·have q2:(L.2.1 !=0)=true:=bne_iff_ne.2 c2;rw[if_pos c2] at dS;simp only[fZ,q2,wV,dF,reduceIte,dM,Nat.reduceAdd];exact bad _ dS (Z.ext u3) (w0.trans u3)
def aYL(c:Int):dE PG (build bT #[(0,.int .i64 2),(2,.int .i64 c)])=some (Rc.v ⟨2,Dm.zero,c,Pl.zero,[]⟩ (.slice none 0 0) (.slice none 0 0)):=by kernel_rfl
def aRp{h:PH}(s:Tx)(hs:s.length≤1000000){k:dI}
  (hk:∀h' vn,wX h' vn (aGG s).1.ns->jV h vn->(aGG s).1.s.its=[]->eM h h'->k (.tuple #[(aGG s).1.v (.slice none 0 0) vn,.int .i64 (aGG s).2]) h'):bR PG aCQ #[.string (tx s)] h k:=by
 apply aBd.call;unfold aBd;intro r1 hr1
 try rw[dY]
 have Z1:Bx (h.set r1 (.cells (eX PG bT) bT)) r1 (Rc.zero.cells (.slice none 0 0) (.slice none 0 0)):=bT.zbox;have u1:eM h (h.set r1 (.cells (eX PG bT) bT)):=eH.new hr1;generalize h.set r1 (.cells (eX PG bT) bT)=h1 at *;have f1:fX h [r1]:=fX.one hr1;have k1:h1 r1≠none:=Z1.known;have fin:∀{h':PH} (x:Rc) (e:Int) (vn:Value),aGG s=(x,e)->wX h' vn x.ns->jV h1 vn->x.s.its=[]->Bx h' r1 (Rc.zero.cells (.slice none 0 0) (.slice none 0 0))->eM h h'->dT PG (dX bT (pT r1 0) (x.v (.slice none 0 0) vn)) h' λ_ h8=>dA (dH PG h8 (loadAt bT (pT r1 0))) λv9=>k (.tuple #[v9,.int .i64 e]) h8:=by
  intro h' x e vn hx S N hns B w;refine bT.put B (vs:=x.cells (.slice none 0 0) vn) (o:=0) rfl (by show 0+10≤10;decide) (Rc.isC _ rfl S.isc) λh3 B3 u3=>?_;have B3:Bx h3 r1 (x.cells (.slice none 0 0) vn):=B3;simp only[aIK B3,jQ,zPP];have:=hk h3 vn (by rw[hx];exact aFj S N k1 u3) (N.of u1) (by rw[hx];exact hns) (w.fresh u3 f1);rw[hx] at this;exact this
 have bad:∀{h':PH} (e:Int),aGG s=(Rc.zero,e)->Bx h' r1 (Rc.zero.cells (.slice none 0 0) (.slice none 0 0))->eM h h'->dT PG (dX bT (pT r1 0) (Rc.zero.v (.slice none 0 0) (.slice none 0 0))) h' λ_ h8=>dA (dH PG h8 (loadAt bT (pT r1 0))) λv9=>k (.tuple #[v9,.int .i64 e]) h8:=
  λe he B w=>fin Rc.zero e (.slice none 0 0) he aMa jV.nil rfl B w
 cases s with
 | nil=>
  have e0:dH PG h1 (gV .eql aT (.tmp 9) (.const (.string {data:=#[]})) (.string (tx [])) (.string {data:=#[]}))=some (.bool true):=by
   have:=aFs (t:=aT) (h:=h1) (x:=.tmp 9) (y:=.const (.string {data:=#[]})) (a:=[]) (b:=[]);exact this
  simp only[e0,wV,dF,reduceIte,dM,Nat.reduceAdd];exact bad 6 rfl Z1 u1
 | cons b t=>
  have e0:dH PG h1 (gV .eql aT (.tmp 9) (.const (.string {data:=#[]})) (.string (tx (b::t))) (.string {data:=#[]}))=some (.bool false):=by
   have:=aFs (t:=aT) (h:=h1) (x:=.tmp 9) (y:=.const (.string {data:=#[]})) (a:=b::t) (b:=[]);exact this
  have i0:dE PG (Instr.index aT (.string (tx (b::t))) (.int .i64 0))=some (.int .u8 b.toNat):=oZ (j:=0) aT.und rfl;have ll:(b::t).length=t.length+1:=rfl;have c1:dE PG (Instr.sliceAt aT (.string (tx (b::t))) (some (.int .i64 1)) none none)=some (.string (tx t)):=by
   have:=lE (P:=PG) (t:=aT) (l:=b::t) (i:=1) (j:=(b::t).length) (lo:=some (.int .i64 1)) (hi:=none) aT.und (.inr ⟨_,rfl⟩) (.inl ⟨rfl,rfl⟩) (by rw[ll];omega) (nQ _);rw[this,zLJ];rfl
  simp only[e0,i0,aHg,aYL,dF,reduceIte,dM,Nat.reduceAdd];intro r11 hr11
  try rw[dY]
  refine bT.fill (vs:=Rc.cells ⟨2,Dm.zero,(b.toNat:Int),Pl.zero,[]⟩ (.slice none 0 0) (.slice none 0 0)) hr11 rfl (Rc.isC _ rfl rfl) λh2 B2 u2=>?_;have e2:=u1.trans u2;have n1:r1≠r11:=Z1.apart hr11;have f11:fX h [r11]:=fX.one (u1.none hr11);simp only[c1,dF,reduceIte,dM,Nat.reduceAdd];rw[ll] at hs;refine aLE t (by omega) λh3 u3=>?_;simp only[dF,reduceIte,dM,Nat.reduceAdd];intro r21 hr21
  try rw[dY]
  refine dK.fill (vs:=(iR (0,t)).1.cells) hr21 rfl (aM2 _) λh4 B4 u4=>?_;have e34:=u3.trans u4;have Z4:=(Z1.ext u2).ext e34;have w4:=e2.trans e34;by_cases c:(iR (0,t)).2.1=0
  ·have q:((iR (0,t)).2.1 !=0)=false:=by rw[c];rfl
   have hf:=(aJn c).2;have w17:IntKind.i64.wrap ((1:Int)+16)=17:=by decide
   have c17:dE PG (Instr.sliceAt aT (.string (tx (b::t))) (some (.int .i64 17)) none none)=some (.string (tx (t.drop 16))):=by
    have:=lE (P:=PG) (t:=aT) (l:=b::t) (i:=17) (j:=(b::t).length) (lo:=some (.int .i64 17)) (hi:=none) aT.und (.inr ⟨_,rfl⟩) (.inl ⟨rfl,rfl⟩) (by rw[ll];omega) (nQ _);rw[this,zLJ];rfl
   have dS:aGG (b::t)=if (gM 4 (0,t.drop 16)).2.1≠0 then(Rc.zero,(gM 4 (0,t.drop 16)).2.1)
     else if 1<b.toNat∨16<(gM 4 (0,t.drop 16)).1.length then(Rc.zero,5)
     else if (gM 4 (0,t.drop 16)).2.2≠[] then(Rc.zero,7)
     else(⟨2,Dm.zero,(b.toNat:Int),(iR (0,t)).1,(gM 4 (0,t.drop 16)).1.map Nt.of⟩,0):=by
    simp only[aGG];rw[if_neg (λx=>x c)]
   simp only[fZ,q,c,if_true,w17,c17,dF,reduceIte,dM,Nat.reduceAdd];refine aPk (t.drop 16) (by rw[kD];omega) λh5 v G O5 fG u5 hf5=>?_;have NV:jV h1 v:=(O5.newV fG).of (u2.trans e34);have lv:dE PG (Builtin.len_ #[eK] aR #[v])=some (.int .i64 ((gM 4 (0,t.drop 16)).1.length:Int)):=by
    have:=Nt.len O5.slR;rw[jJ] at this;exact this
   obtain⟨L,hL⟩:∃L,gM 4 (0,t.drop 16)=L:=⟨_,rfl⟩;rw[hL] at dS O5 lv hf5 ⊢;have e5:=w4.trans u5;have B5:=(B2.ext e34).ext u5;have Z5:=Z4.ext u5;have lc:eA h5 ⟨r11,0+6,none⟩=some (.int .i64 (b.toNat:Int)):=B5.cell 6;have l21:dH PG h5 (loadAt dK (pT r21 0))=some (.agg (iR (0,t)).1.cells.toArray):=aCn (B4.ext u5) rfl;by_cases c2:L.2.1=0
   ·have q2:(L.2.1 !=0)=false:=by rw[c2];rfl
    rw[if_neg (λx=>x c2)] at dS;obtain⟨hf1,hf2⟩:=hf5 c2;have last:¬(1<b.toNat∨16<L.1.length)->(dA (dE PG (binOp BinOp.lss aR (.int .i64 (((t.drop 16).length-L.2.2.length:Nat):Int)) (.int .i64 ((t.drop 16).length:Int)))) λv62=>
      dW v62
      (dT PG (dX bT (pT r1 0) (Rc.zero.v (.slice none 0 0) (.slice none 0 0))) h5 λv64 h65=>
      dA (dH PG h65 (loadAt bT (pT r1 0))) λv66=>
      k (Value.tuple #[v66,(Value.int IntKind.i64 7)]) h65)
      (dT PG (dX dK (pT r11 7) (.agg (iR (0,t)).1.cells.toArray)) h5 λv69 h70=>
      dT PG (dX eK (pT r11 9) v) h70 λv72 h73=>
      dA (dH PG h73 (loadAt bT (pT r11 0))) λv74=>
      dT PG (dX bT (pT r1 0) v74) h73 λv75 h76=>
      dA (dH PG h76 (loadAt bT (pT r1 0))) λv77=>
      k (Value.tuple #[v77,(Value.int IntKind.i64 0)]) h76)):=by
     intro c3;rw[if_neg c3] at dS;by_cases c4:L.2.2=[]
     ·have g4:((((t.drop 16).length-L.2.2.length:Nat):Int)<((t.drop 16).length:Int))=False:=eq_false (by rw[c4];simp);rw[if_neg (λx=>x c4)] at dS;simp only[g4,dF,reduceIte,dM,Nat.reduceAdd];refine dK.put B5 (vs:=(iR (0,t)).1.cells) (o:=7) rfl (by show 7+2≤10;decide) (aM2 _) λh6 B6 u6=>?_;refine eK.put B6 (o:=9) (by show 9<10;decide) O5.slR.isc λh7 B7 u7=>?_;have B7:Bx h7 r11 (Rc.cells ⟨2,Dm.zero,(b.toNat:Int),(iR (0,t)).1,L.1.map Nt.of⟩ (.slice none 0 0) v):=B7;have u67:=u6.trans u7;simp only[aIK B7,jQ,zPP];have S7:wX h7 v (L.1.map Nt.of):=aFj O5.slR (O5.newV fG) ((B2.ext e34).known) u67;exact fin _ 0 v dS S7 NV rfl (Z5.upd u67 (by simpa using n1)) (e5.fresh u67 f11)
     ·have g4:((((t.drop 16).length-L.2.2.length:Nat):Int)<((t.drop 16).length:Int))=True:=by
       have:0<L.2.2.length:=aKL.2 c4;exact eq_true (by omega)
      rw[if_pos c4] at dS;simp only[g4,dF,reduceIte,dM,Nat.reduceAdd];exact bad 7 dS Z5 e5
    by_cases c3:1<b.toNat
    ·have g3:((1:Int)<(b.toNat:Int))=True:=eq_true (by omega);rw[if_pos (.inl c3)] at dS;simp only[fZ,q2,bT.f2,aR.load,lc,g3,wV,dF,reduceIte,dM,Nat.reduceAdd];exact bad 5 dS Z5 e5
    ·have g3:((1:Int)<(b.toNat:Int))=False:=eq_false (by omega);by_cases c5:16<L.1.length
     ·have g5:((16:Int)<(L.1.length:Int))=True:=eq_true (by omega);rw[if_pos (.inr c5)] at dS;simp only[fZ,q2,bT.f2,aR.load,lc,g3,lv,g5,wV,dF,reduceIte,dM,Nat.reduceAdd];exact bad 5 dS Z5 e5
     ·have g5:((16:Int)<(L.1.length:Int))=False:=eq_false (by omega);simp only[fZ,q2,bT.f2,bT.f3,bT.f4,aR.load,lc,g3,lv,g5,c2,if_true,jS,wV,l21,dF,reduceIte,dM,Nat.reduceAdd];have:=last (by omega);simp only[dF,reduceIte,dM,Nat.reduceAdd] at this;exact this
   ·have q2:(L.2.1 !=0)=true:=bne_iff_ne.2 c2;rw[if_pos c2] at dS;simp only[fZ,q2,wV,dF,reduceIte,dM,Nat.reduceAdd];exact bad _ dS Z5 e5
  ·have q:((iR (0,t)).2.1 !=0)=true:=bne_iff_ne.2 c;simp only[fZ,q,wV,dF,reduceIte,dM,Nat.reduceAdd];exact bad _ (if_pos c) Z4 w4
def aUG{h:PH}(s:Tx)(hs:s.length≤1000000){k:dI}
  (hk:∀h' vi vn,kV h' vi (iK s).1.s.its->wX h' vn (iK s).1.ns->jV h vi->jV h vn->eM h h'->k (.tuple #[(iK s).1.v vi vn,.int .i64 (iK s).2]) h'):bR PG aBt #[.string (tx s)] h k:=by
 apply aAw.call;unfold aAw;intro r1 hr1
 try rw[dY]
 have Z1:Bx (h.set r1 (.cells (eX PG bT) bT)) r1 (Rc.zero.cells (.slice none 0 0) (.slice none 0 0)):=bT.zbox;have u1:eM h (h.set r1 (.cells (eX PG bT) bT)):=eH.new hr1;generalize h.set r1 (.cells (eX PG bT) bT)=h1 at *;have k1:h1 r1≠none:=Z1.known;have fin:∀{h':PH} (x:Rc) (e:Int) (vi vn:Value),iK s=(x,e)->kV h' vi x.s.its->wX h' vn x.ns->jV h1 vi->jV h1 vn->Bx h' r1 (Rc.zero.cells (.slice none 0 0) (.slice none 0 0))->eM h h'->dT PG (dX bT (pT r1 0) (x.v vi vn)) h' λ_ h8=>dA (dH PG h8 (loadAt bT (pT r1 0))) λv9=>k (.tuple #[v9,.int .i64 e]) h8:=by
  intro h' x e vi vn hx S S' N N' B w;refine bT.put B (vs:=x.cells vi vn) (o:=0) rfl (by show 0+10≤10;decide) (Rc.isC _ S.isc S'.isc) λh3 B3 u3=>?_;have B3:Bx h3 r1 (x.cells vi vn):=B3;simp only[aIK B3,jQ,zPP];have:=hk h3 vi vn (by rw[hx];exact aFj S N k1 u3) (by rw[hx];exact aFj S' N' k1 u3) (N.of u1) (N'.of u1) (w.fresh u3 (fX.one hr1));rw[hx] at this;exact this
 cases s with
 | nil=>
  have e0:dH PG h1 (gV .eql aT (.tmp 4) (.const (.string {data:=#[]})) (.string (tx [])) (.string {data:=#[]}))=some (.bool true):=by
   have:=aFs (t:=aT) (h:=h1) (x:=.tmp 4) (y:=.const (.string {data:=#[]})) (a:=[]) (b:=[]);exact this
  simp only[e0,wV,dF,reduceIte,dM,Nat.reduceAdd];exact fin Rc.zero 6 _ _ aOY aEE aMa jV.nil jV.nil Z1 u1
 | cons b t=>
  have e0:dH PG h1 (gV .eql aT (.tmp 4) (.const (.string {data:=#[]})) (.string (tx (b::t))) (.string {data:=#[]}))=some (.bool false):=by
   have:=aFs (t:=aT) (h:=h1) (x:=.tmp 4) (y:=.const (.string {data:=#[]})) (a:=b::t) (b:=[]);exact this
  have i0:dE PG (Instr.index aT (.string (tx (b::t))) (.int .i64 0))=some (.int .u8 b.toNat):=oZ (j:=0) aT.und rfl;have ll:(b::t).length=t.length+1:=rfl;have c1:dE PG (Instr.sliceAt aT (.string (tx (b::t))) (some (.int .i64 1)) none none)=some (.string (tx t)):=by
   have:=lE (P:=PG) (t:=aT) (l:=b::t) (i:=1) (j:=(b::t).length) (lo:=some (.int .i64 1)) (hi:=none) aT.und (.inr ⟨_,rfl⟩) (.inl ⟨rfl,rfl⟩) (by rw[ll];omega) (nQ _);rw[this,zLJ];rfl
  rw[ll] at hs;by_cases h1':b=1
  ·subst h1';have q1:((((1:UInt8).toNat:Nat):Int)==1)=true:=rfl;simp only[e0,i0,gX,q1,c1,dF,reduceIte,dM,Nat.reduceAdd];refine aUA t (by omega) λh2 vi S N hns u2=>?_;simp only[dF,reduceIte,dM,Nat.reduceAdd];refine fin _ _ vi (.slice none 0 0) (aMJ t) S (by rw[hns];exact aMa) N jV.nil (Z1.ext u2) (u1.trans u2)
  ·have q1:((b.toNat:Int)==1)=false:=by
    rw[beq_eq_false_iff_ne];intro e;exact h1' (UInt8.toNat_inj.1 (by show b.toNat=1;omega))
   by_cases h2':b=2
   ·subst h2';have q1:((((2:UInt8).toNat:Nat):Int)==1)=false:=rfl;have q2:((((2:UInt8).toNat:Nat):Int)==2)=true:=rfl;simp only[e0,i0,gX,q1,q2,c1,dF,reduceIte,dM,Nat.reduceAdd];refine aRp t (by omega) λh2 vn S N hns u2=>?_;simp only[dF,reduceIte,dM,Nat.reduceAdd];refine fin _ _ (.slice none 0 0) vn (aMl t) (by rw[hns];exact aEE) S jV.nil N (Z1.ext u2) (u1.trans u2)
   ·have q2:((b.toNat:Int)==2)=false:=by
     rw[beq_eq_false_iff_ne];intro e;exact h2' (UInt8.toNat_inj.1 (by show b.toNat=2;omega))
    simp only[e0,i0,gX,q1,q2,wV,dF,reduceIte,dM,Nat.reduceAdd];exact fin Rc.zero 5 _ _ (aMK h1' h2') aEE aMa jV.nil jV.nil Z1 u1
def aQs(s:Tx):(iK s).1.s.its.length≤255∧(iK s).1.ns.length≤255:=by
 cases s with
 | nil=>rw[aOY];exact⟨mK _,mK _⟩
 | cons b t=>
  by_cases h1:b=1
  ·subst h1;rw[aMJ];unfold aCj;have h0:Rc.zero.s.its.length≤255∧Rc.zero.ns.length≤255:=⟨mK _,mK _⟩;split
   ·exact h0
   ·split
    ·exact h0
    ·split
     ·exact h0
     ·split
      ·exact h0
      ·split
       ·exact h0
       ·exact⟨by show((gM 2 (0,t.drop 32)).1.map It.of).length≤255;rw[jJ];exact aIx 2 _,mK _⟩
  ·by_cases h2:b=2
   ·subst h2;rw[aMl];have h0:Rc.zero.s.its.length≤255∧Rc.zero.ns.length≤255:=⟨mK _,mK _⟩;cases t with
    | nil=>exact h0
    | cons b t=>
     simp only[aGG];split
     ·exact h0
     ·split
      ·exact h0
      ·split
       ·exact h0
       ·split
        ·exact h0
        ·exact⟨mK _,by show((gM 4 (0,t.drop 16)).1.map Nt.of).length≤255;rw[jJ];exact aIx 4 _⟩
   ·rw[aMK h1 h2];exact⟨mK _,mK _⟩
def aUd(R:Dm×Int):Dm×Int:=if R.2≠0 then(Dm.zero,R.2) else R
def aDx(room:Int):∀(l:List Tx) (st:Dm×Int),st.2≠0->l.foldl (nS room) st=st
 | [],st,_=>rfl
 | s::l,st,h=>by
  rw[zLt];have:nS room st s=st:=by unfold nS;rw[if_neg h]
  rw[this];exact aDx room l st h
def aJz{h:PH}{r:Nat}{x:Dm}{v:Value}(B:Bx h r (x.cells v)):dH PG h (loadAt cR (pT r 0))=some (x.v v):=cR.agg B (by show 0+5≤5;decide)
def aRi{h:PH}{room:Int}{x:Value}{l:List Tx}(S:jE h 1 x (l.map jX))(hl:l.length≤100000)(hs:∀s∈l,s.length≤1000000){k:dI}
  (hk:∀h' v',kV h' v' (zS room l).1.its->jV h v'->eM h h'->k (.tuple #[(zS room l).1.v v',.int .i64 (zS room l).2]) h'):bR PG pL #[.int .i64 room,x] h k:=by
 apply aAG.call;unfold aAG;have lx:=uM S;intro r1 hr1
 try rw[dY]
 have Z1:Bx (h.set r1 (.cells (eX PG cR) cR)) r1 (Dm.zero.cells (.slice none 0 0)):=cR.zbox;have u1:eM h (h.set r1 (.cells (eX PG cR) cR)):=eH.new hr1;generalize h.set r1 (.cells (eX PG cR) cR)=h1 at *;simp only[rX,dF,reduceIte,dM,Nat.reduceAdd];intro r4 hr4
 try rw[dY]
 refine cR.fill (vs:=Dm.zero.cells (.slice none 0 0)) hr4 rfl (Dm.isC _ rfl) λh2 B2 u2=>?_;have e2:=u1.trans u2;have Z2:=Z1.ext u2;have n14:r1≠r4:=Z1.apart hr4;have k1:h2 r1≠none:=Z2.known;have k4:h2 r4≠none:=B2.known;have f1:fX h [r1]:=fX.one hr1;have f4:fX h [r4]:=fX.one (u1.none hr4);have fin:∀{h':PH} (y:Dm) (e:Int) (vi:Value),zS room l=(y,e)->kV h' vi y.its->jV h2 vi->(∃cs:List Value,cs.length=5∧Bx h' r1 cs)->eM h h'->dT PG (dX cR (pT r1 0) (y.v vi)) h' λ_ h8=>dA (dH PG h8 (loadAt cR (pT r1 0))) λv9=>k (.tuple #[v9,.int .i64 e]) h8:=by
  intro h' y e vi hy V N ⟨cs,hcs,B⟩ w;refine cR.put B (vs:=y.cells vi) (o:=0) rfl (by omega) (Dm.isC _ V.isc) λh3 B3 u3=>?_;rw[zLd,zLU,zO (by omega),zLQ] at B3;simp only[aJz B3,jQ,zPP];have:=hk h3 vi (by rw[hy];exact aFj V N k1 u3) (N.of e2) (w.fresh u3 f1);rw[hy] at this;exact this
 have bad:∀{h':PH} (e:Int),zS room l=(Dm.zero,e)->(∃cs:List Value,cs.length=5∧Bx h' r1 cs)->eM h h'->dT PG (dX cR (pT r1 0) (Dm.zero.v (.slice none 0 0))) h' λ_ h8=>dA (dH PG h8 (loadAt cR (pT r1 0))) λv9=>k (.tuple #[v9,.int .i64 e]) h8:=
  λe he B w=>fin Dm.zero e (.slice none 0 0) he aEE jV.nil B w
 cases l with
 | nil=>
  have q:((([]:List Tx).length:Int)==0)=true:=rfl;simp only[lx,gX,q,aJz B2,dF,reduceIte,dM,Nat.reduceAdd];exact fin Dm.zero 3 (.slice none 0 0) rfl aEE jV.nil ⟨_,rfl,Z2⟩ e2
 | cons s0 l=>
  have q:(((s0::l).length:Int)==0)=false:=by rw[beq_eq_false_iff_ne,jY];omega
  simp only[lx,gX,q,dF,reduceIte,dM,Nat.reduceAdd];have hT:zS room (s0::l)=aUd (l.foldl (nS room) (mW room s0)):=rfl;obtain⟨T,hTT⟩:∃T,zS room (s0::l)=T:=⟨_,rfl⟩;rw[hTT] at hT;refine⟨λvs h'=>∃(i:Nat) (D:Dm) (v:Value),i≤(s0::l).length∧vs=[.int .i64 room,x,pT r1 0,pT r4 0,.int .i64 (i:Int)]∧Bx h' r4 (D.cells v)∧Bx h' r1 (Dm.zero.cells (.slice none 0 0))∧kV h' v D.its∧jV h2 v∧eM h h'∧eH [r4] h2 h'∧(1≤i->OkD D room∧D.wf∧T=aUd (((s0::l).drop i).foldl (nS room) (D,0))),gT (s0::l).length 4,⟨0,Dm.zero,.slice none 0 0,by omega,rfl,B2,Z2,aEE,jV.nil,e2,eH.refl,λh=>by omega⟩,?_⟩;rintro ρ h' ⟨i,D,v,hi,hvs,B,Z,V,NV,w,w2,inv⟩;simp only[jF,kF,lT,and_true] at hvs;obtain⟨x0,x1,x4,x6,x7⟩:=hvs;unfold aD9;rw[x0,x1,x4,x6,x7];by_cases hlt:i<(s0::l).length
  ·have g:((i:Int)<((s0::l).length:Int))=True:=eq_true (by omega);have gi:=oM (i:=i) (by omega);obtain⟨s,hx⟩:∃s,(s0::l)[i]? =some s:=⟨_,lG hlt⟩;have hsl:=hs s (wE hx);obtain⟨p,i1,i2⟩:=aGH (S.ext w) hx;have ed:(s0::l).drop i=s::(s0::l).drop (i+1):=by
    rw[aBE hlt];have:(s0::l)[i]=s:=by rw[lG hlt] at hx;simpa using hx
    rw[this]
   simp only[lx,g,i1,i2,dF,reduceIte,dM,Nat.reduceAdd];refine aUG s hsl λh3 vi vn Si Sn Ni Nn u3=>?_;have hfew:=aQs s;have hwf:=aKX s;obtain⟨P,hP⟩:∃P,iK s=P:=⟨_,rfl⟩;rw[hP] at Si Sn hfew hwf ⊢;simp only[dF,reduceIte,dM,Nat.reduceAdd];intro r24 hr24
   try rw[dY]
   refine bT.fill (vs:=P.1.cells vi vn) hr24 rfl (Rc.isC _ Si.isc Sn.isc) λh4 B4 u4=>?_;have e34:=u3.trans u4;have w4:=w.trans e34;have w24:=w2.trans e34.upd
   -- blocks known in h2 stay known
   have Nh:∀{u:Value},jV h' u->jV h2 u:=λN a n c e=>by
    cases eb:h2 a.block with
    | none=>rfl
    | some o=>
     have h0:=N a n c e;by_cases hb:a.block=r4
     ·rw[hb] at h0;exact absurd h0 B.known
     ·have:=w2 a.block o eb (by simpa using hb);rw[h0] at this;cases this
   have Zc:∃cs:List Value,cs.length=5∧Bx h4 r1 cs:=⟨_,rfl,Z.ext e34⟩;have est:i=0->T=aUd (((s0::l).drop 1).foldl (nS room) (mW room s))∧s=s0:=λh0=>by
    subst h0;simp only[zLK,zL4] at hx;subst hx;exact⟨hT,rfl⟩
   by_cases c:P.2=0
   ·have q3:(P.2 !=0)=false:=by rw[c];rfl
    by_cases c0:i=0
    ·have q0:((i:Int)==0)=true:=by simp[c0]
     obtain⟨hT0,-⟩:=est c0;have ef:mW room s=if P.1.k≠1 then(Dm.zero,5) else if chk P.1.s room≠0 then(Dm.zero,chk P.1.s room) else(P.1.s,0):=by
      unfold mW;rw[hP,if_neg (λe=>e c)]
     have lk:eA h4 ⟨r24,0,none⟩=some (.int .i64 P.1.k):=B4.cell 0;have ls:dH PG h4 (loadAt cR (pT r24 (0+1)))=some (P.1.s.v vi):=cR.agg B4 (by show 0+1+5≤10;decide);by_cases c1:P.1.k=1
     ·have q1:(P.1.k !=1)=false:=by rw[c1];rfl
      rw[if_neg (λe=>e c1)] at ef;simp only[fZ,q3,gX,q0,bT.f0,bT.f1,aR.load,lk,q1,ls,dF,reduceIte,dM,Nat.reduceAdd];refine aI0 (Si.ext u4) (by omega) hwf.s λh5 u5=>?_;by_cases c2:chk P.1.s room=0
      ·have q2:(chk P.1.s room !=0)=false:=by rw[c2];rfl
       have ok:=aEN.1 c2;rw[if_neg (λe=>e c2)] at ef;have ls5:dH PG h5 (loadAt cR (pT r24 (0+1)))=some (P.1.s.v vi):=cR.agg (B4.ext u5) (by show 0+1+5≤10;decide);simp only[fZ,q2,bT.f1,ls5,dF,reduceIte,dM,Nat.reduceAdd];refine cR.put ((B.ext e34).ext u5) (vs:=P.1.s.cells vi) (o:=0) rfl (by show 0+5≤5;decide) (Dm.isC _ Si.isc) λh6 B6 u6=>?_;have B6:Bx h6 r4 (P.1.s.cells vi):=B6;simp only[uR,aAS,gi,dF,reduceIte,dM,Nat.reduceAdd];refine⟨⟨i+1,P.1.s,vi,by omega,rfl,B6,((Z.ext e34).ext u5).upd u6 (by simpa using n14),aFj ((Si.ext u4).ext u5) (Nh Ni) k4 u6,Nh Ni,(w4.trans u5).fresh u6 f4,(w24.trans u5.upd).trans u6,λ_=>⟨ok,hwf.s,?_⟩⟩,by have hh:=hlt;rw[jY] at hh;simp[gT,x7];omega⟩;rw[hT0,ef,c0]
      ·have q2:(chk P.1.s room !=0)=true:=bne_iff_ne.2 c2;rw[if_pos c2] at ef;simp only[fZ,q2,rX,dF,reduceIte,dM,Nat.reduceAdd];refine bad _ ?_ ⟨_,rfl,(Z.ext e34).ext u5⟩ (w4.trans u5);rw[hTT,hT0,ef,aDx _ _ _ c2];exact if_pos c2
     ·have q1:(P.1.k !=1)=true:=bne_iff_ne.2 c1;rw[if_pos c1] at ef;simp only[fZ,q3,gX,q0,bT.f0,aR.load,lk,q1,rX,dF,reduceIte,dM,Nat.reduceAdd];refine bad 5 ?_ Zc w4;rw[hTT,hT0,ef,aDx _ _ _ (by show(5:Int)≠0;decide)];rfl
    ·have q0:((i:Int)==0)=false:=by rw[beq_eq_false_iff_ne];omega
     obtain⟨ok,wf,hTi⟩:=inv (by omega);have hr2:=ok.r2;have hlen:=ok.len;rw[ed,zLt] at hTi;have er:nS room (D,0) s=mS D room P.1:=by
      unfold nS;rw[if_pos rfl,hP,if_pos c]
     rw[er] at hTi;simp only[fZ,q3,gX,q0,aJz (B.ext e34),aIK B4,dF,reduceIte,dM,Nat.reduceAdd];refine aPm (r:=P.1) (V.ext e34) wf (by omega) (Si.ext u4) (Sn.ext u4) hwf (by omega) (by omega) λh5 v' S5 N5 u5=>?_;have N5':jV h2 v':=by
      rcases N5 with N5|e
      ·exact Nh (N5.of e34)
      ·rw[e];exact Nh Ni
     have hg:=aEp (d:=D) (room:=room) (r:=P.1);have hw:=aJp (d:=D) (room:=room) (r:=P.1);obtain⟨Q,hQ⟩:∃Q,mS D room P.1=Q:=⟨_,rfl⟩;rw[hQ] at S5 hTi hg hw ⊢;simp only[dF,reduceIte,dM,Nat.reduceAdd];intro r63 hr63
     try rw[dY]
     refine cR.fill (vs:=Q.1.cells v') hr63 rfl (Dm.isC _ S5.isc) λh6 B6 u6=>?_;have e56:=u5.trans u6;by_cases c5:Q.2=0
     ·have q5:(Q.2 !=0)=false:=by rw[c5];rfl
      simp only[fZ,q5,aJz B6,dF,reduceIte,dM,Nat.reduceAdd];refine cR.put ((B.ext e34).ext e56) (vs:=Q.1.cells v') (o:=0) rfl (by show 0+5≤5;decide) (Dm.isC _ S5.isc) λh7 B7 u7=>?_;have B7:Bx h7 r4 (Q.1.cells v'):=B7;simp only[uR,aAS,gi,dF,reduceIte,dM,Nat.reduceAdd];refine⟨⟨i+1,Q.1,v',by omega,rfl,B7,((Z.ext e34).ext e56).upd u7 (by simpa using n14),aFj (S5.ext u6) N5' k4 u7,N5',(w4.trans e56).fresh u7 f4,(w24.trans e56.upd).trans u7,λ_=>⟨(hg c5).2.2.1,hw c5 wf hwf,?_⟩⟩,by have hh:=hlt;rw[jY] at hh;simp[gT,x7];omega⟩;rw[hTi];congr 2;exact Prod.ext rfl c5
     ·have q5:(Q.2 !=0)=true:=bne_iff_ne.2 c5;simp only[fZ,q5,rX,dF,reduceIte,dM,Nat.reduceAdd];refine bad _ ?_ ⟨_,rfl,(Z.ext e34).ext e56⟩ (w4.trans e56);rw[hTT,hTi,aDx _ _ _ c5];exact if_pos c5
   ·have q3:(P.2 !=0)=true:=bne_iff_ne.2 c;simp only[fZ,q3,rX,dF,reduceIte,dM,Nat.reduceAdd];refine bad _ ?_ Zc w4;rw[hTT];by_cases c0:i=0
    ·obtain⟨hT0,-⟩:=est c0;have ef:mW room s=(Dm.zero,P.2):=by unfold mW;rw[hP,if_pos c]
     rw[hT0,ef,aDx _ _ _ c];exact if_pos c
    ·obtain⟨-,-,hTi⟩:=inv (by omega);have er:nS room (D,0) s=(D,P.2):=by unfold nS;rw[if_pos rfl,hP,if_neg c]
     rw[hTi,ed,zLt,er,aDx _ _ _ c];exact if_pos c
  ·have g:((i:Int)<((s0::l).length:Int))=False:=eq_false (by omega);obtain⟨ok,wf,hTi⟩:=inv (by rw[jY] at hlt;omega);rw[zO (by omega)] at hTi;have hTi:T=(D,0):=hTi;simp only[lx,g,aJz B,dF,reduceIte,dM,Nat.reduceAdd];exact fin D 0 v (by rw[hTT,hTi]) V NV ⟨_,rfl,Z⟩ w
def aMB{size gen ser m:Nat}:∀(xs:List Tx) (k p:Nat) (t:Tx),(∀s∈xs,s.length≤m)->(kI size gen ser xs k p t).1.length≤t.length+xs.length*m
 | [],_,_,_,_=>mK _
 | x::xs,k,p,t,h=>by
  have hx:=h x (by simp);have hb:=(aMT size x).2;have hm:(xs.length+1)*m=xs.length*m+m:=Nat.succ_mul _ _;rw[aFX,jY];have ih:=λq=>aMB (size:=size) (gen:=gen) (ser:=ser) (m:=m) xs (k+1) q (t++(hC size x).1.b) λs hs=>h s (by simp[hs]);generalize (if k=0 then(hC size x).1.parts else p)=q at *;split
  ·exact mK _
  ·split
   ·show(t++(hC size x).1.b).length≤_;rw[kO];omega
   ·have:=ih q;rw[kO] at this;omega
def aLd{size gen m:Nat}:∀(f:Nat) (xs:List Tx) (ser:Nat),(∀s∈xs,s.length≤m)->∀t∈(lF size gen f xs ser).1,t.length≤xs.length*m
 | 0,_,_,_,t,ht=>by cases ht
 | f+1,xs,ser,h,t,ht=>by
  unfold lF at ht;split at ht
  ·cases ht
  ·rcases jW.1 ht with rfl|ht
   ·have:=aMB (size:=size) (gen:=gen) (ser:=ser) (m:=m) xs 0 0 [] h;simpa using this
   ·have:=aLd f (xs.drop (kI size gen ser xs 0 0 []).2) (ser+1) (λs hs=>h s (List.mem_of_mem_drop hs)) t ht;rw[kD] at this;exact zLE this (yE _ (by omega))
def aMG{d:Dk}(H:d.Ok)(h4:4≤d.sectors)(hs:d.sectors≤1000){hd:Hd}(hseg:hd.seg≤1)(slot:Nat):∀t∈(aA7 d hd slot).2,t.length≤1000000:=by
 intro t ht;have hz:=H.size.2;have hfit:=zH d h4 hseg;have:=aLd (size:=d.size) (gen:=hd.gen) (m:=d.size) (d.segs+1) (d.secs (d.base hd.seg) d.segs) 0 (λs hs=>Nat.le_of_eq (aHF H (by omega) s hs)) t ht;rw[Dk.secs_len] at this;have hsg:d.segs≤1000:=by unfold Dk.segs;omega
 have:d.segs*d.size≤1000*512:=Nat.mul_le_mul hsg hz;omega
def aO5{d:Dk}(H:d.Ok)(hs:d.sectors≤1000):∀t∈(gQ d).2.1.2,t.length≤1000000:=by
 have nil:∀t∈([]:List Tx),t.length≤1000000:=λt ht=>by cases ht
 unfold gQ;split
 ·exact nil
 ·rename_i h4;split
  ·exact nil
  ·split
   ·split
    ·exact nil
    ·have hp:=qV [(gY d.size ⟨1,0⟩).1] H.fl 1;exact aMG hp.1 (by rw[hp.2.2.1,d.fl_geo.2];omega) (by rw[hp.2.2.1,d.fl_geo.2];exact hs) (mK _) _
   ·exact aMG H.fl (by rw[d.fl_geo.2];omega) (by rw[d.fl_geo.2];exact hs) (aJE _ _ _).1 _
def aMS{h:PH}{r a m:Nat}{d d2:Dk}{jp vp:JP}{e room:Int}{p q:Pl}{F:List Nat}(H:kL r a m d jp e d2 vp room p q h F)(wp:p.wf)(wq:q.wf)(hs:d.sectors≤1000)(hs2:d2.sectors≤1000)(hb:d.buf.length≤800000)(hb2:d2.buf.length≤800000){k:dI}
  (hk:∀h' F' jp' vp',kL r a m (jP d room p q).1 jp' (jP d room p q).2.2 (jP d2 room p q).1 vp' room p q h' F'->fT h F h' F'->aCl (jP d room p q) jp'->aCl (jP d2 room p q) vp'->k (.bool (decide ((jP d room p q).2.2=(jP d2 room p q).2.2))) h'):bR PG kR #[pT r 0] h k:=by
 obtain⟨Fa,Fm,eF,B,P,D,n⟩:=id H.here;obtain⟨Fd,Dd,-⟩:=DpA.disk D;refine aQZ H wp wq hs hs2 hb hb2 (λh v S hne k hk=>?_) hk;have hfew:=aJT Dd.ok;have hsg:d2.segs≤1000:=by unfold Dk.segs;omega
 exact aRi S (by omega) (aO5 Dd.ok hs2) hk
def aLT{d:Dk}{w:Wl}{l:List Tx}(L:Log d w l)(hg:w.hd.gen<18446744073709551614){s:Dm}{room:Int}(ok:OkD s room)(wf:s.wf)(hp:fD d.size (nX s).bs.length≤d.segs):
  ∃d' w',iE d w (mA s)=(d',w',0)∧aE1 d' ⟨w',room,s⟩∧w'.hd.gen=w.hd.gen+1∧d'.size=d.size∧d'.sectors=d.sectors:=by
 rcases aLS L hg ok wf with h|h
 ·exact h
 ·obtain⟨d',w',e,-⟩:=aO1 L (aIm (aEm ok)) hp hg;rw[aQD ok,e] at h;simp only[Prod.mk.injEq] at h;exact absurd h.2.2 (by decide)
def aUE{d:Dk}(H:aRo d)(h4:4≤d.sectors){room:Int}{p q:Pl}(wp:p.wf)(wq:q.wf)(hc:chk ⟨p,q,[]⟩ room=0)(hp:fD d.size (nX ⟨p,q,[]⟩).bs.length≤d.segs):
  ∃d' w',jP d room p q=(d',⟨w',room,⟨p,q,[]⟩⟩,0)∧aE1 d' ⟨w',room,⟨p,q,[]⟩⟩∧w'.hd.gen=2∧d'.size=d.size∧d'.sectors=d.sectors:=by
 obtain⟨d1,w1,e1,L,g1,z1,z2⟩:=aR9 H h4;have es:mH room ⟨p,q,[]⟩ []=(⟨p,q,[]⟩,0):=by unfold mH;rw[if_pos rfl]
 obtain⟨d',w',e,I,g,y1,y2⟩:=aLT L (by omega) (aEN.1 hc) (s:=⟨p,q,[]⟩) ⟨wp,wq,by simp⟩ (by rw[z1,aIM z2];exact hp);refine⟨d',w',?_,I,by omega,y1.trans z1,y2.trans z2⟩;unfold jP;rw[if_neg (by simp[hc]),e1];simp only;rw[if_neg (by simp),es];simp only;rw[if_neg (by simp),e];simp only;rw[if_neg (by simp)]
def aNI{d:Dk}{j:Jn}(H:aE1 d j)(hg:j.w.hd.gen<18446744073709551614){p q:Pl}(hc:chk ⟨p,q,[]⟩ j.room=0)(hp:fD d.size (nX j.s).bs.length≤d.segs):
  ∃d' w',jP d j.room p q=(d',⟨w',j.room,j.s⟩,0)∧aE1 d' ⟨w',j.room,j.s⟩∧w'.hd.gen=j.w.hd.gen+1∧d'.size=d.size∧d'.sectors=d.sectors:=by
 rcases aR2 H hg hc with h|h
 ·exact h
 ·obtain⟨s0,rs,L,rg,wk⟩:=H.log;have eo:=aQI L;have es:mH j.room ⟨p,q,[]⟩ ((nX s0::rs).map Rc.bs)=(j.s,0):=by
   unfold mH;rw[if_neg (by simp),aPO rg rfl,wk];simp
  have L':Log d ⟨j.w.hd,j.w.slot,j.w.used,j.w.ser,false,false⟩ ((nX s0::rs).map Rc.bs):=⟨L.ok,L.arm,L.buf,L.four,L.g1,L.g2,L.seg,L.slot,L.head,L.other,L.used,L.fits,L.ser,L.recs,L.short,L.rest,L.all,rfl⟩;obtain⟨d',w',e,-⟩:=aLT L' hg H.ok H.wf hp;unfold jP at h;rw[if_neg (by simp[hc]),eo] at h;simp only at h;rw[if_neg (by simp),es] at h;simp only at h;rw[if_neg (by simp),e] at h;simp only at h;rw[if_neg (by simp)] at h;cases h
def aVR{d:Dk}{j:Jn}(H:aE1 d j)(hg:j.w.hd.gen<18446744073709551614){ch:Int}{q:Pl}{ns:List Nt}(wf:(iN ch q ns).wf)(h0:(mS j.s j.room (iN ch q ns)).2=0)(hp:fD d.size (nX (mS j.s j.room (iN ch q ns)).1).bs.length≤d.segs):
  ∃d' j',pK d j ch q ns=(d',j',0)∧aE1 d' j'∧j'.w.hd.gen≤j.w.hd.gen+1∧j'.room=j.room∧d'.size=d.size∧d'.sectors=d.sectors∧j'.s=(mS j.s j.room (iN ch q ns)).1:=by
 obtain⟨d',j',e,eq,I,g,r,z1,z2,-,k⟩:=aU2 H hg wf;rcases k h0 with⟨e0,es⟩|⟨e2,-⟩
 ·subst e0;exact⟨d',j',eq,I,g,r,z1,z2,es⟩
 ·exfalso;subst e2;obtain⟨-,hr,ho,-⟩:=aEp h0;have hw:=aJp h0 H.wf wf;obtain⟨s0,rs,L,-,-⟩:=H.log;have eb:(iN ch q ns).bytes.1=(iN ch q ns).bs:=by
   rcases aAd (iN ch q ns) with⟨-,b⟩|⟨a,-⟩
   ·rw[b]
   ·exact absurd hr a
  unfold pK at eq;rw[if_neg (by rw[H.broken];simp),if_neg (by simp[h0])] at eq;unfold xY at eq;rw[eb] at eq;cases hf:fits d j.w (iN ch q ns).bs.length with
  | true=>
   rw[hf,if_pos rfl] at eq;obtain⟨d1,w1,e1,-⟩:=aNP L H.ready (aIm hr) hf;rw[e1] at eq;simp only[Prod.mk.injEq] at eq;exact absurd eq.2.2 (by decide)
  | false=>
   rw[hf,if_neg (by simp)] at eq;obtain⟨d1,w1,e1,-⟩:=aLT L hg ho hw hp;rw[e1] at eq;simp only[Prod.mk.injEq] at eq;exact absurd eq.2.2 (by decide)
def aTn{size sectors:Nat}(ok:iB size)(h1:1≤sectors)(h2:sectors≤4096):aRo (Dk.new size sectors):=⟨Dk.new_ok ok h1 h2,rfl,rfl,λi hi=>by
 show(List.replicate sectors (mD size)).getD i []=mD size;have hi:i<sectors:=hi;rw[aCz,List.getElem?_replicate,if_pos hi];rfl⟩
def jS0:Dm:=⟨⟨5,0⟩,⟨5,0⟩,[]⟩
def jPk:Pk:=⟨0,1,9,⟨#[]⟩⟩
def jN:Nt:=⟨1,jPk⟩
def jS1:Dm:=⟨⟨6,1⟩,⟨5,0⟩,[⟨jPk,1⟩]⟩
def aR0:mS jS0 2 (iN 0 ⟨6,1⟩ [jN])=(jS1,0):=by decide +kernel
def aSE:chk jS0 2=0:=by decide +kernel
def aXs:fD 64 (nX jS0).bs.length≤9:=by decide +kernel
def aXk:fD 64 (nX jS1).bs.length≤9:=by decide +kernel
def aY5:(iN 0 ⟨6,1⟩ [jN]).wf:=⟨⟨Pl.wf_zero,Pl.wf_zero,by simp[iN,Dm.zero]⟩,⟨by decide,by decide⟩,by
 intro x hx;simp only[iN,jI] at hx;subst hx;exact⟨by decide,by decide,by decide,by decide⟩⟩
def aIG:Pl.wf ⟨5,0⟩:=⟨by decide,by decide⟩
def aWO:Pl.wf ⟨6,1⟩:=⟨by decide,by decide⟩
def aYl:∃d1 w1 d2 j2 d3 w3 d4 w4,
  jP (Dk.new 64 20) 2 ⟨5,0⟩ ⟨5,0⟩=(d1,⟨w1,2,jS0⟩,0)∧pK d1 ⟨w1,2,jS0⟩ 0 ⟨6,1⟩ [jN]=(d2,j2,0)∧
  jP d2 2 ⟨5,0⟩ ⟨5,0⟩=(d3,⟨w3,2,jS1⟩,0)∧jP d1 2 ⟨5,0⟩ ⟨5,0⟩=(d4,⟨w4,2,jS0⟩,0)∧d1.sectors=20∧d2.sectors=20∧d1.buf=[]∧d2.buf=[]:=by
 have B:=aTn (size:=64) (sectors:=20) (by decide) (by decide) (by decide);obtain⟨d1,w1,e1,I1,g1,z1,y1⟩:=aUE B (by decide) (room:=2) (p:=⟨5,0⟩) (q:=⟨5,0⟩) aIG aIG aSE aXs;have z1:d1.size=64:=z1;have y1:d1.sectors=20:=y1;have sg1:d1.segs=9:=by unfold Dk.segs;rw[y1]
 have e0:(mS jS0 2 (iN 0 ⟨6,1⟩ [jN])).2=0:=by rw[aR0]
 obtain⟨d2,j2,e2,I2,g2,r2,z2,y2,s2⟩:=aVR I1 (by show w1.hd.gen<_;omega) (ch:=0) (q:=⟨6,1⟩) (ns:=[jN]) aY5 e0 (by
  show fD d1.size (nX (mS jS0 2 (iN 0 ⟨6,1⟩ [jN])).1).bs.length≤_;rw[aR0,z1,sg1];exact aXk)
 have s2:j2.s=jS1:=by
  have s2:j2.s=(mS jS0 2 (iN 0 ⟨6,1⟩ [jN])).1:=s2;rw[aR0] at s2;exact s2
 have g2:j2.w.hd.gen≤w1.hd.gen+1:=g2;have r2:j2.room=2:=r2;have sg2:d2.segs=9:=by unfold Dk.segs;rw[y2,y1]
 obtain⟨d3,w3,e3,-⟩:=aNI I2 (by omega) (p:=⟨5,0⟩) (q:=⟨5,0⟩) (by rw[r2];exact aSE) (by rw[s2,z2,z1,sg2];exact aXk);rw[r2,s2] at e3;obtain⟨d4,w4,e4,-⟩:=aNI I1 (by show w1.hd.gen<_;omega) (p:=⟨5,0⟩) (q:=⟨5,0⟩) aSE (by rw[z1,sg1];exact aXs);obtain⟨_,_,L1,-⟩:=I1.log;obtain⟨_,_,L2,-⟩:=I2.log;exact⟨d1,w1,d2,j2,d3,w3,d4,w4,e1,e2,e3,e4,y1,y2.trans y1,L1.buf,L2.buf⟩
structure aGa(h0 h:PH)(F:List Nat):Prop where
 ext:eM h0 h
 fr:fX h0 F
def aGa.step{h0 h h':PH}{F F':List Nat}(N:aGa h0 h F)(s:fT h F h' F'):aGa h0 h' F':=⟨N.ext.fresh s.upd N.fr,N.fr.grow N.ext s.grow⟩
def aGa.more{h0 h h':PH}{F:List Nat}(N:aGa h0 h F)(u:eM h h'):aGa h0 h' F:=⟨N.ext.trans u,N.fr⟩
def aIL{h h':PH}{F F':List Nat}{r:Nat}{cs:List Value}(B:Bx h r cs)(n:r∉F)(s:fT h F h' F'):Bx h' r cs∧r∉F':=⟨B.upd s.upd n,λhm=>by
 rcases s.grow _ hm with hx|hx
 ·exact n hx
 ·exact B.known hx⟩
abbrev plv(q:Pl):Value:=.agg q.cells.toArray
abbrev pkv(p:Pk):Value:=.agg p.cells.toArray
structure JAc where
 (k n ch:Int)
 q:Pl
 l:List Nt
 w:List (Bool×Int)
abbrev JV:=JAc×Value×Value
def wrw(x:Bool×Int):List Value:=[.bool x.1,.int .i64 x.2]
def jrw(y:JV):List Value:=[.int .i64 y.1.k,.int .i64 y.1.n,.int .i64 y.1.ch,.int .u64 y.1.q.h,.int .i64 y.1.q.i,y.2.1,y.2.2]
abbrev CSl(h:PH)(v:Value)(l:List (Bool×Int)):Prop:=jE h 2 v (l.map wrw)
structure JAc.wf(x:JAc):Prop where
 n:x.n<9223372036854775808
 q:x.q.wf
 l:∀y∈x.l,y.p.wf
structure JAs(h:PH)(v:Value)(l:List JV):Prop where
 s:jE h 7 v (l.map jrw)
 e:∀y∈l,wX h y.2.1 y.1.l∧CSl h y.2.2 y.1.w∧y.1.wf
def JAs.ext{h h':PH}{v:Value}{l:List JV}(H:JAs h v l)(u:eM h h'):JAs h' v l:=⟨H.s.ext u,λy hy=>⟨(H.e y hy).1.ext u,(H.e y hy).2.1.ext u,(H.e y hy).2.2⟩⟩
structure JPt(h:PH)(b o:Nat)(y:JV):Prop where
 k:eA h ⟨b,o,none⟩=some (.int .i64 y.1.k)
 n:eA h ⟨b,o+1,none⟩=some (.int .i64 y.1.n)
 c:eA h ⟨b,o+2,none⟩=some (.int .i64 y.1.ch)
 q:dH PG h (loadAt dK (pT b (o+3)))=some (plv y.1.q)
 l:eA h ⟨b,o+5,none⟩=some y.2.1
 w:eA h ⟨b,o+6,none⟩=some y.2.2
def JAs.pt{h:PH}{v:Value}{l:List JV}(H:JAs h v l){j:Nat}{y:JV}(hy:l[j]? =some y):
  ∃b o,dE PG (indexAt iT v (.int .i64 (j:Int)))=some (pT b o)∧JPt h b o y:=by
 obtain⟨b,o,cs,e',fr,h1,hb,hle,hex⟩:=H.s.at iT.und eV.info eV.size (k:=.i64) (j:=(j:Int)) (r:=jrw y) (by omega) (by rw[xB,xZ,hy];rfl);have hd:∀i n,i+n≤7->(cs.extract (o+i) (o+i+n)).toList=((jrw y).drop i).take n:=λi n hi=>by
  rw[←hex];simp only[zLD,zLx,aCw,zLy,rQ,aJV];congr 1;omega
 have hc:∀i c,i<7->(jrw y)[i]? =some c->eA h ⟨b,o+i,none⟩=some c:=λi c hi e=>by
  have:=congrArg (λl:List Value=>l[0]?) (hd i 1 (by omega));simp only[zLD,zLx,aCw,aEv,aJ4] at this;unfold eA;simp only[hb];rw[←e];simpa using this
 refine⟨b,o,h1,hc 0 _ (by decide) rfl,hc 1 _ (by decide) rfl,hc 2 _ (by decide) rfl,?_,hc 5 _ (by decide) rfl,hc 6 _ (by decide) rfl⟩;rw[dK.loadAgg hb (by omega)];congr 2;exact zLw (hd 3 2 (by decide))
def aNo{h:PH}{v:Value}{l:List JV}(H:JAs h v l):dE PG (Builtin.len_ #[iT] aR #[v])=some (.int .i64 l.length):=by
 have:=H.s.len (t':=aR) iT.und;rw[jJ] at this;exact this
def aNr{h:PH}{v:Value}{l:List (Bool×Int)}(H:CSl h v l):dE PG (Builtin.len_ #[iG] aR #[v])=some (.int .i64 l.length):=by
 have:=H.len (t':=aR) iG.und;rw[jJ] at this;exact this
end
section
open Go Go.RowKit Go.ChangeShapes
def dK.cells:PG.cellsOf dK=2:=by kernel_rfl
def eD.cells:PG.cellsOf eD=4:=by kernel_rfl
def gK.cells:PG.cellsOf gK=2:=by kernel_rfl
def eV.cells:PG.cellsOf eV=7:=by kernel_rfl
def eK.cells:PG.cellsOf eK=1:=by kernel_rfl
def iG.cells:PG.cellsOf iG=1:=by kernel_rfl
section
variable{H:Type}{enc:TypeId×Value->H}{w:World}{spare:Nat->Bool}{held:Bool}
def aKW{α:Type}{cells:α->List Value}{P:α->Prop}{t:TypeId}(hof:∀cs,Rd enc PG w spare held t cs->∃a,cs=cells a∧P a):∀{rows:List (List Value)},(∀r∈rows,Rd enc PG w spare held t r)->∃xs:List α,rows=xs.map cells∧∀x∈xs,P x
 | [],_=>⟨[],rfl,by simp⟩
 | r::rs,h=>by
  obtain⟨m,rfl,hm⟩:=hof r (h r (by simp));obtain⟨xs,rfl,hx⟩:=aKW hof (rows:=rs) (λx hx=>h x (by simp[hx]));exact⟨m::xs,rfl,λx hx'=>by rcases jW.1 hx' with rfl|h;exact hm;exact hx x h⟩
def Pk.rd{cs:List Value}(h:Rd enc PG w spare held cT cs):∃p:Pk,cs=p.cells∧p.wf:=by
 obtain⟨hl,hf⟩:=aHD cT.und h;rw[cT.cells] at hl
 match cs,hl with
 | [c0,c1,c2,c3],_=>
  have f0:Rd enc PG w spare held aR (([c0,c1,c2,c3].drop 0).take (PG.cellsOf aR)):=hf 0 _ rfl;rw[aR.cells] at f0;have f1:Rd enc PG w spare held dN (([c0,c1,c2,c3].drop 1).take (PG.cellsOf dN)):=hf 1 _ rfl;rw[dN.cells] at f1;have f2:Rd enc PG w spare held dN (([c0,c1,c2,c3].drop 2).take (PG.cellsOf dN)):=hf 2 _ rfl;rw[dN.cells] at f2;have f3:Rd enc PG w spare held aT (([c0,c1,c2,c3].drop 3).take (PG.cellsOf aT)):=hf 3 _ rfl;rw[aT.cells] at f3;obtain⟨n0,e0,-⟩:=aEP aR.und f0;obtain⟨n1,e1,w1⟩:=aEP dN.und f1;have w1:=aPR w1;obtain⟨n2,e2,w2⟩:=aEP dN.und f2;have w2:=aPR w2;obtain⟨n3,e3,-⟩:=aTN aT.und f3;simp only[zLa,zLb,zLc,zLd,lT,and_true] at e0 e1 e2 e3;subst e0 e1 e2 e3;exact⟨⟨n0,n1,n2,n3⟩,rfl,w1.1,by show n1<_;omega,w2.1,by show n2<_;omega⟩
def Nt.rd{cs:List Value}(h:Rd enc PG w spare held dP cs):∃p:Nt,cs=p.cells∧p.p.wf:=by
 obtain⟨hl,hf⟩:=aHD dP.und h;rw[dP.cells] at hl
 match cs,hl with
 | [c0,c1,c2,c3,c4],_=>
  have f0:Rd enc PG w spare held aR (([c0,c1,c2,c3,c4].drop 0).take (PG.cellsOf aR)):=hf 0 _ rfl;rw[aR.cells] at f0;have f1:Rd enc PG w spare held cT (([c0,c1,c2,c3,c4].drop 1).take (PG.cellsOf cT)):=hf 1 _ rfl;rw[cT.cells] at f1;obtain⟨n0,e0,-⟩:=aEP aR.und f0;obtain⟨n1,e1,w1⟩:=Pk.rd f1;simp only[zLa,zLb,zLc,zLd,lT,and_true,Pk.cells] at e0 e1;obtain⟨rfl,rfl,rfl,rfl⟩:=e1;subst e0;exact⟨⟨n0,n1⟩,rfl,w1⟩
def Nt.rds{rows:List (List Value)}(h:∀r∈rows,Rd enc PG w spare held dP r):∃xs:List Nt,rows=xs.map Nt.cells∧∀x∈xs,x.p.wf:=aKW (λ_=>Nt.rd) h
def Pl.rd{cs:List Value}(h:Rd enc PG w spare held dK cs):∃p:Pl,cs=p.cells∧p.wf:=by
 obtain⟨hl,hf⟩:=aHD dK.und h;rw[dK.cells] at hl
 match cs,hl with
 | [c0,c1],_=>
  have f0:Rd enc PG w spare held dN (([c0,c1].drop 0).take (PG.cellsOf dN)):=hf 0 _ rfl;rw[dN.cells] at f0;have f1:Rd enc PG w spare held aR (([c0,c1].drop 1).take (PG.cellsOf aR)):=hf 1 _ rfl;rw[aR.cells] at f1;obtain⟨n0,e0,w0⟩:=aEP dN.und f0;have w0:=aPR w0;obtain⟨n1,e1,-⟩:=aEP aR.und f1;simp only[zLa,zLb,zLc,zLd,lT,and_true] at e0 e1;subst e0 e1;exact⟨⟨n0,n1⟩,rfl,w0.1,by show n0<_;omega⟩
def mP.rd{cs:List Value}(h:Rd enc PG w spare held eD cs):∃p:Pl×Pl,cs=p.1.cells++p.2.cells∧p.1.wf∧p.2.wf:=by
 obtain⟨hl,hf⟩:=aU0 eD.und h;rw[eD.cells] at hl
 match cs,hl with
 | [c0,c1,c2,c3],_=>
  have f0:Rd enc PG w spare held dK (([c0,c1,c2,c3].drop (0*PG.cellsOf dK)).take (PG.cellsOf dK)):=hf 0 (by decide);have f1:Rd enc PG w spare held dK (([c0,c1,c2,c3].drop (1*PG.cellsOf dK)).take (PG.cellsOf dK)):=hf 1 (by decide);rw[dK.cells] at f0 f1;obtain⟨p,e0,w0⟩:=Pl.rd f0;obtain⟨q,e1,w1⟩:=Pl.rd f1;simp only[Nat.zero_mul,Nat.one_mul,zLa,zLb,zLc,zLd,lT,and_true,Pl.cells] at e0 e1;obtain⟨rfl,rfl⟩:=e0;obtain⟨rfl,rfl⟩:=e1;exact⟨(p,q),rfl,w0,w1⟩
def aW5{r:Reach}{base:Nat}{v:Value}{d:DataW H}{p:List MemPlace}(hval:Value.okWide PG w r base eD v)(hd:DataW.Trod enc PG w 0 spare held eD v d p):
  ∃a b:Pl,v=mP a b∧a.wf∧b.wf:=by
 have hu:PG.underlying eD=some (.array 2 dK):=eD.und;simp only[Value.okWide,hu] at hval;obtain⟨cs,rfl,_⟩:=hval;obtain⟨⟨a,b⟩,e,ha,hb⟩:=mP.rd (aUQ hd);refine⟨a,b,?_,ha,hb⟩;rw[mP];congr 1;exact Array.toList_inj.1 e
def Wt.rd{cs:List Value}(h:Rd enc PG w spare held gK cs):∃p:Bool×Int,cs=wrw p∧True:=by
 obtain⟨hl,hf⟩:=aHD gK.und h;rw[gK.cells] at hl
 match cs,hl with
 | [c0,c1],_=>
  have f0:Rd enc PG w spare held iI (([c0,c1].drop 0).take (PG.cellsOf iI)):=hf 0 _ rfl;rw[iI.cells] at f0;have f1:Rd enc PG w spare held aR (([c0,c1].drop 1).take (PG.cellsOf aR)):=hf 1 _ rfl;rw[aR.cells] at f1;obtain⟨n0,e0⟩:=aWe iI.und f0;obtain⟨n1,e1,-⟩:=aEP aR.und f1;simp only[zLa,zLb,zLc,zLd,lT,and_true] at e0 e1;subst e0 e1;exact⟨(n0,n1),rfl,trivial⟩
def Wt.rds{rows:List (List Value)}(h:∀r∈rows,Rd enc PG w spare held gK r):∃xs:List (Bool×Int),rows=xs.map wrw∧∀x∈xs,True:=aKW (λ_=>Wt.rd) h
def JV.rd{cs:List Value}(h:Rd enc PG w spare held eV cs):∃p:JV,cs=jrw p∧wX (aFd w) p.2.1 p.1.l∧CSl (aFd w) p.2.2 p.1.w∧p.1.wf:=by
 obtain⟨hl,hf⟩:=aHD eV.und h;rw[eV.cells] at hl
 match cs,hl with
 | [c0,c1,c2,c3,c4,c5,c6],_=>
  have f0:Rd enc PG w spare held aR (([c0,c1,c2,c3,c4,c5,c6].drop 0).take (PG.cellsOf aR)):=hf 0 _ rfl;rw[aR.cells] at f0;have f1:Rd enc PG w spare held aR (([c0,c1,c2,c3,c4,c5,c6].drop 1).take (PG.cellsOf aR)):=hf 1 _ rfl;rw[aR.cells] at f1;have f2:Rd enc PG w spare held aR (([c0,c1,c2,c3,c4,c5,c6].drop 2).take (PG.cellsOf aR)):=hf 2 _ rfl;rw[aR.cells] at f2;have f3:Rd enc PG w spare held dK (([c0,c1,c2,c3,c4,c5,c6].drop 3).take (PG.cellsOf dK)):=hf 3 _ rfl;rw[dK.cells] at f3;have f4:Rd enc PG w spare held eK (([c0,c1,c2,c3,c4,c5,c6].drop 5).take (PG.cellsOf eK)):=hf 4 _ rfl;rw[eK.cells] at f4;have f5:Rd enc PG w spare held iG (([c0,c1,c2,c3,c4,c5,c6].drop 6).take (PG.cellsOf iG)):=hf 5 _ rfl;rw[iG.cells] at f5;obtain⟨n0,e0,-⟩:=aEP aR.und f0;obtain⟨n1,e1,w1⟩:=aEP aR.und f1;have w1:=aXX w1;obtain⟨n2,e2,-⟩:=aEP aR.und f2;obtain⟨n3,e3,w3⟩:=Pl.rd f3;obtain⟨v4,rows4,e4,S4,hr4⟩:=aMO eK.und (by rw[dP.cells];decide) f4;obtain⟨n4,q4,w4⟩:=Nt.rds hr4;subst q4;rw[dP.cells] at S4;obtain⟨v5,rows5,e5,S5,hr5⟩:=aMO iG.und (by rw[gK.cells];decide) f5;obtain⟨n5,q5,w5⟩:=Wt.rds hr5;subst q5;rw[gK.cells] at S5;simp only[zLa,zLb,zLc,zLd,lT,and_true,Pl.cells] at e0 e1 e2 e3 e4 e5;obtain⟨rfl,rfl⟩:=e3;subst e0 e1 e2 e4 e5;exact⟨(⟨n0,n1,n2,n3,n4,n5⟩,_,_),rfl,S4,S5,⟨w1.2,w3,w4⟩⟩
def JV.rds{rows:List (List Value)}(h:∀r∈rows,Rd enc PG w spare held eV r):∃xs:List JV,rows=xs.map jrw∧∀y∈xs,wX (aFd w) y.2.1 y.1.l∧CSl (aFd w) y.2.2 y.1.w∧y.1.wf:=aKW (λ_=>JV.rd) h
end
def JAs.of{h:PH}{v:Value}{rows:List (List Value)}(S:jE h 7 v rows)(e:∃xs:List JV,rows=xs.map jrw∧∀y∈xs,wX h y.2.1 y.1.l∧CSl h y.2.2 y.1.w∧y.1.wf):∃L,JAs h v L:=by
 obtain⟨L,rfl,w⟩:=e;exact⟨L,S,w⟩
def aNX:List (String×DataW Unit):=[("unicode/utf8.acceptRanges",Rows.laid_unicode_utf8_acceptRanges),("unicode/utf8.first",Rows.laid_unicode_utf8_first)]
def kOf{W:World}(_:laidMetH Tryz.prog aNX W):True:=trivial
end
section
open Go
def aSU{d:Dk}(H:d.Ok)(w:Wl)(s:Tx):(jM d w s).1.buf.length≤d.buf.length+106:=by
 have hp:=aCK (hY d.size w.hd.gen w.ser s) d (d.base w.hd.seg+w.used);rw[kQ] at hp;have h1:=aI5 (n:=s.length) H.size;have ha:(vB d w s).1.buf.length≤d.buf.length+106:=by unfold vB;omega
 unfold jM
 repeat' split
 all_goals first|exact ha|(show d.buf.length≤_;omega)
def aOF{d:Dk}(H:d.Ok)(w:Wl)(s:Tx):(iE d w s).1.buf.length≤d.buf.length+107:=by
 have hp:=aCK (hY d.size (iQ w.hd).1.gen 0 s) d (d.base (iQ w.hd).1.seg);rw[kQ] at hp;have h1:=aI5 (n:=s.length) H.size;have ha:(nI d (iQ w.hd).1 s).1.buf.length≤d.buf.length+106:=by unfold nI;omega
 have hq:=aCK [(gY d.size (iQ w.hd).1).1] (nI d (iQ w.hd).1 s).1 (1-w.slot);simp only[jY,lU] at hq;unfold iE
 repeat' split
 all_goals first|(show d.buf.length≤_;omega)|(show(nI d (iQ w.hd).1 s).1.buf.length≤_;omega)|(show(jZ (nI d (iQ w.hd).1 s).1 (1-w.slot) [(gY d.size (iQ w.hd).1).1]).1.buf.length≤_;omega)
def aUc{d:Dk}(H:d.Ok)(j:Jn)(ch:Int)(q:Pl)(ns:List Nt):(pK d j ch q ns).1.buf.length≤d.buf.length+107:=by
 have h1:=aSU H j.w (iN ch q ns).bytes.1;have h2:=aOF H j.w (mA (mS j.s j.room (iN ch q ns)).1);have h3:(xY d j (iN ch q ns) (mS j.s j.room (iN ch q ns)).1).1.buf.length≤d.buf.length+107:=by
  unfold xY;split
  ·omega
  ·exact h2
 unfold pK
 repeat' split
 all_goals first|(show d.buf.length≤_;omega)|exact h3
def aVf{d:Dk}(H:d.Ok)(room:Int)(p q:Pl):(jP d room p q).1.buf.length≤d.buf.length+108:=by
 have h1:=aJd d;have h2:=aOF (aNJ H).1 (gQ d).2.1.1 (mA (mH room ⟨p,q,[]⟩ (gQ d).2.1.2).1);unfold jP
 repeat' split
 all_goals first|(show d.buf.length≤_;omega)|(show(gQ d).1.buf.length≤_;omega)|(show(iE (gQ d).1 (gQ d).2.1.1 (mA (mH room ⟨p,q,[]⟩ (gQ d).2.1.2).1)).1.buf.length≤_;omega)
def aGu(room:Int)(p q:Pl)(d:Dk):Dk×Option Jn:=((jP d room p q).1,if (jP d room p q).2.2=0 then some (jP d room p q).2.1 else none)
def doJ(room:Int)(p q:Pl)(x:JAc)(s:Dk×Option Jn):Dk×Option Jn:=
 if x.k=0 then(match s.2 with
  | none=>s
  | some j=>((pK s.1 j x.ch x.q x.l).1,some (pK s.1 j x.ch x.q x.l).2.1))
 else if x.k=1 then(s.1.armed x.n,s.2)
 else if x.k=2 then aGu room p q s.1
 else aGu room p q (s.1.crash x.w)
def aYF{h:PH}{d:Nat}(q q':Pl):dH PG h (Op.equalIn (d+1+1) dK (plv q) (plv q'))=some (decide (q=q')):=by
 rw[aBJ dK.und (by kernel_rfl) (λf=>match f.offset with|0=>q.h==q'.h|_=>q.i==q'.i)]
 ·congr 1;rw[yA];obtain⟨a,b⟩:=q;obtain⟨a',b'⟩:=q';simp
 ·intro f hf;simp only[jW,zLg,or_false] at hf;rcases hf with rfl|rfl
  ·exact⟨by decide,_,_,jO dN.und rfl rfl,jO dN.und rfl rfl,sH dN.und⟩
  ·exact⟨by decide,_,_,jO aR.und rfl rfl,jO aR.und rfl rfl,sH aR.und⟩
def aXp{h:PH}{x y:Operand}(q q':Pl):dH PG h (gV .eql dK x y (plv q) (plv q'))=some (.bool (decide (q=q'))):=aI4 (by kernel_rfl) (aYF (d:=9998) q q')
def aYi{h:PH}{d:Nat}(m m':Pk):dH PG h (Op.equalIn (d+1+1) cT (pkv m) (pkv m'))=some (decide (m=m')):=by
 have:dH PG h (Op.equalIn (d+1+1) cT (pkv m) (pkv m'))=some (m.f==m'.f&&(m.s==m'.s&&(m.t==m'.t&&(m.d==m'.d&&true)))):=by
  refine(aBJ cT.und (by kernel_rfl) (λf=>match f.offset with|0=>m.f==m'.f|1=>m.s==m'.s|2=>m.t==m'.t|_=>m.d==m'.d) ?_);intro f hf;simp only[jW,zLg,or_false] at hf;rcases hf with rfl|rfl|rfl|rfl
  ·exact⟨by decide,_,_,jO aR.und rfl rfl,jO aR.und rfl rfl,sH aR.und⟩
  ·exact⟨by decide,_,_,jO dN.und rfl rfl,jO dN.und rfl rfl,sH dN.und⟩
  ·exact⟨by decide,_,_,jO dN.und rfl rfl,jO dN.und rfl rfl,sH dN.und⟩
  ·exact⟨by decide,_,_,jO aT.und rfl rfl,jO aT.und rfl rfl,aL6 aT.und⟩
 rw[this,aOE];congr 1;rw[yA];obtain⟨a,b,c,e⟩:=m;obtain⟨a',b',c',e'⟩:=m';simp
def aX9{h:PH}{x y:Operand}(m m':Pk):dH PG h (gV .eql cT x y (pkv m) (pkv m'))=some (.bool (decide (m=m'))):=aI4 (by kernel_rfl) (aYi (d:=9998) m m')
def aY1:dE PG (build dK #[(0,(Value.int IntKind.u64 5))])=some (plv ⟨5,0⟩):=by kernel_rfl
def aYZ:dE PG (build eD #[(0,plv ⟨5,0⟩),(1,plv ⟨5,0⟩)])=some (mP ⟨5,0⟩ ⟨5,0⟩):=by kernel_rfl
def aVy:dE PG (build dK #[(0,(Value.int IntKind.u64 6)),(1,(Value.int IntKind.i64 1))])=some (plv ⟨6,1⟩):=by kernel_rfl
def aYp:dE PG (build cT #[(1,(Value.int IntKind.u64 1)),(2,(Value.int IntKind.u64 9))])=some (pkv jPk):=by kernel_rfl
def aZC:dE PG (build dP #[(0,(Value.int IntKind.i64 1)),(1,pkv jPk)])=some (.agg jN.cells.toArray):=by kernel_rfl
def aYA:lH PG (buildSlice eK 1 #[(0,.agg jN.cells.toArray)])=some (.cells jN.cells.toArray dP,λr=>pure (.slice (some ⟨r,0,none⟩) 1 1)):=by kernel_rfl
def aP7{h:PH}{x y:Operand}{r:Nat}:dH PG h (gV .eql qG x y (pT r 0) (.pointer none))=some (.bool false):=zC qG.und
def aXI{h:PH}{v:Value}{l:List It}(S:kV h v l){j:Nat}{x:It}(hx:l[j]? =some x):∃b o,dE PG (indexAt dC v (.int .i64 (j:Int)))=some (pT b o)∧dH PG h (loadAt cT (pT b o))=some (pkv x.p):=by
 obtain⟨b,o,cs,e',fr,h1,hb,hle,hex⟩:=S.at dC.und dJ.info dJ.size (k:=.i64) (j:=(j:Int)) (r:=x.cells) (by omega) (by rw[xB,xZ,hx];rfl);refine⟨b,o,h1,?_⟩;rw[cT.loadAgg hb (by omega)];congr 2;apply zLw;have:=congrArg (λl:List Value=>l.take 4) hex;simp only[zLD,zLx,aCw,aJV] at this ⊢;exact this
def kL.scan{r a m w j:Nat}{d d2:Dk}{x:Jn}{vp:JP}{e room:Int}{p q:Pl}{h:PH}{F:List Nat}(H:kL r a m d (some (w,j,x)) e d2 vp room p q h F){vn:Value}{ns:List Nt}(ch:Int)(qs:Pl)(hq:qs.wf)(N:wX h vn ns)(hn:∀y∈ns,y.p.wf)(hb:d.buf.length≤900000){k:dI}
  (hk:∀h' F',kL r a m (pK d x ch qs ns).1 (some (w,j,(pK d x ch qs ns).2.1)) e d2 vp room p q h' F'->fT h F h' F'->k (.int .i64 (pK d x ch qs ns).2.2) h'):bR PG rO #[pT j 0,.int .i64 ch,.agg qs.cells.toArray,vn] h k:=by
 obtain⟨Fa,Fm,rfl,B,P,D,n1,n2,n3⟩:=H.here;have P:yY a w j d x h Fa:=P;refine aVG P ch qs hq N hn hb λh1 F1 P1 s1=>?_;obtain⟨B1,D1,m1,m3⟩:=kL.prog (d:=d) (d':=d) (jp':=vp) (e':=e) B D n1 n2 n3 s1;exact hk h1 (r::(F1++Fm)) ⟨⟨F1,Fm,rfl,B1,P1,D1,m1,n2,m3⟩⟩ (fT.app [r] (fT.appR Fm s1))
structure aYu(r a m:Nat)(jp:JP)(e:Int)(vp:JP)(room:Int)(p q:Pl)(h:PH):Prop where
 d:eA h ⟨r,0,none⟩=some (pT a 0)
 j:eA h ⟨r,0+1,none⟩=some (aEs jp)
 e:eA h ⟨r,0+2,none⟩=some (.int .i64 e)
 m:eA h ⟨r,0+3,none⟩=some (pT m 0)
 v:eA h ⟨r,0+4,none⟩=some (aEs vp)
def kL.b{r a m:Nat}{d d2:Dk}{jp vp:JP}{e room:Int}{p q:Pl}{h:PH}{F:List Nat}(H:kL r a m d jp e d2 vp room p q h F):aYu r a m jp e vp room p q h:=by
 obtain⟨_,_,_,B,_⟩:=H.here;exact⟨B.cell 0,B.cell 1,B.cell 2,B.cell 3,B.cell 4⟩
def kL.state{r a m w j:Nat}{d d2:Dk}{x:Jn}{vp:JP}{e room:Int}{p q:Pl}{h:PH}{F:List Nat}(H:kL r a m d (some (w,j,x)) e d2 vp room p q h F){k:dI}(hk:∀h' v,kV h' v x.s.its->jV h v->eM h h'->k (x.s.v v) h'):bR PG qO #[pT j 0] h k:=by
 obtain⟨_,_,_,_,P,_⟩:=H.here;have P:yY a w j d x h _:=P;exact aVH P hk
def kL.halted{r a m w j:Nat}{d d2:Dk}{x:Jn}{vp:JP}{e room:Int}{p q:Pl}{h:PH}{F:List Nat}(H:kL r a m d (some (w,j,x)) e d2 vp room p q h F){k:dI}(hk:k (.bool x.w.broken) h):bR PG nT #[pT j 0] h k:=by
 obtain⟨_,_,_,_,P,_⟩:=H.here;have P:yY a w j d x h _:=P;exact yY.halted P hk
def aR4{h:PH}{k:dI}(hk:∀h',eM h h'->k (.bool true) h'):bR PG aBz #[] h k:=by
 apply sW.call;unfold sW;obtain⟨d1,w1,d2,j2,d3,w3,d4,w4,e1,e2,e3,e4,y1,y2,q1,q2⟩:=aYl;simp only[aY1,aYZ,dF,reduceIte,dM,Nat.reduceAdd];refine aOw 64 20 (by decide) (by decide) (by decide) 2 ⟨5,0⟩ ⟨5,0⟩ λh1 r a m F1 P1 f1 u1=>?_;have N1:aGa h h1 F1:=⟨u1,f1⟩;simp only[aP7,dF,reduceIte,dM,Nat.reduceAdd];refine aMS P1 aIG aIG (by decide) (by decide) (by decide) (by decide) λh2 F2 jp vp P2 s2 o2 v2=>?_;rw[e1] at P2 o2 v2 ⊢;have N2:=N1.step s2;obtain⟨w,j,rfl⟩:=o2.1 rfl;obtain⟨wv,jv,rfl⟩:=v2.1 rfl;have b2:=P2.b;simp only[decide_true,dU.f1,fO.load,b2.j,aNw,aMf,aYp,dF,reduceIte,dM,Nat.reduceAdd];intro r41 hr41
 try rw[dY]
 refine cT.fill (vs:=jPk.cells) hr41 rfl (Pk.isC _) λh3 B3 u3=>?_;have n3:r41∉F2:=λhm=>P2.known r41 hm hr41;have P3:=P2.ext u3;have N3:=N2.more u3;have b3:=P3.b;have l3:dH PG h3 (loadAt cT (pT r41 0))=some (pkv jPk):=cT.agg B3 (by show 0+4≤4;decide);simp only[dU.f1,fO.load,b3.j,aVy,l3,aZC,aYA,dF,reduceIte,dM,Nat.reduceAdd];intro r51 hr51;refine jC ?_
 try rw[dY]
 have u4:eM h3 (h3.set r51 (.cells jN.cells.toArray dP)):=eH.new hr51;have S4:wX (h3.set r51 (.cells jN.cells.toArray dP)) (.slice (some ⟨r51,0,none⟩) 1 1) [jN]:=(fY.lit (n:=1) (Nt.rows _) gB (by simp) (by decide) (by simp)).slR;generalize h3.set r51 (.cells jN.cells.toArray dP)=h4 at *;have P4:=P3.ext u4;have N4:=N3.more u4;refine P4.scan 0 ⟨6,1⟩ aWO S4 (λy hy=>?_) (by rw[q1];decide) λh5 F5 P5 s5=>?_
 ·simp only[jI] at hy;subst hy;exact⟨by decide,by decide,by decide,by decide⟩
 rw[e2] at P5 ⊢;have P5:kL r a m d2 (some (w,j,j2)) 0 d1 (some (wv,jv,(⟨w1,2,jS0⟩:Jn))) 2 ⟨5,0⟩ ⟨5,0⟩ h5 F5:=P5;have N5:=N4.step s5;obtain⟨B5,n5⟩:=aIL (B3.ext u4) n3 s5;refine aMS P5 aIG aIG (by rw[y2];decide) (by rw[y1];decide) (by rw[q2];decide) (by rw[q1];decide) λh6 F6 jp' vp' P6 s6 o6 v6=>?_;rw[e3,e4] at P6 ⊢;rw[e3] at o6;rw[e4] at v6;have N6:=N5.step s6;obtain⟨B6,n6⟩:=aIL B5 n5 s6;obtain⟨w',j',rfl⟩:=o6.1 rfl;have b6:=P6.b;simp only[decide_true,dU.f1,fO.load,b6.j,aNw,aMf,dF,reduceIte,dM,Nat.reduceAdd];refine P6.state λh7 v S7 nv u7=>?_;have S7:kV h7 v [⟨jPk,1⟩]:=S7;simp only[dF,reduceIte,dM,Nat.reduceAdd];intro r85 hr85
 try rw[dY]
 refine cR.fill (vs:=jS1.cells v) hr85 rfl (Dm.isC _ S7.isc) λh8 B8 u8=>?_;have B8p:=(B6.ext u7).ext u8;have l8:dH PG h8 (loadAt cT (pT r41 0))=some (pkv jPk):=cT.agg B8p (by show 0+4≤4;decide);have c4:eA h8 ⟨r85,0+4,none⟩=some v:=B8.cell 4;have lv:dE PG (Builtin.len_ #[dC] aR #[v])=some (.int .i64 1):=S7.len (t':=aR) dC.und;obtain⟨b,o,i1,i2⟩:=aXI (S7.ext u8) (j:=0) rfl;have i1:dE PG (indexAt dC v (.int .i64 0))=some (pT b o):=i1;have i2:dH PG h8 (loadAt cT (pT b o))=some (pkv jPk):=i2;have x0:dE PG (indexAt eD (pT r85 0) (.int .i64 0))=some (pT r85 0):=by kernel_rfl
 have l0:dH PG h8 (loadAt dK (pT r85 0))=some (plv ⟨6,1⟩):=dK.agg B8 (by show 0+2≤5;decide);have q3:((0:Int)==0)=true:=rfl;have q4:((1:Int)==1)=true:=rfl;simp only[gX,q3,q4,cR.f0,cR.f1,dC.load,c4,lv,i1,dJ.f0,i2,l8,aX9,decide_true,x0,l0,aVy,aXp,dF,reduceIte,dM,Nat.reduceAdd];exact hk h8 ((N6.ext.trans u7).trans u8)
structure aY9(size sectors:Int)(L:List JV):Prop where
 s1:64≤size
 s2:size≤128
 n1:1≤sectors
 n2:sectors≤60
 len:L.length≤30
 each:∀y∈L,y.1.l.length≤40∧y.1.w.length≤100
def aV5{h:PH}{v:Value}{l:List Nt}(S:wX h v l):dE PG (Builtin.len_ #[eK] aR #[v])=some (.int .i64 l.length):=by
 have:=S.len (t':=aR) eK.und;rw[jJ] at this;exact this
def aYI{h:PH}{v:Value}{l:List Nt}(S:wX h v l){j:Nat}{x:Nt}(hx:l[j]? =some x):∃b o,dE PG (indexAt eK v (.int .i64 (j:Int)))=some (pT b o)∧eA h ⟨b,o+4,none⟩=some (.string x.p.d):=by
 obtain⟨b,o,h1,h2,-⟩:=S.fields eK.und dP.info dP.size (k:=.i64) (j:=j) (r:=x.cells) (by rw[xB,hx];rfl);exact⟨b,o,h1,h2 4 _ rfl⟩
def aUu{h:PH}{v:Value}{L:List JV}(A:JAs h v L)(size sectors:Int){k:dI}(hk:∀b,(b=true->aY9 size sectors L)->k (.bool b) h):bR PG aCu #[.int .i64 size,.int .i64 sectors,v] h k:=by
 apply vK.call;unfold vK;have no:k (.bool false) h:=hk false λe=>by cases e
 have ll:=aNo A;by_cases c1:size<64
 ·have g1:(size<64)=True:=eq_true c1;simp only[g1,dF,reduceIte,dM,Nat.reduceAdd];exact no
 have g1:(size<64)=False:=eq_false c1;by_cases c2:128<size
 ·have g2:((128:Int)<size)=True:=eq_true c2;simp only[g1,g2,dF,reduceIte,dM,Nat.reduceAdd];exact no
 have g2:((128:Int)<size)=False:=eq_false c2;by_cases c3:sectors<1
 ·have g3:(sectors<1)=True:=eq_true c3;simp only[g1,g2,g3,dF,reduceIte,dM,Nat.reduceAdd];exact no
 have g3:(sectors<1)=False:=eq_false c3;by_cases c4:60<sectors
 ·have g4:((60:Int)<sectors)=True:=eq_true c4;simp only[g1,g2,g3,g4,dF,reduceIte,dM,Nat.reduceAdd];exact no
 have g4:((60:Int)<sectors)=False:=eq_false c4;by_cases c5:30<L.length
 ·have g5:((30:Int)<(L.length:Int))=True:=eq_true (by omega);simp only[g1,g2,g3,g4,ll,g5,dF,reduceIte,dM,Nat.reduceAdd];exact no
 have g5:((30:Int)<(L.length:Int))=False:=eq_false (by omega);simp only[g1,g2,g3,g4,ll,g5,dF,reduceIte,dM,Nat.reduceAdd];refine⟨λvs h'=>∃i:Nat,i≤L.length∧vs=[v,.int .i64 (i:Int)]∧h'=h∧∀y∈L.take i,y.1.l.length≤40∧y.1.w.length≤100,gT L.length 1,⟨0,by omega,rfl,rfl,by simp⟩,?_⟩;rintro ρ h' ⟨i,hi,hvs,rfl,hy⟩;simp only[jF,kF,lT,and_true] at hvs;obtain⟨v0,v1⟩:=hvs;unfold aFS;rw[v0,v1];by_cases hlt:i<L.length
 ·have g6:((i:Int)<(L.length:Int))=True:=eq_true (by omega);have gi:=oM (i:=i) (by omega);obtain⟨y,hx⟩:∃x,L[i]? =some x:=⟨_,lG hlt⟩;obtain⟨b,o,i1,P⟩:=A.pt hx;obtain⟨NS,CS,wf⟩:=A.e y (wE hx);have ln:=aV5 NS;have lc:=aNr CS;by_cases d1:40<y.1.l.length
  ·have k1:((40:Int)<(y.1.l.length:Int))=True:=eq_true (by omega);simp only[ll,g6,i1,eV.f4,eK.load,P.l,ln,k1,dF,reduceIte,dM,Nat.reduceAdd];exact no
  have k1:((40:Int)<(y.1.l.length:Int))=False:=eq_false (by omega);by_cases d2:100<y.1.w.length
  ·have k2:((100:Int)<(y.1.w.length:Int))=True:=eq_true (by omega);simp only[ll,g6,i1,eV.f4,eV.f5,eK.load,iG.load,P.l,P.w,ln,lc,k1,k2,dF,reduceIte,dM,Nat.reduceAdd];exact no
  have k2:((100:Int)<(y.1.w.length:Int))=False:=eq_false (by omega);simp only[ll,g6,i1,eV.f4,eV.f5,eK.load,iG.load,P.l,P.w,ln,lc,k1,k2,dF,reduceIte,dM,Nat.reduceAdd];refine⟨λvs h2=>∃m:Nat,m≤y.1.l.length∧vs=[v,.int .i64 (i:Int),.int .i64 (m:Int)]∧h2=h',gT y.1.l.length 2,⟨0,by omega,rfl,rfl⟩,?_⟩;rintro ρ2 h2 ⟨m,hm,hvs2,rfl⟩;simp only[jF,kF,lT,and_true] at hvs2;obtain⟨w0,w1,w2⟩:=hvs2;unfold aF0;rw[w0,w1,w2];by_cases hlm:m<y.1.l.length
  ·have k3:((m:Int)<(y.1.l.length:Int))=True:=eq_true (by omega);have gm:=oM (i:=m) (by omega);obtain⟨z,hz⟩:∃x,y.1.l[m]? =some x:=⟨_,lG hlm⟩;obtain⟨b',o',j1,j2⟩:=aYI NS hz;have lp:dE PG (Builtin.len_ #[aT] aR #[.string z.p.d])=some (.int .i64 (z.p.d.size:Int)):=vP aT.und;by_cases y1:300<z.p.d.size
   ·have k4:((300:Int)<(z.p.d.size:Int))=True:=eq_true (by omega);simp only[i1,eV.f4,eK.load,P.l,ln,k3,j1,dP.f1,cT.f3,Nat.add_assoc,Nat.reduceAdd,aT.load,j2,lp,k4,dF,reduceIte,dM,Nat.reduceAdd];exact no
   have k4:((300:Int)<(z.p.d.size:Int))=False:=eq_false (by omega);simp only[i1,eV.f4,eK.load,P.l,ln,k3,j1,dP.f1,cT.f3,Nat.add_assoc,Nat.reduceAdd,aT.load,j2,lp,k4,gm,dF,reduceIte,dM,Nat.reduceAdd];exact⟨⟨m+1,by omega,rfl,by first|rfl|trivial⟩,by simp[gT,w2];omega⟩
  ·have k3:((m:Int)<(y.1.l.length:Int))=False:=eq_false (by omega);simp only[i1,eV.f4,eK.load,P.l,ln,k3,gi,dF,reduceIte,dM,Nat.reduceAdd];refine⟨⟨i+1,by omega,rfl,by first|rfl|trivial,λz hz=>?_⟩,by simp[gT,v1];omega⟩;rw[zLR,hx] at hz;rcases wQ.1 hz with hz|hz
   ·exact hy z hz
   ·simp only[Option.toList_some,jI] at hz;subst hz;exact⟨by omega,by omega⟩
 ·have g6:((i:Int)<(L.length:Int))=False:=eq_false (by omega);rw[sU (by omega)] at hy;simp only[ll,g6,dF,reduceIte,dM,Nat.reduceAdd];exact hk true λ_=>⟨by omega,by omega,by omega,by omega,by omega,hy⟩
def aOV(size:Nat)(x:(Nat×Tx)×(Bool×Int))(r:List ((Nat×Tx)×(Bool×Int)))(t:Bool)(st:List Tx):
  zT size (x::r) t st=if x.2.1=false then zT size r t st else if 0<x.2.2∧x.2.2<size∧t=false then zT size r true (st.set x.1.1 (x.1.2.take x.2.2.toNat++(st.getD x.1.1 []).drop x.2.2.toNat)) else zT size r t (st.set x.1.1 x.1.2):=rfl
def wrw.isC(w:Bool×Int):∀v∈wrw w,gN v=true:=by simp[wrw,gN]
def aS7{h:PH}{v:Value}{l:List (Bool×Int)}(S:CSl h v l){i:Nat}{y:Bool×Int}(hy:l[i]? =some y):
  ∃b o,dE PG (indexAt iG v (.int .i64 (i:Int)))=some (pT b o)∧dH PG h (loadAt gK (pT b o))=some (.agg (wrw y).toArray)∧eA h ⟨b,o,none⟩=some (.bool y.1)∧eA h ⟨b,o+1,none⟩=some (.int .i64 y.2):=by
 obtain⟨b,o,h1,h2,h3⟩:=S.fields iG.und gK.info gK.size (k:=.i64) (j:=i) (r:=wrw y) (by rw[xB,hy];rfl);exact⟨b,o,h1,h3 _ gK.und rfl,h2 0 _ rfl,h2 1 _ rfl⟩
def aTg{α β:Type}{l:List α}{m:List β}{i:Nat}{x:α}{y:β}(hx:l[i]? =some x)(hy:m[i]? =some y):(l.zip m).drop i=(x,y)::(l.zip m).drop (i+1):=by
 have hz:(l.zip m)[i]? =some (x,y):=by rw[List.getElem?_zip_eq_some];exact⟨hx,hy⟩
 obtain⟨hl,e⟩:=zLA.1 hz;rw[aBE hl,e]
def aUy{F:List Nat}{h h1:PH}{r:Nat}(w:eH F h h1)(n:r∉F)(hr:h1 r=none):h r=none:=by
 cases e:h r with
 | none=>rfl
 | some o=>rw[w r o e n] at hr;cases hr
def aVU{F:List Nat}{h h1 h2:PH}{r:Nat}(w:eH F h h1)(u:eH [r] h1 h2)(hr:h r=none):eH F h h2:=by
 have a:eH (r::F) h h1:=w.mono λb hb=>.inl (aJ2 r hb);have c:eH (r::F) h1 h2:=u.mono λb hb=>.inl (by simp only[jI] at hb;simp[hb]);refine(a.trans c).mono λb hb=>?_;rcases jW.1 hb with rfl|hb
 ·exact .inr hr
 ·exact .inl hb
def aUw{h:PH}{a:Nat}{d:Dk}{F:List Nat}{vw:Value}{l:List (Bool×Int)}(D:pD a d h F)(S:∀h',eH F h h'->CSl h' vw l)(hb:d.buf.length≤1000000){k:dI}(hk:∀h' F',pD a (d.crash l) h' F'->fT h F h' F'->k (.tuple #[]) h'):bR PG aDV #[pT a 0,vw] h k:=by
 apply xL.call;unfold xL;have hok:=D.ok.crash l;have hz:=D.ok.size;obtain⟨sv,bv,Fs,Fb,eF,B,Z,W,n1,n2,n3⟩:=id D.here;have L:=DkB.of B;obtain⟨n,hn⟩:∃n,min l.length d.buf.length=n:=⟨_,rfl⟩;have em:(if (d.buf.length:Int)<(l.length:Int) then(d.buf.length:Int) else(l.length:Int))=(n:Int):=by split<;>omega
 obtain⟨v10,ec,-,-⟩:=W.slR.cut (t:=fS) (lo:=none) (hi:=some (.int .i64 (n:Int))) (l:=0) (m:=n) fS.und fP.info fP.size (.inl ⟨rfl,rfl⟩) (.inr ⟨_,rfl⟩) (by omega) (by rw[jJ];omega);have cut:∀{h':PH},fY h' fP 2 bv (d.buf.map tI) Fb->jE h' 2 v10 ((d.buf.take n).map tI):=fun {h'} W'=>by
  obtain⟨v',ec',S',-⟩:=W'.slR.cut (t:=fS) (lo:=none) (hi:=some (.int .i64 (n:Int))) (l:=0) (m:=n) fS.und fP.info fP.size (.inl ⟨rfl,rfl⟩) (.inr ⟨_,rfl⟩) (by omega) (by rw[jJ];omega);rw[ec] at ec';cases ec';rw[zLb,←List.map_take] at S';exact S'
 have le0:=aLb (cut W);have lt0:(d.buf.take n).length=n:=by rw[mT];omega
 rw[lt0] at le0;simp only[fM.f2,fS.load,L.buf,aNr (S h eH.refl),aLb W.slR,aLv,em,ec,le0,dF,reduceIte,dM,Nat.reduceAdd];refine⟨λvs h'=>∃(i:Nat) (t:Bool) (st:List Tx),i≤n∧vs=[pT a 0,vw,.bool t,v10,.int .i64 (n:Int),.int .i64 (i:Int)]∧fY h' aT 1 sv (st.map jX) Fs∧eH Fs h h'∧st.length=d.sectors∧(∀s∈st,s.length=d.size)∧zT d.size ((d.buf.zip l).drop i) t st=(d.crash l).st,gT n 5,⟨0,false,d.st,by omega,rfl,Z,eH.refl,D.ok.len,D.ok.each,rfl⟩,?_⟩;rintro ρ h' ⟨i,t,st,hi,hvs,Z2,w,hl,he,hcr⟩;simp only[jF,kF,lT,and_true] at hvs;obtain⟨x0,x1,x4,x20,x21,x22⟩:=hvs;unfold aGO;rw[x0,x1,x4,x20,x21,x22];have wF:eH F h h':=w.mono λb hb=>.inl (by rw[eF];simp[hb]);have B2:=B.upd w n1;have W2:=W.upd w (λb hb hm=>n3 b hm hb);have S2:=S h' wF;by_cases hlt:i<n
 ·have g:((i:Int)<(n:Int))=True:=eq_true (by omega);have gi:=oM (i:=i) (by omega);obtain⟨x,hx⟩:∃x,d.buf[i]? =some x:=⟨_,lG (by omega)⟩;obtain⟨y,hy⟩:∃y,l[i]? =some y:=⟨_,lG (by omega)⟩;obtain⟨hx1,hx2⟩:=D.ok.buf x (wE hx);rw[aTg hx hy,aOV] at hcr;obtain⟨p,i1,i2⟩:=aSa (cut W2) (w:=x) (i:=i) (by rw[aEv,if_pos hlt];exact hx);simp only[g,i1,i2,dF,reduceIte,dM,Nat.reduceAdd];intro r17 hr17
  try rw[dY]
  refine fP.fill (vs:=tI x) hr17 rfl (tI.isC x) λh3 B3 u3=>?_;obtain⟨b,o,j1,j2,-⟩:=aS7 (S2.ext u3) hy;simp only[j1,j2,dF,reduceIte,dM,Nat.reduceAdd];intro r23 hr23
  try rw[dY]
  refine gK.fill (vs:=wrw y) hr23 rfl (wrw.isC y) λh4 B4 u4=>?_;have w4:eH Fs h h4:=(w.trans u3.upd).trans u4.upd;have Z4:=(Z2.ext u3).ext u4;have B3:=B3.ext u4;have A4:=(B2.ext u3).ext u4;have ne:r17∉Fs:=λhm=>Z2.known r17 hm hr17;have na:r17≠a:=λe=>B2.known (by rw[←e];exact hr17);have d0:eA h4 ⟨r23,0,none⟩=some (.bool y.1):=B4.cell 0;have d1:eA h4 ⟨r23,0+1,none⟩=some (.int .i64 y.2):=B4.cell 1;have hgl:x.1<st.length:=by omega
  -- what is behind: the sector is set
  have put:∀(t':Bool) (s:Tx) (h5:PH),Bx h5 r17 [.int .i64 (x.1:Int),.string (tx s)]->fY h5 aT 1 sv (st.map jX) Fs->Bx h5 a [.int .i64 (d.size:Int),.int .i64 (d.sectors:Int),sv,bv,.int .i64 (d.arm:Int)]->eH Fs h h5->s.length=d.size->zT d.size ((d.buf.zip l).drop (i+1)) t' (st.set x.1 s)=(d.crash l).st->
    ∀n12:List Value->PH->Prop,(∀h6 (st':List Tx),fY h6 aT 1 sv (st'.map jX) Fs->eH Fs h h6->st'.length=d.sectors->(∀s∈st',s.length=d.size)->zT d.size ((d.buf.zip l).drop (i+1)) t' st'=(d.crash l).st->n12 [pT a 0,vw,.bool t',v10,.int .i64 (n:Int),.int .i64 ((i+1:Nat):Int)] h6)->
    uV k n12 (pT a 0) vw (.bool t') (pT r17 0) v10 (.int .i64 (n:Int)) (.int .i64 (i:Int)) h5:=by
   intro t' s h5 B5 Z5 A5 w5 hs hc n12 hk12;unfold uV;have cs:eA h5 ⟨a,0+2,none⟩=some sv:=A5.cell 2;have e0:eA h5 ⟨r17,0,none⟩=some (.int .i64 (x.1:Int)):=B5.cell 0;have e1:eA h5 ⟨r17,0+1,none⟩=some (.string (tx s)):=B5.cell 1;have hxm:x.1<(st.map jX).length:=by rw[jJ];exact hgl
   obtain⟨b,o,m1,m2⟩:=aN6 Z5 hxm (x:=.string (tx s)) rfl;simp only[fM.f1,eB.load,cs,fP.f0,fP.f1,aR.load,aT.load,e0,e1,m1,dF,reduceIte,dM,Nat.reduceAdd];refine m2 λh6 Z6 u6=>?_;simp only[aAB,aCy,gi,dF,reduceIte,dM,Nat.reduceAdd];rw[aLN] at Z6;refine hk12 h6 _ Z6 (w5.trans u6) (by rw[List.length_set];exact hl) (λz hz=>?_) hc;rcases List.mem_or_eq_of_mem_set hz with e|e
   ·exact he z e
   ·rw[e];exact hs
  have done:∀(t':Bool) h6 (st':List Tx),fY h6 aT 1 sv (st'.map jX) Fs->eH Fs h h6->st'.length=d.sectors->(∀s∈st',s.length=d.size)->zT d.size ((d.buf.zip l).drop (i+1)) t' st'=(d.crash l).st->
    (∃(i':Nat) (t:Bool) (st:List Tx),i'≤n∧[pT a 0,vw,.bool t',v10,.int .i64 (n:Int),.int .i64 ((i+1:Nat):Int)]=[pT a 0,vw,.bool t,v10,.int .i64 (n:Int),.int .i64 (i':Int)]∧fY h6 aT 1 sv (st.map jX) Fs∧eH Fs h h6∧st.length=d.sectors∧(∀s∈st,s.length=d.size)∧zT d.size ((d.buf.zip l).drop i') t st=(d.crash l).st):=λt' h6 st' a1 a2 a3 a4 a5=>⟨i+1,t',st',by omega,rfl,a1,a2,a3,a4,a5⟩
  cases y1:y.1 with
  | false=>
   rw[if_pos (by exact y1)] at hcr;rw[y1] at d0;simp only[gK.f0,iI.load,d0,aAB,aCy,gi,dF,reduceIte,dM,Nat.reduceAdd];exact⟨done t h4 st Z4 w4 hl he hcr,by simp[gT,x22];omega⟩
  | true=>
   rw[if_neg (by show ¬y.1=false;rw[y1];decide)] at hcr;rw[y1] at d0;have as0:eA h4 ⟨a,0,none⟩=some (.int .i64 (d.size:Int)):=A4.cell 0;have nX:¬(0<y.2∧y.2<(d.size:Int)∧t=false)->∀n12:List Value->PH->Prop,(∀t' h6 (st':List Tx),fY h6 aT 1 sv (st'.map jX) Fs->eH Fs h h6->st'.length=d.sectors->(∀s∈st',s.length=d.size)->zT d.size ((d.buf.zip l).drop (i+1)) t' st'=(d.crash l).st->n12 [pT a 0,vw,.bool t',v10,.int .i64 (n:Int),.int .i64 ((i+1:Nat):Int)] h6)->
     uV k n12 (pT a 0) vw (.bool t) (pT r17 0) v10 (.int .i64 (n:Int)) (.int .i64 (i:Int)) h4:=λhc n12 hn=>by
    rw[if_neg hc] at hcr;exact put t x.2 h4 B3 Z4 A4 w4 hx2 hcr n12 (hn t)
   by_cases c1:0<y.2
   ·have g1:((0:Int)<y.2)=True:=eq_true c1;by_cases c2:y.2<(d.size:Int)
    ·have g2:(y.2<(d.size:Int))=True:=eq_true c2;cases t with
     | true=>
      simp only[gK.f0,gK.f1,iI.load,aR.load,d0,d1,g1,fM.f0,fR.f0,as0,g2,dF,reduceIte,dM,Nat.reduceAdd];exact nX (by simp) _ λt' h6 st' a1 a2 a3 a4 a5=>⟨done t' h6 st' a1 a2 a3 a4 a5,by simp[gT,x22];omega⟩
     | false=>
      rw[if_pos ⟨c1,c2,rfl⟩] at hcr;obtain⟨m,hm⟩:∃m:Nat,y.2=(m:Int):=⟨y.2.toNat,by omega⟩;rw[hm] at d1 g1 g2;have hcr:zT d.size ((d.buf.zip l).drop (i+1)) true (st.set x.1 (x.2.take m++(st.getD x.1 []).drop m))=(d.crash l).st:=by
       have e:y.2.toNat=m:=by omega
       rw[←e];exact hcr
      have hz2:=hz.2;obtain⟨z,hzz⟩:∃z,st[x.1]? =some z:=⟨_,lG hgl⟩;have ez:st.getD x.1 []=z:=by rw[aCz,hzz];rfl
      rw[ez] at hcr;have hzl:z.length=d.size:=he z (wE hzz);obtain⟨p2,t1,t2⟩:=aGH Z4.slR hzz;have e0:eA h4 ⟨r17,0,none⟩=some (.int .i64 (x.1:Int)):=B3.cell 0;have e1:eA h4 ⟨r17,0+1,none⟩=some (.string (tx x.2)):=B3.cell 1;have cs:eA h4 ⟨a,0+2,none⟩=some sv:=A4.cell 2;have k1:dE PG (Instr.sliceAt aT (.string (tx x.2)) none (some (.int .i64 (m:Int))) none)=some (.string (tx (x.2.take m))):=by
       have:=lE (P:=PG) (t:=aT) (l:=x.2) (i:=0) (j:=m) (lo:=none) (hi:=some (.int .i64 (m:Int))) aT.und (.inl ⟨rfl,rfl⟩) (.inr ⟨_,rfl⟩) (by omega) (by omega);rw[this,zLb]
      have k2:dE PG (Instr.sliceAt aT (.string (tx z)) (some (.int .i64 (m:Int))) none none)=some (.string (tx (z.drop m))):=by
       have:=lE (P:=PG) (t:=aT) (l:=z) (i:=m) (j:=z.length) (lo:=some (.int .i64 (m:Int))) (hi:=none) aT.und (.inr ⟨_,rfl⟩) (.inl ⟨rfl,rfl⟩) (by omega) (by omega);rw[this,zLJ]
      have a1:dE PG (binOp .add aT (.string (tx (x.2.take m))) (.string (tx (z.drop m))))=some (.string (tx (x.2.take m++z.drop m))):=kZ (by rw[mT,kD];omega);simp only[gK.f0,gK.f1,iI.load,aR.load,d0,d1,g1,fM.f0,fR.f0,as0,g2,fP.f0,fP.f1,fM.f1,eB.load,aT.load,e0,e1,cs,k1,t1,t2,k2,a1,dF,reduceIte,dM,Nat.reduceAdd];refine aT.put B3 (o:=1) (by show 1<2;decide) rfl λh5 B5 u5=>?_;have B5:Bx h5 r17 [.int .i64 (x.1:Int),.string (tx (x.2.take m++z.drop m))]:=B5;have r0:h r17=none:=aUy w ne hr17;refine put true (x.2.take m++z.drop m) h5 B5 (Z4.upd u5 (λb hb hm=>?_)) (A4.upd u5 (by simp only[jI];exact λe=>na e.symm)) (aVU w4 u5 r0) ?_ hcr _ λh6 st' a1 a2 a3 a4 a5=>⟨done true h6 st' a1 a2 a3 a4 a5,by simp[gT,x22];omega⟩
      ·simp only[jI] at hm;exact ne (hm▸hb)
      ·rw[kO,mT,kD];omega
    ·have g2:(y.2<(d.size:Int))=False:=eq_false c2;simp only[gK.f0,gK.f1,iI.load,aR.load,d0,d1,g1,fM.f0,fR.f0,as0,g2,dF,reduceIte,dM,Nat.reduceAdd];exact nX (λx=>c2 x.2.1) _ λt' h6 st' a1 a2 a3 a4 a5=>⟨done t' h6 st' a1 a2 a3 a4 a5,by simp[gT,x22];omega⟩
   ·have g1:((0:Int)<y.2)=False:=eq_false c1;simp only[gK.f0,gK.f1,iI.load,aR.load,d0,d1,g1,dF,reduceIte,dM,Nat.reduceAdd];exact nX (λx=>c1 x.1) _ λt' h6 st' a1 a2 a3 a4 a5=>⟨done t' h6 st' a1 a2 a3 a4 a5,by simp[gT,x22];omega⟩
 ·have g:((i:Int)<(n:Int))=False:=eq_false (by omega);have ez:(d.buf.zip l).drop i=[]:=zO (by rw[List.length_zip];omega);rw[ez] at hcr;have hcr:st=(d.crash l).st:=hcr;rw[hcr] at Z2;simp only[g,fM.f2,dF,reduceIte,dM,Nat.reduceAdd];refine fS.put B2 (o:=3) (by show 3<5;decide) rfl λh3 B3 u3=>?_;simp only[fM.f3,dF,reduceIte,dM,Nat.reduceAdd];refine aR.put B3 (o:=4) (by show 4<5;decide) rfl λh4 B4 u4=>?_;have B4:Bx h4 a [.int .i64 (d.size:Int),.int .i64 (d.sectors:Int),sv,.slice none 0 0,.int .i64 ((0:Nat):Int)]:=B4;have u34:=u3.trans u4;refine hk h4 (a::(Fs++[])) ⟨⟨sv,.slice none 0 0,Fs,[],rfl,B4,Z2.upd u34 (λb hb hm=>?_),fY.nil,n1,by simp,by simp⟩,hok,by show 0<_;decide⟩ ⟨?_,λb hb=>?_⟩
  ·simp only[jI] at hm;exact n1 (hm▸hb)
  ·rw[eF];exact(w.mono λb hb=>.inl (by simp[hb])).trans (u34.mono λb hb=>.inl (by simp only[jI] at hb;simp[hb]))
  ·rw[eF];simp only[zLQ,jW,wQ] at hb ⊢;rcases hb with rfl|hb
   ·exact .inl (.inl rfl)
   ·exact .inl (.inr (.inl hb))
structure DCr(h h':PH)(r:Nat)(d:Dk)(bv:Value)(l:List (Bool×Int))(i:Nat)(t:Bool):Prop where
 here:∃st:List Tx,Bx h' r [.int .i64 (d.size:Int),.int .i64 (d.sectors:Int),.string (tx st.flatten),bv,.int .i64 (d.arm:Int)]∧eH [r] h h'∧st.length=d.sectors∧(∀s∈st,s.length=d.size)∧zT d.size ((d.buf.zip l).drop i) t st=(d.crash l).st
def aTd{h:PH}{r:Nat}{d:Dk}{F:List Nat}{vw:Value}{l:List (Bool×Int)}(D:pI r d h F)(S:∀h',eH F h h'->CSl h' vw l)(hb:d.buf.length≤1000000){k:dI}(hk:∀h' F',pI r (d.crash l) h' F'->fT h F h' F'->k (.tuple #[]) h'):bR PG xR #[pT r 0,vw] h k:=by
 apply oT.call;unfold oT;have hok:=D.ok.crash l;have hz:=D.ok.size;have hmany:=D.ok.many;have hz1:=hz.1;have hz2:=hz.2;obtain⟨bv,Fb,eF,B,W,n1⟩:=id D.here;refine⟨λvs h'=>∃(i:Nat) (t:Bool),i≤d.buf.length∧i≤l.length∧vs=[pT r 0,vw,.bool t,.int .i64 (i:Int)]∧DCr h h' r d bv l i t,gT d.buf.length 3,⟨0,false,by omega,by omega,rfl,⟨d.st,B,eH.refl,D.ok.len,D.ok.each,rfl⟩⟩,?_⟩;rintro ρ h' ⟨i,t,hi,hi2,hvs,⟨st,B2,w,hl,he,hcr⟩⟩;simp only[jF,kF,lT,and_true] at hvs;obtain⟨x0,x1,x4,x5⟩:=hvs;unfold aCg;rw[x0,x1,x4,x5];have wF:eH F h h':=w.mono λb hb=>.inl (by rw[eF];simp only[jI] at hb;simp[hb]);have W2:=W.upd w (λb hb hm=>by simp only[jI] at hm;exact n1 (hm▸hb));have S2:=S h' wF;have b3:eA h' ⟨r,0+3,none⟩=some bv:=B2.cell 3;have b0:eA h' ⟨r,0,none⟩=some (.int .i64 (d.size:Int)):=B2.cell 0;have ll:=aNr S2;have lb:=aK6 W2.slR;by_cases hlt:i<d.buf.length∧i<l.length
 ·have g:((i:Int)<(d.buf.length:Int))=True:=eq_true (by omega);have g':((i:Int)<(l.length:Int))=True:=eq_true (by omega);have gi:=oM (i:=i) (by omega);obtain⟨x,hx⟩:∃x,d.buf[i]? =some x:=⟨_,lG hlt.1⟩;obtain⟨y,hy⟩:∃y,l[i]? =some y:=⟨_,lG hlt.2⟩;obtain⟨hx1,hx2⟩:=D.ok.buf x (wE hx);rw[aTg hx hy,aOV] at hcr;obtain⟨p,o,i1,i2,i3⟩:=aR8 W2.slR hx;obtain⟨p',o',j1,-,j2,j3⟩:=aS7 S2 hy;have hgl:x.1<st.length:=by omega
  have hzl:(st.getD x.1 []).length=d.size:=he _ (aVT hgl);have put:∀(t':Bool) (s:Tx),s.length≤d.size->zT d.size ((d.buf.zip l).drop (i+1)) t' (st.set x.1 (s++(st.getD x.1 []).drop s.length))=(d.crash l).st->
    ∀n1:List Value->PH->Prop,(∀h6,DCr h h6 r d bv l (i+1) t'->n1 [pT r 0,vw,.bool t',.int .i64 ((i+1:Nat):Int)] h6)->
    oH k n1 (pT r 0) vw (.bool t') (.int .i64 (i:Int)) (.string (tx s)) h':=by
   intro t' s hs hc n1 hn;unfold oH;simp only[dQ.f3,dV.load,b3,i1,fE.f0,aR.load,i2,dF,reduceIte,dM,Nat.reduceAdd];refine aRA B2 he hgl hs hz.2 (by omega) λh6 B6 u6=>?_;simp only[qX,vI,gi,dF,reduceIte,dM,Nat.reduceAdd];refine hn h6 ⟨_,B6,w.trans u6,by rw[List.length_set];exact hl,λz hz=>?_,hc⟩;rcases List.mem_or_eq_of_mem_set hz with e|e
   ·exact he z e
   ·rw[e,kO,kD,hzl];omega
  have done:∀(t':Bool) h6,DCr h h6 r d bv l (i+1) t'->(∃(i':Nat) (t:Bool),i'≤d.buf.length∧i'≤l.length∧[pT r 0,vw,.bool t',.int .i64 ((i+1:Nat):Int)]=[pT r 0,vw,.bool t,.int .i64 (i':Int)]∧DCr h h6 r d bv l i' t):=λt' h6 D=>⟨i+1,t',by omega,by omega,rfl,D⟩;have full:x.2++(st.getD x.1 []).drop x.2.length=x.2:=by rw[zO (by omega),zLQ]
  cases y1:y.1 with
  | false=>
   rw[if_pos (by exact y1)] at hcr;rw[y1] at j2;simp only[dQ.f3,dV.load,b3,lb,g,ll,g',i1,fE.f1,aT.load,i3,j1,gK.f0,iI.load,j2,qX,vI,gi,dF,reduceIte,dM,Nat.reduceAdd];exact⟨done t h' ⟨st,B2,w,hl,he,hcr⟩,by simp[gT,x5];omega⟩
  | true=>
   rw[if_neg (by show ¬y.1=false;rw[y1];decide)] at hcr;rw[y1] at j2;have nX:¬(0<y.2∧y.2<(d.size:Int)∧t=false)->∀n1:List Value->PH->Prop,(∀t' h6,DCr h h6 r d bv l (i+1) t'->n1 [pT r 0,vw,.bool t',.int .i64 ((i+1:Nat):Int)] h6)->
     oH k n1 (pT r 0) vw (.bool t) (.int .i64 (i:Int)) (.string (tx x.2)) h':=λhc n1 hn=>by
    rw[if_neg hc] at hcr;exact put t x.2 (by omega) (by rw[full];exact hcr) n1 (hn t)
   have ws:IntKind.i64.wrap ((d.size:Int)-1)=(d.size:Int)-1:=fW (by omega) (by omega);cases t with
   | true=>
    simp only[dQ.f3,dV.load,b3,lb,g,ll,g',i1,fE.f1,aT.load,i3,j1,gK.f0,iI.load,j2,dF,reduceIte,dM,Nat.reduceAdd];exact nX (by simp) _ λt' h6 a=>⟨done t' h6 a,by simp[gT,x5];omega⟩
   | false=>
    by_cases c1:0<y.2
    ·have g1:((1:Int)≤y.2)=True:=eq_true (by omega);by_cases c2:y.2<(d.size:Int)
     ·have g2:(y.2≤(d.size:Int)-1)=True:=eq_true (by omega);rw[if_pos ⟨c1,c2,rfl⟩] at hcr;obtain⟨m,hm⟩:∃m:Nat,y.2=(m:Int):=⟨y.2.toNat,by omega⟩;have em:y.2.toNat=m:=by omega
      rw[hm] at j3 g1 g2;have hml:(x.2.take m).length=m:=by rw[mT];omega
      have hcr:zT d.size ((d.buf.zip l).drop (i+1)) true (st.set x.1 (x.2.take m++(st.getD x.1 []).drop (x.2.take m).length))=(d.crash l).st:=by
       rw[hml,←em];exact hcr
      have k1:dE PG (Instr.sliceAt aT (.string (tx x.2)) none (some (.int .i64 (m:Int))) none)=some (.string (tx (x.2.take m))):=by
       have:=lE (P:=PG) (t:=aT) (l:=x.2) (i:=0) (j:=m) (lo:=none) (hi:=some (.int .i64 (m:Int))) aT.und (.inl ⟨rfl,rfl⟩) (.inr ⟨_,rfl⟩) (by omega) (by omega);rw[this,zLb]
      simp only[dQ.f0,dQ.f3,dV.load,b0,b3,lb,g,ll,g',i1,fE.f1,aT.load,i3,j1,gK.f0,gK.f1,iI.load,aR.load,j2,j3,g1,ws,g2,k1,dF,reduceIte,dM,Nat.reduceAdd];exact put true (x.2.take m) (by omega) hcr _ λh6 a=>⟨done true h6 a,by simp[gT,x5];omega⟩
     ·have g2:(y.2≤(d.size:Int)-1)=False:=eq_false (by omega);simp only[dQ.f0,dQ.f3,dV.load,b0,b3,lb,g,ll,g',i1,fE.f1,aT.load,i3,j1,gK.f0,gK.f1,iI.load,aR.load,j2,j3,g1,ws,g2,dF,reduceIte,dM,Nat.reduceAdd];exact nX (λx=>c2 x.2.1) _ λt' h6 a=>⟨done t' h6 a,by simp[gT,x5];omega⟩
    ·have g1:((1:Int)≤y.2)=False:=eq_false (by omega);simp only[dQ.f3,dV.load,b3,lb,g,ll,g',i1,fE.f1,aT.load,i3,j1,gK.f0,gK.f1,iI.load,aR.load,j2,j3,g1,dF,reduceIte,dM,Nat.reduceAdd];exact nX (λx=>c1 x.1) _ λt' h6 a=>⟨done t' h6 a,by simp[gT,x5];omega⟩
 ·have ez:(d.buf.zip l).drop i=[]:=zO (by rw[List.length_zip];omega);rw[ez] at hcr;have hcr:st=(d.crash l).st:=hcr;rw[hcr] at B2;have fin:∀h3,Bx h3 r [.int .i64 (d.size:Int),.int .i64 (d.sectors:Int),.string (tx (d.crash l).st.flatten),.slice none 0 0,.int .i64 0]->eH [r] h' h3->k (.tuple #[]) h3:=λh3 B3 u3=>by
   refine hk h3 [r] ⟨⟨.slice none 0 0,[],rfl,B3,fY.nil,by simp⟩,hok,by show 0<_;decide⟩ ⟨?_,λb hb=>?_⟩
   ·rw[eF];exact(w.trans u3).mono λb hb=>.inl (by simp only[jI] at hb;simp[hb])
   ·simp only[jI] at hb;exact .inl (by rw[eF];simp[hb])
  by_cases c:i<d.buf.length
  ·have g:((i:Int)<(d.buf.length:Int))=True:=eq_true (by omega);have g':((i:Int)<(l.length:Int))=False:=eq_false (by omega);simp only[dQ.f3,dV.load,b3,lb,g,ll,g',dF,reduceIte,dM,Nat.reduceAdd];refine dV.put B2 (o:=3) (by show 3<5;decide) rfl λh3 B3 u3=>?_;simp only[dQ.f4,dF,reduceIte,dM,Nat.reduceAdd];exact aR.put B3 (o:=4) (by show 4<5;decide) rfl λh4 B4 u4=>fin h4 B4 (u3.trans u4)
  ·have g:((i:Int)<(d.buf.length:Int))=False:=eq_false (by omega);simp only[dQ.f3,dV.load,b3,lb,g,dF,reduceIte,dM,Nat.reduceAdd];refine dV.put B2 (o:=3) (by show 3<5;decide) rfl λh3 B3 u3=>?_;simp only[dQ.f4,dF,reduceIte,dM,Nat.reduceAdd];exact aR.put B3 (o:=4) (by show 4<5;decide) rfl λh4 B4 u4=>fin h4 B4 (u3.trans u4)
def yZ.swap{a w:Nat}{d:Dk}{x:Wl}{h:PH}{F:List Nat}(H:yZ a w d x h F):∃Fd,pD a d h Fd∧(∀b∈Fd,b∈F)∧∀d' h' Fd',pD a d' h' Fd'->fT h Fd h' Fd'->d'.sectors=d.sectors->∃F',yZ a w d' x h' F'∧fT h F h' F':=by
 obtain⟨Fd,rfl,B,D,n⟩:=H.here;refine⟨Fd,D,λb hb=>aJ2 _ hb,λd' h' Fd' D' s e=>?_⟩;obtain⟨B',n'⟩:=B.step s n;exact⟨w::Fd',⟨⟨Fd',rfl,B',D',n'⟩,H.ok.to D'.ok e,H.ser,H.gen⟩,fT.app [w] s⟩
def WoA.swap{a w:Nat}{d:Dk}{x:Wl}{h:PH}{F:List Nat}(H:WoA a w d x h F):∃Fd,pI a d h Fd∧(∀b∈Fd,b∈F)∧∀d' h' Fd',pI a d' h' Fd'->fT h Fd h' Fd'->d'.sectors=d.sectors->∃F',WoA a w d' x h' F'∧fT h F h' F':=by
 obtain⟨Fd,rfl,B,D,n⟩:=H.here;refine⟨Fd,D,λb hb=>aJ2 _ hb,λd' h' Fd' D' s e=>?_⟩;obtain⟨B',n'⟩:=B.step s n;exact⟨w::Fd',⟨⟨Fd',rfl,B',D',n'⟩,H.ok.to D'.ok e,H.ser,H.gen⟩,fT.app [w] s⟩
def yY.swap{a w j:Nat}{d:Dk}{x:Jn}{h:PH}{F:List Nat}(H:yY a w j d x h F):∃Fd,pD a d h Fd∧(∀b∈Fd,b∈F)∧∀d' h' Fd',pD a d' h' Fd'->fT h Fd h' Fd'->d'.sectors=d.sectors->∃F',yY a w j d' x h' F'∧fT h F h' F':=by
 obtain⟨Fw,iv,rfl,B,W,S,n1,n2,n3⟩:=H.here;obtain⟨Fd,D,hF,sw⟩:=W.swap;refine⟨Fd,D,λb hb=>by simp[hF b hb],λd' h' Fd' D' s e=>?_⟩;obtain⟨Fw',W',s'⟩:=sw d' h' Fd' D' s e;obtain⟨B',n1'⟩:=B.step s' n1;obtain⟨S',n3'⟩:=aDW S s' n3;exact⟨j::(nZ iv x.s.its.length++Fw'),⟨⟨Fw',iv,rfl,B',W',S',n1',n2,n3'⟩,H.ok,H.wf⟩,fT.app [j] (fT.app _ s')⟩
def JoA.swap{a w j:Nat}{d:Dk}{x:Jn}{h:PH}{F:List Nat}(H:JoA a w j d x h F):∃Fd,pI a d h Fd∧(∀b∈Fd,b∈F)∧∀d' h' Fd',pI a d' h' Fd'->fT h Fd h' Fd'->d'.sectors=d.sectors->∃F',JoA a w j d' x h' F'∧fT h F h' F':=by
 obtain⟨Fw,iv,rfl,B,W,S,n1,n2,n3⟩:=H.here;obtain⟨Fd,D,hF,sw⟩:=W.swap;refine⟨Fd,D,λb hb=>by simp[hF b hb],λd' h' Fd' D' s e=>?_⟩;obtain⟨Fw',W',s'⟩:=sw d' h' Fd' D' s e;obtain⟨B',n1'⟩:=B.step s' n1;obtain⟨S',n3'⟩:=aDW S s' n3;exact⟨j::(nZ iv x.s.its.length++Fw'),⟨⟨Fw',iv,rfl,B',W',S',n1',n2,n3'⟩,H.ok,H.wf⟩,fT.app [j] (fT.app _ s')⟩
def PrA.swap{a:Nat}{d:Dk}{jp:JP}{h:PH}{F:List Nat}(H:PrA a d jp h F):∃Fd,pD a d h Fd∧(∀b∈Fd,b∈F)∧∀d' h' Fd',pD a d' h' Fd'->fT h Fd h' Fd'->d'.sectors=d.sectors->∃F',PrA a d' jp h' F'∧fT h F h' F':=by
 cases jp with
 | none=>exact⟨F,H,λb hb=>hb,λd' h' Fd' D' s _=>⟨Fd',D',s⟩⟩
 | some t=>obtain⟨w,j,x⟩:=t;exact yY.swap H
def DpA.swap{a:Nat}{d:Dk}{jp:JP}{h:PH}{F:List Nat}(H:DpA a d jp h F):∃Fd,pI a d h Fd∧(∀b∈Fd,b∈F)∧∀d' h' Fd',pI a d' h' Fd'->fT h Fd h' Fd'->d'.sectors=d.sectors->∃F',DpA a d' jp h' F'∧fT h F h' F':=by
 cases jp with
 | none=>exact⟨F,H,λb hb=>hb,λd' h' Fd' D' s _=>⟨Fd',D',s⟩⟩
 | some t=>obtain⟨w,j,x⟩:=t;exact JoA.swap H
def kL.swapP{r a m:Nat}{d d2:Dk}{jp vp:JP}{e room:Int}{p q:Pl}{h:PH}{F:List Nat}(H:kL r a m d jp e d2 vp room p q h F):∃Fd,pD a d h Fd∧(∀b∈Fd,b∈F)∧∀d' h' Fd',pD a d' h' Fd'->fT h Fd h' Fd'->d'.sectors=d.sectors->∃F',kL r a m d' jp e d2 vp room p q h' F'∧fT h F h' F':=by
 obtain⟨Fa,Fm,rfl,B,P,D,n1,n2,n3⟩:=H.here;obtain⟨Fd,Dk,hF,sw⟩:=P.swap;refine⟨Fd,Dk,λb hb=>by simp[hF b hb],λd' h' Fd' D' s eq=>?_⟩;obtain⟨Fa',P',s'⟩:=sw d' h' Fd' D' s eq;obtain⟨B1,D1,m1,m3⟩:=kL.prog (d:=d) (d':=d) (jp':=vp) (e':=e) B D n1 n2 n3 s';exact⟨r::(Fa'++Fm),⟨⟨Fa',Fm,rfl,B1,P',D1,m1,n2,m3⟩⟩,fT.app [r] (fT.appR Fm s')⟩
def kL.swapD{r a m:Nat}{d d2:Dk}{jp vp:JP}{e room:Int}{p q:Pl}{h:PH}{F:List Nat}(H:kL r a m d jp e d2 vp room p q h F):∃Fd,pI m d2 h Fd∧(∀b∈Fd,b∈F)∧∀d' h' Fd',pI m d' h' Fd'->fT h Fd h' Fd'->d'.sectors=d2.sectors->∃F',kL r a m d jp e d' vp room p q h' F'∧fT h F h' F':=by
 obtain⟨Fa,Fm,rfl,B,P,D,n1,n2,n3⟩:=H.here;obtain⟨Fd,Dk,hF,sw⟩:=D.swap;refine⟨Fd,Dk,λb hb=>by simp[hF b hb],λd' h' Fd' D' s eq=>?_⟩;obtain⟨Fm',D2,s'⟩:=sw d' h' Fd' D' s eq;obtain⟨B1,P1,m2,m3⟩:=kL.docu (d2:=d2) B P n1 n2 n3 s';exact⟨r::(Fa++Fm'),⟨⟨Fa,Fm',rfl,B1,P1,D2,n1,m2,m3⟩⟩,fT.app (r::Fa) s'⟩
def kL.dscan{r a m w j:Nat}{d d2:Dk}{x:Jn}{jp:JP}{e room:Int}{p q:Pl}{h:PH}{F:List Nat}(H:kL r a m d jp e d2 (some (w,j,x)) room p q h F){vn:Value}{ns:List Nt}(ch:Int)(qs:Pl)(hq:qs.wf)(N:wX h vn ns)(hn:∀y∈ns,y.p.wf)(hl:ns.length≤1000)(hb:d2.buf.length≤900000){k:dI}
  (hk:∀h' F',kL r a m d jp e (pK d2 x ch qs ns).1 (some (w,j,(pK d2 x ch qs ns).2.1)) room p q h' F'->fT h F h' F'->k (.int .i64 (pK d2 x ch qs ns).2.2) h'):bR PG qS #[pT j 0,.int .i64 ch,.agg qs.cells.toArray,vn] h k:=by
 obtain⟨Fa,Fm,rfl,B,P,D,n1,n2,n3⟩:=H.here;have D:JoA m w j d2 x h Fm:=D;refine aT1 D ch qs hq N hn hl hb λh1 F1 D1 s1=>?_;obtain⟨B1,P1,m2,m3⟩:=kL.docu (d2:=d2) B P n1 n2 n3 s1;exact hk h1 (r::(Fa++F1)) ⟨⟨Fa,F1,rfl,B1,P1,D1,n1,m2,m3⟩⟩ (fT.app (r::Fa) s1)
def kL.sete{r a m:Nat}{d d2:Dk}{jp vp:JP}{e room:Int}{p q:Pl}{h:PH}{F:List Nat}(H:kL r a m d jp e d2 vp room p q h F)(e':Int){k:dI}(hk:∀h',kL r a m d jp e' d2 vp room p q h' F->fT h F h' F->k undef h'):dT PG (dX eY (pT r (0+2)) (.int .i64 e')) h k:=by
 obtain⟨Fa,Fm,rfl,B,P,D,n1,n2,n3⟩:=H.here;refine eY.put B (o:=2) (by show 2<10;decide) rfl λh1 B1 u1=>?_;have B1:Bx h1 r (aDm a m jp e' vp room p q):=B1;exact hk h1 ⟨⟨Fa,Fm,rfl,B1,(PrA.good a d jp).upd P u1 (lL n1),(DpA.good m d2 vp).upd D u1 (lL n2),n1,n2,n3⟩⟩ (fT.of u1 (by simp))
def aVM(jp:JP):Option Jn:=jp.map λt=>t.2.2
structure aAC(r a m:Nat)(d:Dk)(jx:Option Jn)(room:Int)(p q:Pl)(h:PH)(F:List Nat):Prop where
 here:∃jp vp e,kL r a m d jp e d vp room p q h F∧aVM jp=jx∧aVM vp=jx
def aAC.ext{r a m:Nat}{d:Dk}{jx:Option Jn}{room:Int}{p q:Pl}{h h':PH}{F:List Nat}(H:aAC r a m d jx room p q h F)(u:eM h h'):aAC r a m d jx room p q h' F:=by
 obtain⟨jp,vp,e,P,e1,e2⟩:=H.here;exact⟨jp,vp,e,P.ext u,e1,e2⟩
def aCl.jx{A:Dk×Jn×Int}{jp:JP}(o:aCl A jp):aVM jp=if A.2.2=0 then some A.2.1 else none:=by
 by_cases c:A.2.2=0
 ·obtain⟨w,j,e⟩:=o.1 c;rw[e,if_pos c];rfl
 ·rw[o.2 c,if_neg c];rfl
def aMc{h:PH}{r a m:Nat}{d:Dk}{jx:Option Jn}{room:Int}{p q:Pl}{F:List Nat}(H:aAC r a m d jx room p q h F)(wp:p.wf)(wq:q.wf)(hs:d.sectors≤1000)(hb:d.buf.length≤800000){k:dI}
  (hk:∀h' F',aAC r a m (aGu room p q d).1 (aGu room p q d).2 room p q h' F'->fT h F h' F'->k (.bool true) h'):bR PG kR #[pT r 0] h k:=by
 obtain⟨jp,vp,e,P,-,-⟩:=H.here;refine aMS P wp wq hs hs hb hb λh1 F1 jp1 vp1 P1 s1 o1 o2=>?_;rw[decide_eq_true rfl];exact hk h1 F1 ⟨jp1,vp1,_,P1,o1.jx,o2.jx⟩ s1
def aWg{h:PH}{r a m:Nat}{d:Dk}{jx:Option Jn}{room:Int}{p q:Pl}{F:List Nat}(H:aAC r a m d jx room p q h F)(wp:p.wf)(wq:q.wf)(hs:d.sectors≤1000)(hb:d.buf.length≤700000)(y:JV)(N:∀h',eH F h h'->wX h' y.2.1 y.1.l)(C:∀h',eH F h h'->CSl h' y.2.2 y.1.w)(wf:y.1.wf)(hl:y.1.l.length≤1000){k:dI}
  (hk:∀h' F',aAC r a m (doJ room p q y.1 (d,jx)).1 (doJ room p q y.1 (d,jx)).2 room p q h' F'->fT h F h' F'->k (.bool true) h'):bR PG uO #[pT r 0,.agg (jrw y).toArray] h k:=by
 apply rG.call;unfold rG;obtain⟨x,vl,vw⟩:=y;have N:∀h',eH F h h'->wX h' vl x.l:=N;have C:∀h',eH F h h'->CSl h' vw x.w:=C;have wf:x.wf:=wf;have hl:x.l.length≤1000:=hl;obtain⟨la,ln,lc,rfl⟩:∃a n c,vl=Value.slice a n c:=by
  obtain⟨a,c,e,-⟩:=(N h eH.refl).here;exact⟨a,_,c,e⟩
 obtain⟨wa,wn,wc,rfl⟩:∃a n c,vw=Value.slice a n c:=by
  obtain⟨a,c,e,-⟩:=(C h eH.refl).here;exact⟨a,_,c,e⟩
 obtain⟨vl,hvl⟩:∃v,Value.slice la ln lc=v:=⟨_,rfl⟩;obtain⟨vw,hvw⟩:∃v,Value.slice wa wn wc=v:=⟨_,rfl⟩;intro r1 hr1
 try rw[dY]
 have nF:r1∉F:=λhm=>by
  obtain⟨_,_,_,P0,-⟩:=H.here;exact P0.known r1 hm hr1
 have u1:eM h (h.set r1 (.cells (Value.cells (.agg (jrw (x,Value.slice la ln lc,Value.slice wa wn wc)).toArray)) eV)):=eH.new hr1;have B1:Bx (h.set r1 (.cells (Value.cells (.agg (jrw (x,Value.slice la ln lc,Value.slice wa wn wc)).toArray)) eV)) r1 (jrw (x,Value.slice la ln lc,Value.slice wa wn wc)):=Bx.new;generalize h.set r1 (.cells (Value.cells (.agg (jrw (x,Value.slice la ln lc,Value.slice wa wn wc)).toArray)) eV)=h1 at *;rw[hvl] at N;rw[hvw] at C;rw[hvl,hvw] at B1;have H1:=H.ext u1;have c0:eA h1 ⟨r1,0,none⟩=some (.int .i64 x.k):=B1.cell 0;have hk:∀h' F',aAC r a m (doJ room p q x (d,jx)).1 (doJ room p q x (d,jx)).2 room p q h' F'->fT h F h' F'->k (.bool true) h':=hk;have st1:fT h F h1 F:=fT.ext u1;obtain⟨jp,vp,e,P,ej,ev⟩:=H1.here;have b1:=P.b;by_cases k0:x.k=0
 ·have q0:(x.k==0)=true:=by rw[k0];rfl
  unfold doJ at hk;rw[if_pos k0] at hk;cases jp with
  | none=>
   subst ej;have hk:=hk h1 F ⟨none,vp,e,P,rfl,ev⟩ st1;simp only[eV.f0,aR.load,c0,gX,q0,dU.f1,fO.load,b1.j,aNw,Option.isNone_none,dF,reduceIte,dM,Nat.reduceAdd];exact hk
  | some t=>
   obtain⟨w,j,xj⟩:=t;have ej:some xj=jx:=ej;subst ej;obtain⟨wv,jv,rfl⟩:∃wv jv,vp=some (wv,jv,xj):=by
    cases vp with
    | none=>cases ev
    | some t=>
     obtain⟨wv,jv,xv⟩:=t;have ev:some xv=some xj:=ev;cases ev;exact⟨wv,jv,rfl⟩
   have hk:∀h' F',aAC r a m (pK d xj x.ch x.q x.l).1 (some (pK d xj x.ch x.q x.l).2.1) room p q h' F'->fT h F h' F'->k (.bool true) h':=hk;have c2:eA h1 ⟨r1,0+2,none⟩=some (.int .i64 x.ch):=B1.cell 2;have l3:dH PG h1 (loadAt dK (pT r1 (0+3)))=some (.agg x.q.cells.toArray):=dK.agg B1 (by show 0+3+2≤7;decide);have c5:eA h1 ⟨r1,0+5,none⟩=some vl:=B1.cell 5;simp only[eV.f0,eV.f2,eV.f3,eV.f4,aR.load,eK.load,c0,c2,l3,c5,gX,q0,dU.f1,dU.f4,fO.load,fJ.load,b1.j,b1.v,aNw,aVK,aMf,dF,reduceIte,dM,Nat.reduceAdd];refine P.scan x.ch x.q wf.q (N h1 u1.upd) wf.l (by omega) λh2 F2 P2 s2=>?_;obtain⟨B2,n2⟩:=aIL B1 nF s2;simp only[dU.f2,dF,reduceIte,dM,Nat.reduceAdd];refine P2.sete _ λh3 P3 s3=>?_;obtain⟨B3,n3⟩:=aIL B2 n2 s3;have b3:=P3.b;have st3:=(st1.trans s2).trans s3;have c2':eA h3 ⟨r1,0+2,none⟩=some (.int .i64 x.ch):=B3.cell 2;have l3':dH PG h3 (loadAt dK (pT r1 (0+3)))=some (.agg x.q.cells.toArray):=dK.agg B3 (by show 0+3+2≤7;decide);have c5':eA h3 ⟨r1,0+5,none⟩=some vl:=B3.cell 5;simp only[eV.f2,eV.f3,eV.f4,aR.load,eK.load,c2',l3',c5',dU.f2,dU.f4,eY.load,fJ.load,b3.e,b3.v,dF,reduceIte,dM,Nat.reduceAdd];refine P3.dscan x.ch x.q wf.q (N h3 st3.upd) wf.l hl (by omega) λh4 F4 P4 s4=>?_;have b4:=P4.b;simp only[eY.load,b4.e,gX,beq_self_eq_true,dF,reduceIte,dM,Nat.reduceAdd];exact⟨trivial,hk h4 F4 ⟨_,_,_,P4,rfl,rfl⟩ (st3.trans s4)⟩
 ·have q0:(x.k==0)=false:=beq_eq_false_iff_ne.2 k0;unfold doJ at hk;rw[if_neg k0] at hk;by_cases k1:x.k=1
  ·have q1:(x.k==1)=true:=by rw[k1];rfl
   rw[if_pos k1] at hk;have hk:∀h' F',aAC r a m (d.armed x.n) jx room p q h' F'->fT h F h' F'->k (.bool true) h':=hk;have c1:eA h1 ⟨r1,0+1,none⟩=some (.int .i64 x.n):=B1.cell 1;simp only[eV.f0,eV.f1,aR.load,c0,c1,gX,q0,q1,dU.f0,hZ.load,b1.d,dF,reduceIte,dM,Nat.reduceAdd];obtain⟨Fd,D,hF,sw⟩:=P.swapP;refine aXA D x.n wf.n λh2 D2 u2=>?_;obtain⟨F2,P2,s2⟩:=sw _ h2 Fd D2 ⟨u2,λb hb=>.inl hb⟩ rfl;obtain⟨B2,n2⟩:=aIL B1 nF s2;have b2:=P2.b;have c1':eA h2 ⟨r1,0+1,none⟩=some (.int .i64 x.n):=B2.cell 1;simp only[eV.f1,aR.load,c1',dU.f3,fN.load,b2.m,dF,reduceIte,dM,Nat.reduceAdd];obtain⟨Fm,Dm,hFm,swm⟩:=P2.swapD;refine aU9 Dm x.n wf.n λh3 D3 u3=>?_;obtain⟨F3,P3,s3⟩:=swm _ h3 Fm D3 ⟨u3,λb hb=>.inl hb⟩ rfl;exact hk h3 F3 ⟨jp,vp,e,P3,ej,ev⟩ ((st1.trans s2).trans s3)
  ·have q1:(x.k==1)=false:=beq_eq_false_iff_ne.2 k1;rw[if_neg k1] at hk;by_cases k2:x.k=2
   ·have q2:(x.k==2)=true:=by rw[k2];rfl
    rw[if_pos k2] at hk;simp only[eV.f0,aR.load,c0,gX,q0,q1,q2,dF,reduceIte,dM,Nat.reduceAdd];exact aMc H1 wp wq hs (by omega) λh2 F2 P2 s2=>hk h2 F2 P2 (st1.trans s2)
   ·have q2:(x.k==2)=false:=beq_eq_false_iff_ne.2 k2;rw[if_neg k2] at hk;have c6:eA h1 ⟨r1,0+6,none⟩=some vw:=B1.cell 6;simp only[eV.f0,eV.f5,aR.load,iG.load,c0,c6,gX,q0,q1,q2,dU.f0,hZ.load,b1.d,dF,reduceIte,dM,Nat.reduceAdd];obtain⟨Fd,D,hF,sw⟩:=P.swapP;refine aUw D (λh' u=>C h' (u1.upd.trans (u.mono λb hb=>.inl (hF b hb)))) (by omega) λh2 Fd2 D2 s=>?_;obtain⟨F2,P2,s2⟩:=sw _ h2 Fd2 D2 s rfl;obtain⟨B2,n2⟩:=aIL B1 nF s2;have b2:=P2.b;have st2:=st1.trans s2;have c6':eA h2 ⟨r1,0+6,none⟩=some vw:=B2.cell 6;simp only[eV.f5,iG.load,c6',dU.f3,fN.load,b2.m,dF,reduceIte,dM,Nat.reduceAdd];obtain⟨Fm,Dm,hFm,swm⟩:=P2.swapD;refine aTd Dm (λh' u=>C h' ?_) (by omega) λh3 Fm3 D3 s'=>?_
    ·have mS:fT h2 F2 h' F2:=⟨u.mono λb hb=>.inl (hFm b hb),λb hb=>.inl hb⟩;exact(st2.trans mS).upd
    obtain⟨F3,P3,s3⟩:=swm _ h3 Fm3 D3 s' rfl;have st3:=st2.trans s3;exact aMc ⟨jp,vp,e,P3,ej,ev⟩ wp wq hs (by show(0:Nat)≤_;omega) λh4 F4 P4 s4=>hk h4 F4 P4 (st3.trans s4)
def aYk{h:PH}{x y:Operand}(a b:Bool):dH PG h (gV .neq iI x y (.bool a) (.bool b))=some (.bool (a !=b)):=by
 cases a<;>cases b<;>kernel_rfl
def aQ2{h:PH}{r a:Nat}(c:eA h ⟨r,0,none⟩=some (pT a 0)):dH PG h (loadAt hZ (pT r 0))=some (pT a 0):=by rw[hZ.load,c]
def aKz{room:Int}{p q:Pl}{d:Dk}(H:d.Ok):(aGu room p q d).1.Ok∧(aGu room p q d).1.sectors=d.sectors∧(aGu room p q d).1.buf.length≤d.buf.length+108:=by
 obtain⟨a,-,b,-⟩:=aUe H room p q;exact⟨a,b,aVf H room p q⟩
def aQ8{room:Int}{p q:Pl}{d:Dk}(H:d.Ok)(jx:Option Jn)(x:JAc):(doJ room p q x (d,jx)).1.Ok∧(doJ room p q x (d,jx)).1.sectors=d.sectors∧(doJ room p q x (d,jx)).1.buf.length≤d.buf.length+108:=by
 unfold doJ;split
 ·cases jx with
  | none=>exact⟨H,rfl,by show d.buf.length≤_;omega⟩
  | some j=>
   obtain⟨a,-,b⟩:=aVF (j:=j) H x.ch x.q x.l;have:=aUc H j x.ch x.q x.l;exact⟨a,b,by show(pK d j x.ch x.q x.l).1.buf.length≤_;omega⟩
 ·split
  ·exact⟨H.armed _,rfl,by show d.buf.length≤_;omega⟩
  ·split
   ·exact aKz H
   ·obtain⟨a,b,c⟩:=aKz (room:=room) (p:=p) (q:=q) (H.crash x.w);refine⟨a,b,zLE c ?_⟩;show 0+108≤_;omega
def JAs.whole{h:PH}{v:Value}{l:List JV}(H:JAs h v l){j:Nat}{y:JV}(hy:l[j]? =some y):
  ∃a,dE PG (indexAt iT v (.int .i64 (j:Int)))=some (.pointer (some a))∧dH PG h (loadAt eV (.pointer (some a)))=some (.agg (jrw y).toArray):=
 H.s.loadAgg (k:=.i64) (j:=(j:Int)) iT.und eV.info eV.size eV.und rfl (by omega) (by rw[xZ,xB,hy];rfl)
def aXr{h0 h:PH}{r a m:Nat}{d:Dk}{jx:Option Jn}{room:Int}{p q:Pl}{F:List Nat}{v:Value}{L:List JV}{y:JV}(H:aAC r a m d jx room p q h F)(N:aGa h0 h F)(A:JAs h0 v L)(hy:y∈L)(hl:y.1.l.length≤40)(wp:p.wf)(wq:q.wf)(hs:d.sectors≤1000)(hb:d.buf.length≤700000){k:dI}
  (hk:∀h' F',aAC r a m (doJ room p q y.1 (d,jx)).1 (doJ room p q y.1 (d,jx)).2 room p q h' F'->fT h F h' F'->k (.bool true) h'):bR PG uO #[pT r 0,.agg (jrw y).toArray] h k:=by
 have ex:∀h',eH F h h'->eM h0 h':=λh' u=>(N.step (F':=F) ⟨u,λb hb=>.inl hb⟩).ext;exact aWg H wp wq hs hb y (λh' u=>((A.ext (ex h' u)).e y hy).1) (λh' u=>((A.ext (ex h' u)).e y hy).2.1) (A.e y hy).2.2 (by omega) hk
structure aYE(m:Nat)(d:Dk)(bv:Value)(h:PH):Prop where
 st:eA h ⟨m,0+2,none⟩=some (.string (tx d.stable))
 buf:eA h ⟨m,0+3,none⟩=some bv
def kL.doc{r a m:Nat}{d d2:Dk}{jp vp:JP}{e room:Int}{p q:Pl}{h:PH}{F:List Nat}(P:kL r a m d jp e d2 vp room p q h F):∃bv,dE PG (Builtin.len_ #[dV] aR #[bv])=some (.int .i64 d2.buf.length)∧∀h',eM h h'->aYE m d2 bv h':=by
 obtain⟨Fd,D,-,-⟩:=P.swapD;obtain⟨bv,Fb,rfl,B,W,-⟩:=D.here;exact⟨bv,aK6 W.slR,λh' u=>⟨(B.ext u).cell 2,(B.ext u).cell 3⟩⟩
structure aYj(a w j wv jv:Nat)(x x2:Jn)(iv:Value)(h:PH):Prop where
 jw:eA h ⟨j,0,none⟩=some (pT w 0)
 W:uJ a w x.w h
 vs:dH PG h (loadAt cR (pT jv (0+2)))=some (x2.s.v iv)
 iv:kV h iv x2.s.its
 vw:eA h ⟨jv,0,none⟩=some (pT wv 0)
 br:eA h ⟨wv,0+7,none⟩=some (.bool x2.w.broken)
 gen:eA h ⟨wv,0+1,none⟩=some (.int .u64 (x2.w.hd.gen:Int))
 used:eA h ⟨wv,0+4,none⟩=some (.int .i64 (x2.w.used:Int))
def kL.c{r a m w j wv jv:Nat}{d d2:Dk}{x x2:Jn}{e room:Int}{p q:Pl}{h:PH}{F:List Nat}(P:kL r a m d (some (w,j,x)) e d2 (some (wv,jv,x2)) room p q h F):∃iv,(x.s.its.length≤1000000)∧∀h',eM h h'->aYj a w j wv jv x x2 iv h':=by
 obtain⟨Fa,Fm,rfl,-,A,D,-⟩:=P.here;have A:yY a w j d x h Fa:=A;have D:JoA m wv jv d2 x2 h Fm:=D;have hl:=A.ok.len;have hr:=A.ok.r2;obtain⟨Fw,va,-,Ba,Wa,-⟩:=A.here;obtain⟨Fd,-,Bw,-⟩:=Wa.here;obtain⟨Fw2,vd,-,Bd,Wd,Sd,-⟩:=D.here;obtain⟨Fd2,-,Bw2,-⟩:=Wd.here;refine⟨vd,by omega,λh' u=>?_⟩;have L:=JlB.of (Bd.ext u);exact⟨(Ba.ext u).cell 0,uJ.of (Bw.ext u),L.st,Sd.ext u,L.wal,(Bw2.ext u).cell 7,(Bw2.ext u).cell 1,(Bw2.ext u).cell 4⟩
def aTP(t:Nat×Nat×Jn):aEs (some t)=pT t.2.1 0:=rfl
def aTb{h0 h:PH}{r a m i:Nat}{p q:Pl}{z:Dk×Option Jn}{F:List Nat}{v:Value}{L:List JV}{room:Int}(wp:p.wf)(wq:q.wf)(P:aAC r a m z.1 z.2 room p q h F)(N:aGa h0 h F)(A:JAs h0 v L)(ok:z.1.Ok)(hs:z.1.sectors≤1000)(hb:z.1.buf.length≤700000)(hi:i<1000){y:JV}(hy:L[i]? =some y)(hnl:y.1.l.length≤40)(g:(i:Int)<(L.length:Int)){k:dI}{n26:iC}
  (next:∀h' F',aAC r a m (doJ room p q y.1 z).1 (doJ room p q y.1 z).2 room p q h' F'->aGa h0 h' F'->n26 [v,pT r 0,.int .i64 ((i+1:Nat):Int)] h'):
  qL k n26 v (pT r 0) (.int .i64 (i:Int)) h:=by
 unfold qL;have gi:=oM (i:=i) (by omega);have ll:=aNo (A.ext N.ext);obtain⟨ad,i1,i2⟩:=(A.ext N.ext).whole hy;simp only[ll,eq_true g,i1,i2,dF,reduceIte,dM,Nat.reduceAdd];refine aXr P N A (wE hy) hnl wp wq hs hb λh1 F1 P1 s1=>?_;have N1:=N.step s1;obtain⟨-,g2,-⟩:=aQ8 (room:=room) (p:=p) (q:=q) ok z.2 y.1;have g2:(doJ room p q y.1 z).1.sectors=z.1.sectors:=g2;have P1:aAC r a m (doJ room p q y.1 z).1 (doJ room p q y.1 z).2 room p q h1 F1:=P1;obtain⟨y2,hy2⟩:∃y2,doJ room p q y.1 z=y2:=⟨_,rfl⟩;rw[hy2] at next P1 g2
 obtain⟨d,jx⟩:=y2;have P1:aAC r a m d jx room p q h1 F1:=P1;have g2:d.sectors=z.1.sectors:=g2;have next:∀h' F',aAC r a m d jx room p q h' F'->aGa h0 h' F'->n26 [v,pT r 0,.int .i64 ((i+1:Nat):Int)] h':=next
 have P1s:=P1;obtain⟨jp,vp,e,P1,ej,ev⟩:=P1.here;obtain⟨bv,lb,dq⟩:=P1.doc;have b1:=P1.b;have q1:=dq h1 eH.refl;obtain⟨Fd,D1,-,-⟩:=P1.swapP;simp only[dU.f0,dU.f3,aQ2 b1.d,fN.load,b1.m,dQ.f2,aT.load,q1.st,dF,reduceIte,dM,Nat.reduceAdd];refine aS0 D1 (by omega) λh2 u2=>?_;have P2:=P1.ext u2;have b2:=P2.b;have q2:=dq h2 u2;obtain⟨Fd2,D2,-,-⟩:=P2.swapP;simp only[dU.f0,dU.f3,aQ2 b2.d,fN.load,b2.m,dQ.f2,dQ.f3,aT.load,dV.load,q2.st,q2.buf,lb,aKY,decide_true,Bool.not_true,eq_self,true_and,implies_true,dF,reduceIte,dM,Nat.reduceAdd];refine aQf D2 ?_;simp only[fN.load,b2.m,dV.load,q2.buf,fZ,bne_self_eq_false,eq_self,true_and,implies_true,dU.f1,fO.load,b2.j,aNw,dF,reduceIte,dM,Nat.reduceAdd];have done:∀h',eM h1 h'->pY k n26 v (pT r 0) (.int .i64 (i:Int)) h':=λh' u=>by
  simp only[pY,aAi,gi,dF,reduceIte,dM,Nat.reduceAdd];exact next h' F1 (P1s.ext u) (N1.more u)
 cases jp with
 | none=>
  simp only[Option.isNone_none,dF,reduceIte,dM,Nat.reduceAdd];exact done h2 u2
 | some t=>
  obtain⟨w,j,x⟩:=t;have ej:some x=jx:=ej;subst ej;obtain⟨wv,jv,rfl⟩:∃wv jv,vp=some (wv,jv,x):=by
   cases vp with
   | none=>cases ev
   | some t=>
    obtain⟨wv,jv,xv⟩:=t;have ev:some xv=some x:=ev;cases ev;exact⟨wv,jv,rfl⟩
  obtain⟨iv,hlen,cq⟩:=P2.c;have C2:=cq h2 eH.refl;simp only[aMf,dU.f1,dU.f4,fO.load,b2.j,fJ.load,b2.v,aVK,dF,reduceIte,dM,Nat.reduceAdd];simp only[aTP,gC.f2,C2.vs,dF,reduceIte,dM,Nat.reduceAdd];refine P2.state λh3 v3 S3 _ u3=>?_;have P3:=P2.ext u3;have b3:=P3.b;have C3:=cq h3 u3;simp only[C3.vs,b3.v,aTP,true_and,dF,reduceIte,dM,Nat.reduceAdd];refine aPD S3 C3.iv hlen λh4 u4=>?_;have P4:=P3.ext u4;have b4:=P4.b;have u34:=u3.trans u4;have C4:=cq h4 u34;have bj:eA h4 ⟨r,0+1,none⟩=some (pT j 0):=b4.j;have bv:eA h4 ⟨r,0+4,none⟩=some (pT jv 0):=b4.v;have fin:=done h4 (u2.trans u34);simp only[decide_true,dU.f1,dU.f4,fO.load,bj,fJ.load,bv,gC.f0,iA.load,C4.vw,dO.f6,iI.load,C4.br,dF,reduceIte,dM,Nat.reduceAdd];refine P4.halted ?_;simp only[C4.br,C4.vw,bv,eq_self,implies_true,true_and,aYk,bne_self_eq_false,dU.f1,dU.f4,fO.load,bj,gS.f0,fU.load,C4.jw,fJ.load,gC.f0,iA.load,dO.f1,dD.f0,dN.load,C4.gen,dF,reduceIte,dM,Nat.reduceAdd];refine aXd C4.W ?_;simp only[C4.gen,C4.vw,bv,eq_self,implies_true,true_and,fZ,bne_self_eq_false,dU.f1,dU.f4,fO.load,bj,gS.f0,fU.load,C4.jw,fJ.load,gC.f0,iA.load,dO.f3,aR.load,C4.used,dF,reduceIte,dM,Nat.reduceAdd];refine aW7 C4.W ?_;simp only[C4.used,C4.vw,bv,eq_self,implies_true,true_and,fZ,bne_self_eq_false,dF,reduceIte,dM,Nat.reduceAdd];exact fin
def aNG{h:PH}{v:Value}{L:List JV}(A:JAs h v L)(size sectors room:Int){p q:Pl}(wp:p.wf)(wq:q.wf){k:dI}(hk:∀h',eM h h'->k (.bool true) h'):bR PG vD #[.int .i64 size,.int .i64 sectors,.int .i64 room,mP p q,v] h k:=by
 apply kC.call;unfold kC;intro r1 hr1
 try rw[dY]
 have u1:eM h (h.set r1 (.cells (Value.cells (mP p q)) eD)):=eH.new hr1;have B1:Bx (h.set r1 (.cells (Value.cells (mP p q)) eD)) r1 (p.cells++q.cells):=Bx.new;generalize h.set r1 (.cells (Value.cells (mP p q)) eD)=h1 at *;refine aR4 λh2 u2=>?_;have u12:=u1.trans u2;simp only[dF,reduceIte,dM,Nat.reduceAdd];refine aUu (A.ext u12) size sectors λb few=>?_;cases b with
 | false=>
  simp only[dF,reduceIte,dM,Nat.reduceAdd];exact hk h2 u12
 | true=>
  have fw:=few rfl;obtain⟨s,rfl⟩:∃s:Nat,size=(s:Int):=⟨size.toNat,by have:=fw.s1;omega⟩;obtain⟨n,rfl⟩:∃n:Nat,sectors=(n:Int):=⟨sectors.toNat,by have:=fw.n1;omega⟩;have f1:=fw.s1;have f2:=fw.s2;have f3:=fw.n1;have f4:=fw.n2;have f5:=fw.len;have ok:iB s:=⟨by omega,by omega⟩;have l1:dH PG h2 (loadAt eD (pT r1 0))=some (mP p q):=eD.agg (B1.ext u2) (by show 0+4≤4;decide);simp only[l1,dF,reduceIte,dM,Nat.reduceAdd];refine aOw s n ok (by omega) (by omega) room p q λh3 r a m F3 P3 f3' u3=>?_;have N3:aGa h h3 F3:=⟨u12.trans u3,λb hb=>u12.none (f3' b hb)⟩;simp only[aP7,dF,reduceIte,dM,Nat.reduceAdd];have dn:=Dk.new_ok (size:=s) (sectors:=n) ok (by omega) (by omega);refine aMc (d:=Dk.new s n) (jx:=none) ⟨none,none,0,P3,rfl,rfl⟩ wp wq (by show n≤1000;omega) (mK _) λh4 F4 P4 s4=>?_;have N4:=N3.step s4;obtain⟨g1,g2,g3⟩:=aKz (room:=room) (p:=p) (q:=q) dn;have g2:(aGu room p q (Dk.new s n)).1.sectors=n:=g2;have g3:(aGu room p q (Dk.new s n)).1.buf.length≤0+108:=g3;simp only[dF,reduceIte,dM,Nat.reduceAdd];refine⟨λvs h'=>∃(i:Nat) (z:Dk×Option Jn) (F:List Nat),i≤L.length∧vs=[v,pT r 0,.int .i64 (i:Int)]∧aAC r a m z.1 z.2 room p q h' F∧aGa h h' F∧z.1.Ok∧z.1.sectors=n∧z.1.buf.length≤108+108*i,gT L.length 2,⟨0,aGu room p q (Dk.new s n),F4,by omega,rfl,P4,N4,g1,g2,by omega⟩,?_⟩;rintro ρ h' ⟨i,z,F,hi,hvs,P,N,ok',hs,hb⟩;simp only[jF,kF,lT,and_true] at hvs;obtain⟨x4,x11,x12⟩:=hvs;rw[x4,x11,x12];by_cases hlt:i<L.length
  ·obtain⟨y,hy⟩:∃y,L[i]? =some y:=⟨_,lG hlt⟩;have hym:=wE hy;obtain⟨e1,e2,e3⟩:=aQ8 (room:=room) (p:=p) (q:=q) ok' z.2 y.1;have e3:(doJ room p q y.1 z).1.buf.length≤z.1.buf.length+108:=e3;refine aTb wp wq P N A ok' (by omega) (by omega) (by omega) hy (fw.each y hym).1 (by omega) λh5 F5 P5 N5=>?_;exact⟨⟨i+1,doJ room p q y.1 z,F5,by omega,rfl,P5,N5,e1,e2.trans hs,by omega⟩,by simp[gT,x12];omega⟩
  ·unfold qL;have gl:((i:Int)<(L.length:Int))=False:=eq_false (by omega);have ll:=aNo (A.ext N.ext);simp only[ll,gl,dF,reduceIte,dM,Nat.reduceAdd];exact hk h' N.ext
end
section
open Go
def aMb{h:PH}(_:True)(a b c:Int){p q:Pl}{v:Value}{rows:List (List Value)}(S:jE h 7 v rows)(wp:p.wf)(wq:q.wf)(e:∃xs:List JV,rows=xs.map jrw∧∀y∈xs,wX h y.2.1 y.1.l∧CSl h y.2.2 y.1.w∧y.1.wf){k:dI}(hk:∀h',eM h h'->k (.bool true) h'):
  bR PG vD #[.int .i64 a,.int .i64 b,.int .i64 c,mP p q,v] h k:=by
 obtain⟨L,A⟩:=JAs.of S e;exact aNG A a b c wp wq hk
end
end Go.Proofs.YtiohehjhlghikaaGreatDoor
namespace Go.Proofs.YtiohehjhlghikaaGreatDoor.journalPlays
open Go Go.ChangeShapes Go.WideShapes Go.ChangeAt Go.WideMaps Go.WideElems Go.RowKit
theorem own:ownKnob Tryz.prog.godebug=none:=by kernel_rfl
theorem lifted(os:Os)(started:os.Started)(H:Type)(enc:TypeId×Value->H):
  ReturnsInHanded {} Tryz.checked os 6 .any (λw args=>(Rows.journalPlaysSpec.pre enc Tryz.prog Tryz.f6 [] false w args∧laidMetH Tryz.prog aNX w)∧sizedMet enc Tryz.prog Tryz.f6 (OpenSpec.ofChange Rows.journalPlaysSpec) false w args)
   (Rows.journalPlaysSpec.post enc Tryz.prog Tryz.f6 false true false false):=by
 refine returnsInHanded_of_change_and (C:=Tryz.checked) (X:=λw _=>laidMetH Tryz.prog aNX w) (λ_ _ _ hh h=>h.of_heap hh) own started (by kernel_rfl) Tryz.func6
  (ChangeSpec.witness_shaped (enc:=enc) (C:=Tryz.checked) (os:=os) (X:=λw _=>laidMetH Tryz.prog aNX w) false (World.laidAll Tryz.prog os aNX) #[.int .i64 0,.int .i64 0,.int .i64 0,.agg #[.int .u64 0,.int .i64 0,.int .u64 0,.int .i64 0],.slice none 0 0] 8 (World.laidAll_os _ _ _) (World.shaped_of_ZipB (by kernel_rfl) (by kernel_rfl)) (by kernel_rfl) (by kernel_rfl) (by kernel_rfl) (by rw[MakeChecks.laidMetH_plain _ _ _ (by kernel_rfl)];exact laidMet_laidAll _ (by kernel_rfl) (by kernel_rfl))) ?_
 intro W base args ds gs before hval0 hW _ _ hL _;have hval:∀(j:Nat) t v,Tryz.f6.params[j]? =some t->args[j]? =some v->Value.okWide Tryz.prog W .any base t v:=hval0;have hW':=hW;obtain⟨p,q,hA0,hV,rfl,hfz,hnd⟩:=hW;have hA:DataW.TrodAll enc Tryz.prog W 0 (λ_=>true) true Tryz.f6.params.toList args.toList ds p:=hA0;rw[Tryz.params6] at hA hval;obtain⟨v0,vs0,d0,ds0,p0,q0,hargs,rfl,rfl,h0,r0⟩:=trodAll_cons hA;obtain⟨v1,vs1,d1,ds1,p1,q1,rfl,rfl,rfl,h1,r1⟩:=trodAll_cons r0;obtain⟨v2,vs2,d2,ds2,p2,q2,rfl,rfl,rfl,h2,r2⟩:=trodAll_cons r1;obtain⟨v3,vs3,d3,ds3,p3,q3,rfl,rfl,rfl,h3,r3⟩:=trodAll_cons r2;obtain⟨v4,vs4,d4,ds4,p4,q4,rfl,rfl,rfl,h4,r4⟩:=trodAll_cons r3;obtain⟨rfl,rfl,rfl⟩:=trodAll_nil r4;obtain rfl:args= #[v0,v1,v2,v3,v4]:=by cases args;simp_all
 obtain⟨rfl,rfl⟩:=trodVars_none hV;obtain⟨a0,rfl,rfl,rfl,w0⟩:=open_int Tryz.underlying3 (hval 0 3 v0 rfl rfl) h0;obtain⟨a1,rfl,rfl,rfl,w1⟩:=open_int Tryz.underlying3 (hval 1 3 v1 rfl rfl) h1;obtain⟨a2,rfl,rfl,rfl,w2⟩:=open_int Tryz.underlying3 (hval 2 3 v2 rfl rfl) h2;obtain⟨x3,y3,rfl,m3,n3⟩:=aW5 (hval 3 25 v3 rfl rfl) h3;obtain⟨rows4,s4,o4⟩:=aV3 iT.und (by rw[eV.cells];decide) (hval 4 _ v4 rfl rfl) h4;rw[eV.cells] at s4;have e4:=JV.rds o4;refine(aRl (aMb (kOf hL) a0 a1 a2 s4 m3 n3 e4 λh' hx=>⟨rfl,hx⟩)).mono λe W' ⟨he,hk⟩=>?_;subst he;exact⟨_,rfl,aQB aXm aXx (by rw[Tryz.params6];decide +kernel) Tryz.underlying4 (by kernel_rfl) rfl hW' hk rfl rfl rfl⟩
theorem over:Rows.journalPlaysRow.holds Tryz.pinned (OpenSpec.ofChange Rows.journalPlaysSpec):=
 OpenClaim.holds_of_wide 6 Tryz.f6 rfl rfl rfl rfl rfl rfl rfl ⟨rfl,rfl,rfl,rfl,rfl⟩ rfl rfl rfl rfl rfl (by kernel_rfl) Tryz.func6 (by kernel_rfl)
  (of_decide_eq_true (by kernel_rfl)) (by unfold Func.isWrapper;first|(rw[if_pos (by decide +kernel)];kernel_rfl)|(rw[if_neg (by decide +kernel)];exact⟨rfl,rfl⟩))
  (λos started H enc _=>lifted os started H enc)
theorem proved:Rows.JournalPlaysCardSaid:=
 Claim7.holds_tied_plain_at .later [] [.data,.pinned] true (true,"0c8c7a63d2a285e71e8bcbfa8c35b77b58cfcfe86579a48db0f3727ae4e3fcf4") false
  over (λ_ h=>by cases h) (by kernel_rfl) (λ_ h=>by cases h) journalPlays_row_tie rfl ⟨rfl,rfl⟩ (by kernel_rfl) rfl
  (λf fn hf hfn=>by
   obtain rfl:f=6:=Option.some.inj ((show Tryz.prog.funcNamed Rows.journalPlaysRow.func=some 6 by kernel_rfl).symm.trans hf) |>.symm;obtain rfl:fn=Tryz.f6:=(Option.some.inj (Tryz.func6.symm.trans hfn)).symm;exact⟨by kernel_rfl,λj t ht=>by
    have hall:(Tryz.f6.params.toList.all λu=>!Tryz.prog.wantsStandIn u)=true:=by kernel_rfl
    have hm:t∈Tryz.f6.params.toList:=by simpa using Array.mem_of_getElem? ht
    exact(show Tryz.prog.wantsStandIn t=false by simpa using aKJ.1 hall t hm)⟩)
  (by kernel_rfl)
#print axioms proved
end Go.Proofs.YtiohehjhlghikaaGreatDoor.journalPlays
