/- relay: the card of RelayTwice: a plan that was delivered is refused whole, and both maps stand as they stood. -/
import Derived.Test.YtppgkeodaejgcaaGreatDoorRlNVC8
import Derived.Test.YtppgkeodaejgcaaGreatDoorCards
import Derived.Test.YtppgkeodaejgcaaGreatDoorTie
import Derived.WalkKit
import Derived.ProofKit
set_option linter.all false
set_option maxRecDepth 100000
open Go.Instr (loadAt fieldAt indexAt extract buildSlice build)
namespace Go.Proofs.YtppgkeodaejgcaaGreatDoor
section
open Go
def kl(a b:Ky):Prop:=a.1<b.1∨a.1=b.1∧a.2<b.2
instance (a b:Ky):Decidable (kl a b):=by unfold kl;exact inferInstance
theorem aT8(a:Ky):¬kl a a:=by unfold kl;omega
theorem aVV{a b c:Ky}(h1:kl a b)(h2:kl b c):kl a c:=by unfold kl at *;omega
theorem aZq{a b:Ky}(h:kl a b):a≠b:=by rintro rfl;exact aT8 _ h
def Srt(L:List It):Prop:=L.Pairwise λa b=>kl a.key b.key
def aVW(L:List It)(k:Ky):Option It:=L.find? λi=>decide (k=i.key)
def aVQ(L:List It)(k:Ky):List It:=L.filter λi=>decide (i.key≠k)
def aTo(L:List It)(i:It):List It:=(L.filter λj=>decide (kl j.key i.key))++i::(L.filter λj=>decide (kl i.key j.key))
theorem Srt.filter{L:List It}(h:Srt L)(p:It->Bool):Srt (L.filter p):=List.Pairwise.filter p h
theorem Srt.del{L:List It}(h:Srt L)(k:Ky):Srt (aVQ L k):=h.filter _
theorem Srt.ins{L:List It}(h:Srt L)(i:It):Srt (aTo L i):=by
 unfold aTo Srt;rw[List.pairwise_append];refine⟨h.filter _,?_,?_⟩
 ·rw[List.pairwise_cons];exact⟨λx hx=>by simpa using(zL1.1 hx).2,h.filter _⟩
 ·intro x hx y hy;have h1:kl x.key i.key:=by simpa using(zL1.1 hx).2
  rcases gE.1 hy with rfl|hy
  ·exact h1
  ·exact aVV h1 (by simpa using(zL1.1 hy).2)
theorem Srt.nodup{L:List It}(h:Srt L):(L.map It.key).Nodup:=by
 unfold List.Nodup;rw[List.pairwise_map];exact h.imp λh=>aZq h
def aTE(L:List It)(room:Int)(i:It):List It:=if aVW L i.key=none∧room≤L.length then L else aTo L i
def aWd(L:List It)(room:Int)(n:Nt):List It:=
 if n.right=false then L
 else if n.k=1 then(if (aVW L n.p.key).isSome then L else aTE L room ⟨n.p,1⟩)
 else if n.k=2 then(match aVW L n.p.key with
  | some x=>aTo L ⟨x.p,2⟩
  | none=>aTE L room ⟨n.p,2⟩)
 else aVQ L n.p.key
def aZa(L:List It)(room:Int)(a:Ac):List It:=if a.dr then aVQ L a.n.p.key else aWd L room a.n
theorem Srt.put{L:List It}(h:Srt L)(room:Int)(i:It):Srt (aTE L room i):=by
 unfold aTE;split
 ·exact h
 ·exact h.ins i
theorem Srt.app{L:List It}(h:Srt L)(room:Int)(n:Nt):Srt (aWd L room n):=by
 unfold aWd;split
 ·exact h
 ·split
  ·split
   ·exact h
   ·exact h.put room _
  ·split
   ·split
    ·exact h.ins _
    ·exact h.put room _
   ·exact h.del _
theorem Srt.act{L:List It}(h:Srt L)(room:Int)(a:Ac):Srt (aZa L room a):=by
 unfold aZa;split
 ·exact h.del _
 ·exact h.app room _
structure TAt(h:PH)(a:Nat)(L:List It)(room:Int)(F:List Nat):Prop where
 here:∃m l,h a=some (.cells #[.map (some m),.int .i64 room] aQR (0,0))∧MAt h m l∧l.Perm L∧F=[a,m]∧a≠m
 srt:Srt L
theorem TAt.upd{h h':PH}{a:Nat}{L:List It}{room:Int}{F G:List Nat}(H:TAt h a L room F)(u:cV G h h')(hd:∀b∈F,b∉G):TAt h' a L room F:=by
 obtain⟨m,l,ha,hm,hp,rfl,hn⟩:=H.here;exact⟨⟨m,l,u.get ha (hd a (by simp)),jX.upd hm u (hd m (by simp)),hp,rfl,hn⟩,H.srt⟩
theorem TAt.ext{h h':PH}{a:Nat}{L:List It}{room:Int}{F:List Nat}(H:TAt h a L room F)(u:dB h h'):TAt h' a L room F:=H.upd u (by simp)
theorem TAt.known{h:PH}{a:Nat}{L:List It}{room:Int}{F:List Nat}(H:TAt h a L room F):∀b∈F,h b≠none:=by
 obtain⟨m,l,ha,hm,hp,rfl,hn⟩:=H.here;intro b hb;simp only[gE,kD,or_false] at hb;rcases hb with rfl|rfl
 ·rw[ha];simp
 ·exact jX.known hm
theorem Pk.eqIn{h:PH}{d:Nat}(m m':Pk):cG PG h (Op.equalIn (d+1+1) aR (.agg m.cells.toArray) (.agg m'.cells.toArray))=some (m.f==m'.f&&(m.s==m'.s&&(m.t==m'.t&&(m.d==m'.d&&true)))):=by
 refine(aCB aR.und (by kernel_rfl) (λf=>match f.offset with|0=>m.f==m'.f|1=>m.s==m'.s|2=>m.t==m'.t|_=>m.d==m'.d) ?_);intro f hf;simp only[gE,kD,or_false] at hf;rcases hf with rfl|rfl|rfl|rfl
 ·exact⟨by decide,_,_,iL bT.und rfl rfl,iL bT.und rfl rfl,sY bT.und⟩
 ·exact⟨by decide,_,_,iL cA.und rfl rfl,iL cA.und rfl rfl,sY cA.und⟩
 ·exact⟨by decide,_,_,iL cA.und rfl rfl,iL cA.und rfl rfl,sY cA.und⟩
 ·exact⟨by decide,_,_,iL bR.und rfl rfl,iL bR.und rfl rfl,xP bR.und⟩
theorem It.eqIn{h:PH}(m m':It):cG PG h (Op.equalIn (9999+1) fE m.val m'.val)=some (decide (m=m')):=by
 have hm:cG PG h (Op.equalIn (9999+1) fE (.agg m.cells.toArray) (.agg m'.cells.toArray))=some ((m.p.f==m'.p.f&&(m.p.s==m'.p.s&&(m.p.t==m'.p.t&&(m.p.d==m'.p.d&&true))))&&(m.g==m'.g&&true)):=by
  refine(aCB fE.und (by kernel_rfl) (λf=>match f.offset with|0=>(m.p.f==m'.p.f&&(m.p.s==m'.p.s&&(m.p.t==m'.p.t&&(m.p.d==m'.p.d&&true))))|_=>m.g==m'.g) ?_);intro f hf;simp only[gE,kD,or_false] at hf;rcases hf with rfl|rfl
  ·exact⟨by decide,_,_,aLN aR.und rfl aR.info aR.size,aLN aR.und rfl aR.info aR.size,Pk.eqIn (d:=9997) m.p m'.p⟩
  ·exact⟨by decide,_,_,iL bT.und rfl rfl,iL bT.und rfl rfl,sY bT.und⟩
 show cG PG h (Op.equalIn (9999+1) fE (.agg m.cells.toArray) (.agg m'.cells.toArray))=_;rw[hm];congr 1;simp only[aAY];rw[zLm];obtain⟨⟨a,b,c,d⟩,g⟩:=m;obtain⟨⟨a',b',c',d'⟩,g'⟩:=m';simp[and_assoc]
theorem It.neq{h:PH}{x y:Operand}(m m':It):cG PG h (kG .neq fE x y m.val m'.val)=some (.bool (!decide (m=m'))):=aMr (by kernel_rfl) (It.eqIn m m')
theorem fQ.it{h:PH}{x:Value}{xs:List It}(H:fQ h 5 x (xs.map It.cells)){k:IntKind}{j:Nat}{m:It}(hm:xs[j]? =some m):
  ∃a,dD PG (indexAt lB x (.int k j))=some (.pointer (some a))∧cG PG h (loadAt fE (.pointer (some a)))=some m.val:=
 H.loadAgg lB.und fE.info fE.size fE.und rfl (by omega) (by rw[wL,pK,hm];rfl)
theorem bAp(a0 a1:Option Addr)(n0 c0 n1 c1:Nat):dD PG (build kA #[(0,.slice a0 n0 c0),(1,.slice a1 n1 c1)])=some (.agg #[.slice a0 n0 c0,.slice a1 n1 c1]):=by kernel_rfl
theorem bAh(a0 a1:Option Addr)(n0 c0 n1 c1:Nat):dD PG (build dX #[(0,.slice a0 n0 c0),(1,.slice a1 n1 c1)])=some (.agg #[.slice a0 n0 c0,.slice a1 n1 c1]):=by kernel_rfl
theorem aV6{r j:Nat}(hj:j<2):dD PG (indexAt jF (pT r 0) (.int .i64 (j:Int)))=some (pT r (2*j)):=by
 have ix:=sH (P:=PG) (t:=jF) (b:=r) (o:=0) (k:=.i64) (j:=(j:Int)) jF.und jE.info jE.size (by omega) (by omega);rw[ix,pK,fC,zLR]
theorem bAU{r j:Nat}(hj:j<2):dD PG (indexAt kA (pT r 0) (.int .i64 (j:Int)))=some (pT r j):=by
 have ix:=sH (P:=PG) (t:=kA) (b:=r) (o:=0) (k:=.i64) (j:=(j:Int)) kA.und dO.info dO.size (by omega) (by omega);rw[ix,pK,fC,zL7]
theorem slv{h:PH}{e:TypeId}{n:Nat}{v:Value}{rows:List (List Value)}{G:List Nat}(O:eD h e n v rows G):∃a m c,v= .slice a m c:=by
 obtain⟨a,c,e,-⟩:=O.slR.here;exact⟨a,_,c,e⟩
structure PlB(h:PH)(r:Nat)(x0 x1:List fU×Bool)(F:List Nat):Prop where
 here:∃v0 v1 G0 G1,F=r::(G0++G1)∧Bx h r [v0,.bool x0.2,v1,.bool x1.2]∧eD h cH 8 v0 (x0.1.map fU.cells) G0∧eD h cH 8 v1 (x1.1.map fU.cells) G1∧r∉G0∧r∉G1∧∀y∈G0,y∉G1
theorem PlB.known{h:PH}{r:Nat}{x0 x1:List fU×Bool}{F:List Nat}(H:PlB h r x0 x1 F):∀y∈F,h y≠none:=by
 obtain⟨v0,v1,G0,G1,rfl,B,O0,O1,-⟩:=H.here;intro y hy;simp only[gE,jB] at hy;rcases hy with rfl|hy|hy
 ·exact B.known
 ·exact O0.known y hy
 ·exact O1.known y hy
theorem PlB.ext{h h':PH}{r:Nat}{x0 x1:List fU×Bool}{F:List Nat}(H:PlB h r x0 x1 F)(u:dB h h'):PlB h' r x0 x1 F:=by
 obtain⟨v0,v1,G0,G1,e,B,O0,O1,hd⟩:=H.here;exact⟨v0,v1,G0,G1,e,B.ext u,O0.ext u,O1.ext u,hd⟩
theorem PlB.put{h:PH}{r:Nat}{x0 x1:List fU×Bool}{F:List Nat}(H:PlB h r x0 x1 F){j:Nat}(hj:j<2){m:fU}{kv:Value}{known:List Int}(S:fQ h 1 kv (known.map wI))(l0:x0.1.length≤10000)(l1:x1.1.length≤10000){batch:Int}{R:cD}
  (hk:∀h' F',PlB h' r (if j=1 then x0 else vS known batch x0 m) (if j=1 then vS known batch x1 m else x1) F'->iO h F h' F'->R (.tuple #[]) h'):
  aT PG aCT #[pT r (2*j),m.v,kv,.int .i64 batch] h R:=by
 obtain⟨v0,v1,G0,G1,rfl,B,O0,O1,n0,n1,hd⟩:=H.here;have:j=0∨j=1:=by omega
 rcases this with rfl|rfl
 ·refine aSr (x:=x0) B rfl rfl O0 n0 S l0 λh' v' G' B' O' n' u g=>?_;have d':∀y∈G',y∉G1:=λy hy hm=>by
   rcases g y hy with h1|h1
   ·exact hd y h1 hm
   ·exact O1.known y hm h1
  refine hk h' (r::(G'++G1)) ⟨v',v1,G',G1,rfl,B',O',O1.upd u (λy hy hm=>?_),n',n1,d'⟩ ⟨u.mono λy hy=>.inl ?_,λy hy=>?_⟩
  ·rcases gE.1 hm with rfl|hm
   ·exact n1 hy
   ·exact hd y hm hy
  ·simp only[gE,jB] at hy ⊢;rcases hy with rfl|hy
   ·exact .inl rfl
   ·exact .inr (.inl hy)
  ·simp only[gE,jB] at hy ⊢;rcases hy with rfl|hy|hy
   ·exact .inl (.inl rfl)
   ·rcases g y hy with h1|h1
    ·exact .inl (.inr (.inl h1))
    ·exact .inr h1
   ·exact .inl (.inr (.inr hy))
 ·refine aSr (x:=x1) B rfl rfl O1 n1 S l1 λh' v' G' B' O' n' u g=>?_;have d':∀y∈G0,y∉G':=λy hy hm=>by
   rcases g y hm with h1|h1
   ·exact hd y hy h1
   ·exact O0.known y hy h1
  refine hk h' (r::(G0++G')) ⟨v0,v',G0,G',rfl,B',O0.upd u (λy hy hm=>?_),O',n0,n',d'⟩ ⟨u.mono λy hy=>.inl ?_,λy hy=>?_⟩
  ·rcases gE.1 hm with rfl|hm
   ·exact n0 hy
   ·exact hd y hy hm
  ·simp only[gE,jB] at hy ⊢;rcases hy with rfl|hy
   ·exact .inl rfl
   ·exact .inr (.inr hy)
  ·simp only[gE,jB] at hy ⊢;rcases hy with rfl|hy|hy
   ·exact .inl (.inl rfl)
   ·exact .inl (.inr (.inl hy))
   ·rcases g y hy with h1|h1
    ·exact .inl (.inr (.inr h1))
    ·exact .inr h1
theorem aVf(known:List Int)(batch:Int)(x:List fU×Bool)(a b:List fU):aHT known batch x (a++b)=aHT known batch (aHT known batch x a) b:=List.foldl_append
theorem aGc(s:Ch×Ch)(known:List Int)(batch:Int)(ps:List Pk)(p:Pk)(k:Int):oK s known batch (ps++[p]) k=(match qD s.1 s.2 p with
  | some m=>if m.dest=k then vS known batch (oK s known batch ps k) m else oK s known batch ps k
  | none=>oK s known batch ps k):=by
 unfold oK aM8 aRL;rw[List.filterMap_append,aIn,aVf];cases h:qD s.1 s.2 p with
 | none=>simp[h,aHT]
 | some m=>
  by_cases c:m.dest=k
  ·simp[h,c,aHT]
  ·simp[h,c,aHT]
theorem aS8{h:PH}{c0 c1:Nat}{s:Ch×Ch}{F:List Nat}(hK:mQ h)(W:nV c0 c1 s h F){x:Value}{l:List It}(S:fQ h 5 x (l.map It.cells))(w:∀i∈l,i.p.wf)(hl:l.length≤60)(batch:Int){kk:cD}
  (hk:∀h' hs0 hs1 v0 v1 G0 G1,qU hs0 s.1.cl->qU hs1 s.2.cl->eD h' cH 8 v0 ((oK s hs0 batch (l.map It.p) 0).1.map fU.cells) G0->eD h' cH 8 v1 ((oK s hs1 batch (l.map It.p) 1).1.map fU.cells) G1->dZ h G0->dZ h G1->dB h h'->kk (.agg #[v0,v1]) h'):
  aT PG aGC #[x,arV c0 c1,.int .i64 batch] h kk:=by
 apply aFJ.call;unfold aFJ;intro r1 hr1
 try rw[cY]
 have u1:dB h (h.set r1 (.cells (Value.cells (arV c0 c1)) cX)):=cV.new hr1;have B1:Bx (h.set r1 (.cells (Value.cells (arV c0 c1)) cX)) r1 (arC c0 c1):=Bx.new;generalize h.set r1 (.cells (Value.cells (arV c0 c1)) cX)=h1 at *;intro r3 hr3
 try rw[cY]
 have n13:r1≠r3:=B1.apart hr3;have u3:dB h1 (h1.set r3 (.cells (dN PG dX) dX)):=cV.new hr3;have B3:Bx (h1.set r3 (.cells (dN PG dX) dX)) r3 [.slice none 0 0,.slice none 0 0]:=dX.zbox;have B1:=B1.ext u3;generalize h1.set r3 (.cells (dN PG dX) dX)=h3 at *;intro r5 hr5
 try rw[cY]
 have n15:r1≠r5:=B1.apart hr5;have n35:r3≠r5:=B3.apart hr5;have u5:dB h3 (h3.set r5 (.cells (dN PG jF) jF)):=cV.new hr5;have B5:Bx (h3.set r5 (.cells (dN PG jF) jF)) r5 [.slice none 0 0,.bool false,.slice none 0 0,.bool false]:=jF.zbox;have B1:=B1.ext u5;have B3:=B3.ext u5;generalize h3.set r5 (.cells (dN PG jF) jF)=h5 at *;have e5:=(u1.trans u3).trans u5;have k3:h r3=none:=u1.none hr3;have k5:h r5=none:=(u1.trans u3).none hr5;have j0:dD PG (indexAt cX (pT r1 0) (.int .i64 0))=some (pT r1 0):=aIl (i:=0) (by decide);have j1:dD PG (indexAt cX (pT r1 0) (.int .i64 1))=some (pT r1 1):=by have:=aIl (r:=r1) (o:=0) (i:=1) (by decide);rw[fC] at this;exact this
 have l0:cG PG h5 (loadAt cU (pT r1 0))=some (pT c0 0):=by rw[cU.load,B1.cell];rfl
 have l1:∀{h':PH},dB h5 h'->cG PG h' (loadAt cU (pT r1 1))=some (pT c1 0):=λu=>by rw[cU.load,(B1.ext u).cell];rfl
 obtain⟨F0,F1,-,H0,H1,-⟩:=id W;simp only[j0,j1,l0,l1 cV.refl,cE,reduceIte,cT,Nat.reduceAdd];refine aPb ((iD.good _ _).ext H0 e5) λh7 hs0 kv0 Fk0 R0 O0 u7 f7=>?_;refine⟨l1 u7,?_⟩;refine aPb ((iD.good _ _).ext H1 (e5.trans u7)) λh9 hs1 kv1 Fk1 R1 O1 u9 f9=>?_;have S0:=(O0.ext u9).slR;have S1:=O1.slR;obtain⟨a0,n0,d0,rfl⟩:=slv O0;obtain⟨a1,n1,d1,rfl⟩:=slv O1;have e9:=(e5.trans u7).trans u9;simp only[bAp,cE,reduceIte,cT,Nat.reduceAdd];intro r16 hr16
 try rw[cY]
 refine kA.fill (vs:=[.slice a0 n0 d0,.slice a1 n1 d1]) hr16 rfl (λu hu=>by
  simp only[gE,kD,or_false] at hu;rcases hu with rfl|rfl<;>rfl) λh10 B16 u10=>?_
 have e10:=e9.trans u10;have e510:=(u7.trans u9).trans u10;have ll:dD PG (Builtin.len_ #[lB] bT #[x])=some (.int .i64 (l.length:Int)):=by
  have:=S.len (t':=bT) lB.und;rw[iV] at this;exact this
 have n165:r16≠r5:=λe=>(B5.ext (u7.trans u9)).known (e▸hr16);simp only[ll,cE,reduceIte,cT,Nat.reduceAdd];refine⟨λvs h'=>∃(i:Nat) (G:List Nat),i≤l.length∧vs=[.int .i64 batch,pT r1 0,pT r3 0,pT r5 0,pT r16 0,x,.int .i64 (l.length:Int),.int .i64 (i:Int)]∧Now h h' G∧PlB h' r5 (oK s hs0 batch ((l.take i).map It.p) 0) (oK s hs1 batch ((l.take i).map It.p) 1) G∧cV G h10 h'∧(r1∉G∧r3∉G∧r16∉G)∧(∀y∈G,y=r5∨h10 y=none),gP l.length 7,⟨0,[r5],by omega,rfl,⟨e10,dZ.one k5⟩,⟨_,_,[],[],rfl,B5.ext e510,eD.nil,eD.nil,by simp,by simp,λy hy=>by cases hy⟩,cV.refl,⟨by simpa using n15,by simpa using n35,by simpa using n165⟩,λy hy=>.inl (by simpa using hy)⟩,?_⟩;rintro ρ h' ⟨i,G,hi,hvs,N,P,U,⟨g1,g3,g16⟩,gr⟩;simp only[iI,iU,kR,and_true] at hvs;obtain⟨v0,v1,v2,v3,v4,v5,v6,v7⟩:=hvs;unfold aKq aHm aKp;rw[v0,v1,v2,v3,v4,v5,v6,v7];have D1:Bx h' r1 (arC c0 c1):=(B1.ext e510).upd U g1;have D3:Bx h' r3 [.slice none 0 0,.slice none 0 0]:=(B3.ext e510).upd U g3;have D16:Bx h' r16 [.slice a0 n0 d0,.slice a1 n1 d1]:=B16.upd U g16;have hle:∀k known,(oK s known batch ((l.take i).map It.p) k).1.length≤10000:=λk known=>by
  have:=aKe s known batch ((l.take i).map It.p) k;rw[iV,wO] at this;omega
 by_cases hlt:i<l.length
 ·have g:((i:Int)<(l.length:Int))=True:=eq_true (by omega);have gi:=pY (i:=i) (by omega);obtain⟨y,hy⟩:∃y,l[i]? =some y:=⟨_,mB hlt⟩;obtain⟨a,i1,i2⟩:=(S.ext N.ext).it (k:=.i64) hy;have etake:(l.take (i+1)).map It.p=(l.take i).map It.p++[y.p]:=by rw[zLT,hy,qI];rfl
  simp only[g,i1,i2,cE,reduceIte,cT,Nat.reduceAdd];intro r26 hr26
  try rw[cY]
  refine fE.fill (vs:=y.cells) hr26 rfl (λu hu=>It.allCell y u (by simpa using hu)) λh12 B26 u12=>?_;have ly:cG PG h12 (loadAt fE (pT r26 0))=some y.val:=fE.agg B26 (by show 0+5≤5;decide);have lc:cG PG h12 (loadAt cX (pT r1 0))=some (arV c0 c1):=cX.agg (D1.ext u12) (by show 0+2≤2;decide);have N12:=N.more u12;simp only[ly,lc,cE,reduceIte,cT,Nat.reduceAdd];refine aUA (N12.k hK) ((nV.good _ _ _).ext W N12.ext) y.p (w y (qB hy)) y.g λh13 u13=>?_;have e13:=u12.trans u13;have N13:=N.more e13;have P13:=P.ext e13;simp only[cE,reduceIte,cT,Nat.reduceAdd];intro r36 hr36
  try rw[cY]
  refine cH.fill (vs:=(aTL (qD s.1 s.2 y.p)).cells) hr36 rfl (fU.isC _) λh14 B36 u14=>?_;have e14:=e13.trans u14;have N14:=N.more e14;have P14:=P.ext e14;have D16':=D16.ext e14;have U14:cV G h10 h14:=U.trans e14.upd;cases hsub:qD s.1 s.2 y.p with
  | none=>
   simp only[zLu,gi,cE,reduceIte,cT,Nat.reduceAdd];refine⟨⟨i+1,G,by omega,rfl,N14,?_,U14,⟨g1,g3,g16⟩,gr⟩,by simp[gP,v7];omega⟩;rw[etake,aGc,aGc,hsub];exact P14
  | some m=>
   rw[hsub] at B36;have hd:=aNH hsub;obtain⟨j,hj⟩:∃j:Nat,m.dest=(j:Int)∧j<2:=by rcases hd with h|h;exact⟨0,h,by decide⟩;exact⟨1,h,by decide⟩
   obtain⟨hj,hj2⟩:=hj;have ld:cG PG h14 (loadAt bT (pT r36 1))=some (.int .i64 (j:Int)):=by rw[bT.load,B36.cell,←hj];rfl
   have lm:cG PG h14 (loadAt cH (pT r36 0))=some m.v:=B36.msg;have lk:∃kv known,cG PG h14 (loadAt dO (pT r16 j))=some kv∧fQ h14 1 kv (known.map wI)∧known=(if j=1 then hs1 else hs0):=by
    have d0:∀y∈Fk0,y∉G:=λy hy hm=>by
     rcases gr y hm with rfl|h
     ·exact B5.known (f7 _ hy)
     ·exact(O0.ext (u9.trans u10)).known y hy h
    have d1:∀y∈Fk1,y∉G:=λy hy hm=>by
     rcases gr y hm with rfl|h
     ·exact(B5.ext u7).known (f9 _ hy)
     ·exact(O1.ext u10).known y hy h
    have:j=0∨j=1:=by omega
    rcases this with rfl|rfl
    ·exact⟨_,hs0,by rw[dO.load,D16'.cell];rfl,((O0.ext (u9.trans u10)).upd U14 d0).slR,rfl⟩
    ·exact⟨_,hs1,by rw[dO.load,D16'.cell];rfl,((O1.ext u10).upd U14 d1).slR,rfl⟩
   obtain⟨kv,known,lk1,lk2,lk3⟩:=lk;simp only[aNv,cH.f1,ld,lm,aV6 hj2,bAU hj2,lk1,cE,reduceIte,cT,Nat.reduceAdd];refine PlB.put P14 hj2 lk2 (hle _ _) (hle _ _) λh15 G15 P15 s15=>?_;simp only[gi,cE,reduceIte,cT,Nat.reduceAdd];obtain⟨X1,m1⟩:=aAD (D1.ext e14) g1 s15;obtain⟨X3,m3⟩:=aAD (D3.ext e14) g3 s15;obtain⟨X16,m16⟩:=aAD D16' g16 s15;refine⟨⟨i+1,G15,by omega,rfl,N14.step s15,?_,U14.then s15.upd (λy hy=>.inl hy) |>.mono ?_,⟨m1,m3,m16⟩,?_⟩,by simp[gP,v7];omega⟩
   ·rw[etake,aGc,aGc,hsub];rcases hd with h|h
    ·have j0:j=0:=by omega
     subst j0;rw[if_neg (by decide)] at lk3;rw[if_neg (by decide),if_neg (by decide),lk3] at P15;simp only[h];exact P15
    ·have j1:j=1:=by omega
     subst j1;rw[if_pos rfl] at lk3;rw[if_pos rfl,if_pos rfl,lk3] at P15;simp only[h];exact P15
   ·intro y hy;rcases gr y hy with rfl|h
    ·obtain⟨_,_,_,_,e,-⟩:=P15.here;exact .inl (by rw[e];simp)
    ·exact .inr h
   ·intro y hy;by_cases hm:y∈G
    ·exact gr y hm
    ·rcases s15.grow y hy with h|h
     ·exact absurd h hm
     ·cases e:h10 y with
      | none=>exact .inr rfl
      | some ob=>
       have:=U14 y ob e hm;rw[h] at this;cases this
 ·have g:((i:Int)<(l.length:Int))=False:=eq_false (by omega);obtain⟨x0,x1,G0,G1,rfl,B,O0',O1',n0',n1',hd'⟩:=P.here;rw[nU (by omega)] at O0' O1';obtain⟨b0,q0,w0,rfl⟩:=slv O0';obtain⟨b1,q1,w1,rfl⟩:=slv O1';have t0:=aV6 (r:=r5) (j:=0) (by decide);have t1:=aV6 (r:=r5) (j:=1) (by decide);have la:cG PG h' (loadAt dG (pT r5 0))=some (.slice b0 q0 w0):=by rw[dG.load,B.cell];rfl
  have lb:cG PG h' (loadAt dG (pT r5 2))=some (.slice b1 q1 w1):=by rw[dG.load,B.cell];rfl
  have t0:dD PG (indexAt jF (pT r5 0) (.int .i64 0))=some (pT r5 0):=t0;have t1:dD PG (indexAt jF (pT r5 0) (.int .i64 1))=some (pT r5 2):=t1;simp only[g,t0,t1,jE.f0,la,lb,bAh,cE,reduceIte,cT,Nat.reduceAdd];refine dX.put (vs:=[.slice b0 q0 w0,.slice b1 q1 w1]) D3 (o:=0) rfl (by show 0+2≤2;decide) (λu hu=>by
   simp only[gE,kD,or_false] at hu;rcases hu with rfl|rfl<;>rfl) λh12 X3 u12=>?_
  have l3:cG PG h12 (loadAt dX (pT r3 0))=some (.agg #[.slice b0 q0 w0,.slice b1 q1 w1]):=dX.agg X3 (by show 0+2≤2;decide);simp only[l3,cE,reduceIte,cT,Nat.reduceAdd];simp only[gE,jB,not_or] at g3;refine hk h12 hs0 hs1 _ _ G0 G1 R0 R1 (O0'.upd u12 (λy hy hm=>?_)) (O1'.upd u12 (λy hy hm=>?_)) (λy hy=>N.fr y (by simp[hy])) (λy hy=>N.fr y (by simp[hy])) (N.ext.fresh u12 (dZ.one k3))
  ·simp only[fW] at hm;exact g3.2.1 (hm▸hy)
  ·simp only[fW] at hm;exact g3.2.2 (hm▸hy)
def ya:Ch:=Ch.new 0 5 1
def yb:Ch:=Ch.new 1 5 1
def yp:Pk:=jY ya [] 9
def yq:Pr:=⟨fR 99 1,mL yp⟩
def ya1:Ch:=ya.sent yp
def ya2:Ch:=ya1.committed
def y1:jI:=⟨0,0,9,[],default,false⟩
def y2:jI:=⟨5,0,0,[],default,false⟩
theorem aQ8:yp.right=true:=by decide
theorem aZm:rT ya [] 9=0:=by
 have h1:decide (aKP ya.cl<((9:Nat):Int))=true:=by
  rw[show ya.cl=[] from rfl,aWU];decide
 have h2:(jY ya [] 9).right=true:=aQ8;unfold rT pF;rw[if_neg (by decide),h1,h2];rfl
theorem aYh:aGw (ya,yb) y1=(ya1,yb):=by
 unfold aGw iK;rw[if_neg (show ¬y1.clean.id=1 by decide)];have:jD ya yb y1.clean=(ya1,(yp,0,0)):=by
  unfold jD;rw[if_pos (show y1.clean.kind=0 from rfl),show y1.clean.d=[] from rfl,show y1.clean.h=9 from rfl,if_pos aZm];rfl
 show((jD ya yb y1.clean).1,yb)=_;rw[this]
theorem aZK:aGw (ya1,yb) y2=(ya2,yb):=by
 unfold aGw iK;rw[if_neg (show ¬y2.clean.id=1 by decide)];rfl
theorem bAM:aIf (ya,yb) [y1,y2]=(ya2,yb):=by
 show aGw (aGw (ya,yb) y1) y2=_;rw[aYh,aZK]
theorem bAb:mR ya2.st 6=some [yq]:=rfl
theorem bAB:MOk [yq]:=⟨List.pairwise_singleton _ _,by decide,λp hp=>by
 simp only[fW] at hp;subst hp;show(fR 99 1).length≤16;rw[xF];decide,λp hp=>by
 simp only[fW] at hp;subst hp;exact aMM yp⟩
theorem aT7:gF [yq] (fR 99 1)=some yq:=by
 rw[vB (List.pairwise_singleton _ _)];exact⟨by simp,rfl⟩
def ym:fU:=mkM 2 1 6 yp (tx (aBN (jO [yq] (fR 99 1))))
theorem aXJ:qD ya2 yb yp=some ym:=by
 have hs:nO ya2 yp=true:=by
  unfold nO;rw[show fR 99 yp.s.toNat=fR 99 1 from rfl,show ya2.st.now=[yq] from rfl,aT7];exact decide_eq_true rfl
 have hp:uZ ya2.st (fR 99 1) 6=(aBN (jO [yq] (fR 99 1)),0):=by
  unfold uZ;rw[bAb];simp only;rw[if_pos (by rw[aT7];rfl),(aQ3 bAB _).1]
 have hh:(aBN (jO [yq] (fR 99 1))).head? =some 1:=by
  have e:jO [yq] (fR 99 1)=⟨false,[kK [yq] (gU [yq] (fR 99 1))]⟩:=by
   unfold jO;rw[if_pos (by rw[aT7];rfl)]
  rw[e];rfl
 unfold qD;rw[if_pos ⟨aQ8,hs⟩];rw[show zX ya2 yb (1-yp.f)=yb from rfl,show zX ya2 yb yp.f=ya2 from rfl];rw[if_neg (show ¬(gF yb.st.now (fR 114 yp.s.toNat)).isSome=true from(by decide:¬(false=true)))];rw[if_neg (show ¬(IntKind.u64.wrap (yp.t-1)≤(yb.st.height:Int)∨yb.st.height=18446744073709551615) by decide)];unfold aFA;rw[show ya2.st.height=6 from rfl,show fR 99 yp.s.toNat=fR 99 1 from rfl,hp,if_pos ⟨rfl,hh⟩];rfl
theorem aYB(known:List Int):oK (ya2,yb) known 9 [yp] 0=([],false):=by
 have:qD (ya2,yb).1 (ya2,yb).2 yp=some ym:=aXJ;show oK (ya2,yb) known 9 ([]++[yp]) 0=_;rw[aGc,this];rfl
theorem aX3{known:List Int}(hk:known=[]):oK (ya2,yb) known 9 [yp] 1=([nE 1 6,ym],false):=by
 have:qD (ya2,yb).1 (ya2,yb).2 yp=some ym:=aXJ;show oK (ya2,yb) known 9 ([]++[yp]) 1=_;rw[aGc,this,hk];rfl
theorem aXh{h0 h:PH}{F:List Nat}{c0 c1 m d0 d1 bk mm:Nat}{K:List Nat}{s:Ch×Ch}{A:List Tx}{n i:Nat}(hK:mQ h0)(N:Now h0 h F)(W:aJT c0 c1 m d0 d1 bk mm K s A n h F)(M:aIm s i)(hn:n≤i+1){r9:Nat}(B9:Bx h r9 (arC c0 c1))(n9:r9∉F){v t6:Value}{l:List jI}(S:fQ h0 9 v (l.map jI.cells))(hl:l.length≤50){x:jI}(hx:l[i]? =some x)(wx:x.wf)(hd:x.d.length≤2000){R:cD}{n37:gI}
  (hk:∀h' F' A',aJT c0 c1 m d0 d1 bk mm K (aGw s x) A' (n+1) h' F'->iO h F h' F'->n37 [v,t6,pT r9 0,pT m 0,.int .i64 ((i+1:Nat):Int)] h'):
  zH R n37 v t6 (pT r9 0) (pT m 0) (.int .i64 (i:Int)) h:=by
 unfold zH;have hlt:i<l.length:=(zLz.1 hx).1;have g:((i:Int)<(l.length:Int))=True:=eq_true (by omega);have gi:=pY (i:=i) (by omega);obtain⟨bb,o,a1,a2⟩:=S.tac4 hx;obtain⟨-,la,-⟩:=a2 h N.ext;have gD:lW (DTw m d0 d1 bk mm A K s.1 s.2 n):=DTw.good _ _ _ _ _ _ _ _ _ _;have key:=aQF c0 c1 s x.clean;rw[show x.clean.id=x.id from rfl] at key;obtain⟨Wc,gW,e2,hW,get⟩:=key;have hsd:=aST x.id;have w1:IntKind.i64.wrap (1-((lH x.id:Nat):Int))=((1-lH x.id:Nat):Int):=by rw[eX (by omega) (by omega)];omega
 have wc:=jI.clean_wf wx;simp only[aPS S,g,a1,la,cE,reduceIte,cT,Nat.reduceAdd];intro r43 hr43
 try rw[cY]
 refine cI.fill (vs:=x.cells) hr43 rfl (jI.isC x) λh1 B1 u1=>?_;have v8:dD PG (fieldAt cI (pT r43 0) 5)=some (pT r43 8):=by rw[cI.f5]
 refine aTA v8 ?_;refine fY.put B1 (o:=8) (by show 8<9;decide) rfl λh2 B2 u2=>?_;have B2:Bx h2 r43 x.clean.cells:=B2;have e2':dB h h2:=u1.fresh u2 (dZ.one hr43);have C9:∀{h'':PH},dB h h''->Bx h'' r9 (arC c0 c1):=λu=>B9.ext u;have W2:=(aJT.good _ _ _ _ _ _ _ _ _ _ _).ext W e2';have n43:r43∉F:=λhm=>(aJT.good _ _ _ _ _ _ _ _ _ _ _).known W _ hm hr43;have li:∀{h'':PH},dB h2 h''->cG PG h'' (loadAt bT (pT r43 1))=some (.int .i64 x.id):=λu=>by rw[bT.load,(B2.ext u).cell];rfl
 have lh:∀{h'':PH},dB h2 h''->cG PG h'' (loadAt cA (pT r43 2))=some (.int .u64 (x.h:Int)):=λu=>by rw[cA.load,(B2.ext u).cell];rfl
 have lx:cG PG h2 (loadAt cI (pT r43 0))=some x.clean.v:=cI.agg B2 (by show 0+9≤9;decide);have lc:∀{h'':PH},dB h2 h''->cG PG h'' (loadAt cU (pT r9 (lH x.id)))=some (.pointer (some ⟨aBI c0 c1 (lH x.id),0,none⟩)):=λu=>by rw[cU.load,(C9 (e2'.trans u)).cell,aKk c0 c1 hsd]
 have lo:∀{h'':PH},dB h2 h''->cG PG h'' (loadAt cU (pT r9 (1-lH x.id)))=some (.pointer (some ⟨aBI c0 c1 (1-lH x.id),0,none⟩)):=λu=>by rw[cU.load,(C9 (e2'.trans u)).cell,aKk c0 c1 (by omega)]
 have ix1:=aIl (r:=r9) (o:=0) (i:=lH x.id) hsd;have ix2:=aIl (r:=r9) (o:=0) (i:=1-lH x.id) (by omega);rw[fC] at ix1 ix2;simp only[cI.f1,fC,li cV.refl,cE,reduceIte,cT,Nat.reduceAdd];refine aM0 x.id ?_;refine⟨li cV.refl,?_⟩;simp only[ix1,lc cV.refl,cE,reduceIte,cT,Nat.reduceAdd];refine aM0 x.id ?_;refine⟨lc cV.refl,?_⟩;simp only[w1,ix2,lo cV.refl,lx,cI.f2,fC,lh cV.refl,cE,reduceIte,cT,Nat.reduceAdd];refine aPp (a:=x.clean) wc λh3 u3=>?_;refine⟨lh u3,?_⟩;obtain⟨Fa2,HT2,-,-⟩:=eH.left gD W2;obtain⟨-,Fo2,HO2⟩:=get HT2;refine aJ4 (N.k hK |>.ext (e2'.trans u3)) ((iD.good _ _).ext HO2 u3) (aJc x.clean) wx.h λh4 u4=>?_;have e4:dB h2 h4:=u3.trans u4;have e04:=e2'.trans e4;have W4:=(aJT.good _ _ _ _ _ _ _ _ _ _ _).ext W2 e4;have K4:=(N.k hK).ext e04;have N4:=N.more e04;have h0F:=N4.z hK;have B4:=B2.ext e4;obtain⟨Fa,HT,hFa,back0⟩:=eH.left gD W4;obtain⟨⟨Fc,HA,hFc,back⟩,Fo,HO⟩:=get HT;have h0a:0∉Fc:=λhm=>h0F (hFa _ (hFc _ hm));obtain⟨⟨w0,o0⟩,w1',o1⟩:=aRc HT M.k0 M.k1;have hl1:(lV s (lH x.id)).nts.length<1000000:=by
  have:=M.n0;have:=M.n1;unfold lV;split<;>omega
 -- behind the call
 have fin:∀{h5:PH} {F5:List Nat} {s':Ch},Wc (iD (aBI c0 c1 (lH x.id)) s') h5 F5->iO h4 Fa h5 F5->(jD (lV s (lH x.id)) (lV s (1-lH x.id)) x.clean).1=s'->lF R n37 v t6 (pT r9 0) (pT m 0) (.int .i64 (i:Int)) (pT r43 0) h5:=fun {h5 F5 s'} H5 s5 ed=>by
  rw[←ed] at H5;have T5:=hW H5;obtain⟨F6,W6,s6⟩:=back0 (nV c0 c1 (aGw s x)) h5 F5 T5 s5;obtain⟨B5,n5⟩:=aAD B4 n43 s6;unfold lF aGY;have B6:=B5;have W7:=W6;generalize hh:h5=h6 at *;have l5:cG PG h6 (loadAt cI (pT r43 0))=some x.clean.v:=cI.agg B6 (by show 0+9≤9;decide);simp only[l5,cE,reduceIte,cT,Nat.reduceAdd];obtain⟨Fd,HD,hFd,backD⟩:=eH.right (nV.good _ _ _) W7;refine aY7 HD w0 w1' (by omega) wc (by show x.d.length≤1000000;omega) λh7 F7 D7 s7=>?_;obtain⟨F8,W8,s8⟩:=backD (DTw m d0 d1 bk mm (twA s.1 s.2 x.clean++A) K (aGw s x).1 (aGw s x).2 (n+1)) h7 F7 D7 s7;simp only[gi,cE,reduceIte,cT,Nat.reduceAdd];exact hk h7 F8 _ W8 (((iO.ext e04).trans s6).trans s8)
 have lk:cG PG h4 (loadAt bT (pT r43 0))=some (.int .i64 x.kind):=by rw[bT.load,B4.cell];rfl
 have ld:cG PG h4 (loadAt bR (pT r43 3))=some (.string (tx x.d)):=by rw[bR.load,B4.cell];rfl
 have lp:cG PG h4 (loadAt aR (pT r43 4))=some x.p.v:=B4.pk rfl;have lh4:=lh e4;generalize hs:lV s (lH x.id)=cs at *;generalize hso:lV s (1-lH x.id)=so at *;generalize aBI c0 c1 (lH x.id)=cc at *;generalize aBI c0 c1 (1-lH x.id)=co at *;have hd:(jD cs so x.clean).1=if x.kind=0 then(if rT cs x.d x.h=0 then cs.sent (jY cs x.d x.h) else cs)
   else if x.kind=1 then(match mR so.st x.h with
    | none=>cs
    | some b=>cs.told (x.h:Int) (kE b))
   else if x.kind=2 then(if pF cs (qM cs x.p (lI so x.clean) (x.h:Int))=0 then cs.received x.p else cs)
   else if x.kind=3 then(if iW cs x.p (sV cs x.p (lI so x.clean) (x.h:Int))=0 then cs.settled 3 x.p else cs)
   else if x.kind=4 then(if iW cs x.p (oG cs x.p (lI so x.clean) (x.h:Int))=0 then cs.settled 4 x.p else cs)
   else if x.kind=5 then cs.committed
   else cs:=aXi cs so x.clean
 have hpf:2≤x.kind->x.kind≤4->lI so x.clean=(uZ so.st (aJc x.clean) x.h).1:=λh2 h4=>by unfold lI;rw[if_pos ⟨rfl,h2,h4⟩];rfl
 by_cases k0:x.kind=0
 ·have q:(x.kind==0)=true:=by simp[k0]
  rw[if_pos k0] at hd;simp only[cI.f0,cI.f2,cI.f3,fC,lk,ld,lh4,iB,q,cE,reduceIte,cT,Nat.reduceAdd];refine aWm K4 HA x.d wx.h hl1 (λhe h1 F1 H1 s1 _=>?_) (λhe h1 F1 H1 s1=>?_)
  ·rw[if_neg he] at hd;obtain⟨F2,W2,s2⟩:=back _ h1 F1 H1 s1;exact fin W2 s2 hd
  ·rw[if_pos he] at hd;obtain⟨F2,W2,s2⟩:=back _ h1 F1 H1 s1;exact fin W2 s2 hd
 have q0:(x.kind==0)=false:=by simp[k0]
 rw[if_neg k0] at hd;by_cases k1:x.kind=1
 ·have q:(x.kind==1)=true:=by simp[k1]
  rw[if_pos k1] at hd;obtain⟨sp,m',cp,nv,bv,lk',P,perm,ok⟩:=HO;obtain⟨Fs,St,-,-⟩:=P.fSt;simp only[cI.f0,cI.f2,dV.f0,eS.f0,fC,lk,lh4,Ch.load0 P.cell,iB,q0,q,cE,reduceIte,cT,Nat.reduceAdd];refine aPv St x.h wx.h (λe h1 u1=>?_) (λb h1 e u1=>?_)
  ·rw[e] at hd;obtain⟨F2,W2,s2⟩:=back _ h1 Fc ((iD.good _ _).ext HA u1) (iO.ext u1);have qe:((3:Int)==0)=false:=by decide
   simp only[iB,qe,cE,reduceIte,cT,Nat.reduceAdd];exact fin W2 s2 hd
  ·rw[e] at hd;have lh1:=lh (e4.trans u1);have qe:((0:Int)==0)=true:=by decide
   simp only[iB,qe,cI.f2,fC,lh1,cE,reduceIte,cT,Nat.reduceAdd];refine aOh ((iD.good _ _).ext HA u1) (x.h:Int) (kE b) λh2 F2 H2 s2=>?_;obtain⟨F3,W3,s3⟩:=back _ h2 F2 H2 ((iO.ext u1).trans s2);exact fin W3 s3 hd
 have q1:(x.kind==1)=false:=by simp[k1]
 rw[if_neg k1] at hd;by_cases k2:x.kind=2
 ·have q:(x.kind==2)=true:=by simp[k2]
  rw[if_pos k2,hpf (by omega) (by omega)] at hd;simp only[cI.f0,cI.f2,cI.f4,fC,lk,lh4,lp,iB,q0,q1,q,cE,reduceIte,cT,Nat.reduceAdd];refine aQz K4 HA h0a wx.p hl1 (λhe h1 H1 u1=>?_) (λhe h1 F1 H1 s1=>?_)
  ·rw[if_neg he] at hd;obtain⟨F2,W2,s2⟩:=back _ h1 Fc H1 (iO.ext u1);exact fin W2 s2 hd
  ·rw[if_pos he] at hd;obtain⟨F2,W2,s2⟩:=back _ h1 F1 H1 s1;exact fin W2 s2 hd
 have q2:(x.kind==2)=false:=by simp[k2]
 rw[if_neg k2] at hd;by_cases k3:x.kind=3
 ·have q:(x.kind==3)=true:=by simp[k3]
  rw[if_pos k3,hpf (by omega) (by omega)] at hd;simp only[cI.f0,cI.f2,cI.f4,fC,lk,lh4,lp,iB,q0,q1,q2,q,cE,reduceIte,cT,Nat.reduceAdd];refine aSj K4 HA wx.p hl1 (λhe h1 H1 u1=>?_) (λhe h1 F1 H1 s1=>?_)
  ·rw[if_neg he] at hd;obtain⟨F2,W2,s2⟩:=back _ h1 Fc H1 (iO.ext u1);exact fin W2 s2 hd
  ·rw[if_pos he] at hd;obtain⟨F2,W2,s2⟩:=back _ h1 F1 H1 s1;exact fin W2 s2 hd
 have q3:(x.kind==3)=false:=by simp[k3]
 rw[if_neg k3] at hd;by_cases k4:x.kind=4
 ·have q:(x.kind==4)=true:=by simp[k4]
  rw[if_pos k4,hpf (by omega) (by omega)] at hd;simp only[cI.f0,cI.f2,cI.f4,fC,lk,lh4,lp,iB,q0,q1,q2,q3,q,cE,reduceIte,cT,Nat.reduceAdd];refine aNQ K4 HA wx.p hl1 (λhe h1 H1 u1=>?_) (λhe h1 F1 H1 s1=>?_)
  ·rw[if_neg he] at hd;obtain⟨F2,W2,s2⟩:=back _ h1 Fc H1 (iO.ext u1);exact fin W2 s2 hd
  ·rw[if_pos he] at hd;obtain⟨F2,W2,s2⟩:=back _ h1 F1 H1 s1;exact fin W2 s2 hd
 have q4:(x.kind==4)=false:=by simp[k4]
 rw[if_neg k4] at hd;by_cases k5:x.kind=5
 ·have q:(x.kind==5)=true:=by simp[k5]
  rw[if_pos k5] at hd;simp only[cI.f0,fC,lk,iB,q0,q1,q2,q3,q4,q,cE,reduceIte,cT,Nat.reduceAdd];refine aTK K4 HA λh1 F1 H1 s1=>?_;obtain⟨F2,W2,s2⟩:=back _ h1 F1 H1 s1;exact fin W2 s2 hd
 ·have q:(x.kind==5)=false:=by simp[k5]
  rw[if_neg k5] at hd;obtain⟨F2,W2,s2⟩:=back _ h4 Fc HA iO.refl;simp only[cI.f0,fC,lk,iB,q0,q1,q2,q3,q4,q,cE,reduceIte,cT,Nat.reduceAdd];exact fin W2 s2 hd
theorem aPt{h:PH}(hK:mQ h){a b s0 s1:Nat}(ha:a<18446744073709551616)(hb:b<18446744073709551616)(hs0:s0<18446744073709551616)(hs1:s1<18446744073709551616)(z0:s0≠0)(z1:s1≠0){v:Value}{l:List jI}(S:fQ h 9 v (l.map jI.cells))(w:∀x∈l,x.wf)(hl:l.length≤50)(hd:∀x∈l,x.d.length≤2000){k:cD}
  (hk:∀h' c0 c1 m d0 d1 bk mm K A n F,aJT c0 c1 m d0 d1 bk mm K (aIf (Ch.new 0 a s0,Ch.new 1 b s1) l) A n h' F->dZ h F->dB h h'->aIm (aIf (Ch.new 0 a s0,Ch.new 1 b s1) l) l.length->k (.tuple #[arV c0 c1,pT m 0,.bool true]) h'):
  aT PG aAE #[vP a b,vP s0 s1,v] h k:=by
 apply vM.call;unfold vM;intro r1 hr1
 try rw[cY]
 have u1:dB h (h.set r1 (.cells (Value.cells (vP a b)) eK)):=cV.new hr1;have B1:Bx (h.set r1 (.cells (Value.cells (vP a b)) eK)) r1 (u2c a b):=Bx.new;generalize h.set r1 (.cells (Value.cells (vP a b)) eK)=h1 at *;intro r3 hr3
 try rw[cY]
 have u3:dB h1 (h1.set r3 (.cells (Value.cells (vP s0 s1)) eK)):=cV.new hr3;have B3:Bx (h1.set r3 (.cells (Value.cells (vP s0 s1)) eK)) r3 (u2c s0 s1):=Bx.new;generalize h1.set r3 (.cells (Value.cells (vP s0 s1)) eK)=h3 at *;intro r5 hr5
 try rw[cY]
 have u5:dB h3 (h3.set r5 (.cells (dN PG cX) cX)):=cV.new hr5;have B5:Bx (h3.set r5 (.cells (dN PG cX) cX)) r5 [.pointer none,.pointer none]:=cX.zbox;generalize h3.set r5 (.cells (dN PG cX) cX)=h5 at *;intro r7 hr7
 try rw[cY]
 have n57:r5≠r7:=B5.apart hr7;have u7:dB h5 (h5.set r7 (.cells (dN PG cX) cX)):=cV.new hr7;have B7:Bx (h5.set r7 (.cells (dN PG cX) cX)) r7 [.pointer none,.pointer none]:=cX.zbox;have B5:=B5.ext u7;generalize h5.set r7 (.cells (dN PG cX) cX)=h7 at *;have e17:=((u3.trans u5).trans u7);have e7:dB h h7:=u1.trans e17;have k5:h r5=none:=(u1.trans u3).none hr5;have k7:h r7=none:=((u1.trans u3).trans u5).none hr7;have C1:=B1.ext e17;have C3:=B3.ext (u5.trans u7);have la:∀{h'':PH},dB h7 h''->cG PG h'' (loadAt eK (pT r1 0))=some (vP a b):=λv=>eK.agg (C1.ext v) (by show 0+2≤2;decide);have ls:∀{h'':PH},dB h7 h''->cG PG h'' (loadAt eK (pT r3 0))=some (vP s0 s1):=λv=>eK.agg (C3.ext v) (by show 0+2≤2;decide);simp only[la cV.refl,ls cV.refl,cE,reduceIte,cT,Nat.reduceAdd];refine aYb λh8 bk mk Kk HBk fBk u8=>?_;refine⟨ls u8,la u8,?_⟩;have HBk:Bk bk mk [] Kk h8:=⟨false,[],HBk,λx hx=>hx⟩;refine aV2 HBk ha hb λh9 m d0 d1 FD HD fD u9=>?_;have e79:=u8.trans u9;have e9:=e7.trans e79;have fD9:dZ h FD:=λy hy=>by
  rcases fD y hy with hy|hy
  ·exact e7.none (fBk y hy)
  ·exact(e7.trans u8).none hy
 -- what stands behind i chains
 refine⟨λvs h'=>∃i:Nat,vs=[v,pT r1 0,pT r3 0,pT r5 0,pT r7 0,pT m 0,.int .i64 (i:Int)]∧cV [r7] h9 h'∧((i=0∧Bx h' r7 [.pointer none,.pointer none])∨(i=1∧∃c0 F0,Bx h' r7 [pT c0 0,.pointer none]∧iD c0 (Ch.new 0 a s0) h' F0∧dZ h9 F0)∨(i=2∧∃c0 c1 F,Bx h' r7 (arC c0 c1)∧nV c0 c1 (Ch.new 0 a s0,Ch.new 1 b s1) h' F∧dZ h9 F)),gP 2 6,⟨0,rfl,cV.refl,.inl ⟨rfl,B7.ext e79⟩⟩,?_⟩;rintro ρ h' ⟨i,hvs,u',hc⟩;simp only[iI,iU,kR,and_true] at hvs;obtain⟨v0,v1,v2,v3,v4,v5,v6⟩:=hvs;unfold aGm;rw[v0,v1,v2,v3,v4,v5,v6];have E':dB h h':=e9.fresh u' (dZ.one k7);have k79:h9 r7≠none:=(B7.ext e79).known;have n71:r7≠r1:=λe=>B1.known (e▸(u3.trans u5).none hr7);have n73:r7≠r3:=λe=>B3.known (e▸u5.none hr7);have D1:=(C1.ext e79).upd u' (by simp only[fW];exact n71.symm);have D3:=(C3.ext e79).upd u' (by simp only[fW];exact n73.symm);have D5:=(B5.ext e79).upd u' (by simp only[fW];exact n57);have i0:∀{r:Nat},dD PG (indexAt eK (pT r 0) (.int .i64 0))=some (pT r 0):=aPM (i:=0) (by decide);have i1:∀{r:Nat},dD PG (indexAt eK (pT r 0) (.int .i64 1))=some (pT r 1):=fun {r}=>by have:=aPM (r:=r) (o:=0) (i:=1) (by decide);rw[fC] at this;exact this
 have j0:∀{r:Nat},dD PG (indexAt cX (pT r 0) (.int .i64 0))=some (pT r 0):=aIl (i:=0) (by decide);have j1:∀{r:Nat},dD PG (indexAt cX (pT r 0) (.int .i64 1))=some (pT r 1):=fun {r}=>by have:=aIl (r:=r) (o:=0) (i:=1) (by decide);rw[fC] at this;exact this
 have l10:cG PG h' (loadAt cA (pT r1 0))=some (.int .u64 (a:Int)):=by rw[cA.load,D1.cell];rfl
 have l11:cG PG h' (loadAt cA (pT r1 1))=some (.int .u64 (b:Int)):=by rw[cA.load,D1.cell];rfl
 have l30:cG PG h' (loadAt cA (pT r3 0))=some (.int .u64 (s0:Int)):=by rw[cA.load,D3.cell];rfl
 have l31:cG PG h' (loadAt cA (pT r3 1))=some (.int .u64 (s1:Int)):=by rw[cA.load,D3.cell];rfl
 have nilN:∀{h'':PH} {x y:Operand} {c:Nat},cG PG h'' (kG .eql cU x y (pT c 0) (.pointer none))=some (.bool false):=aIJ cU.und;have K':mQ h':=hK.ext E';have nF:∀{F:List Nat},dZ h9 F->r7∉F:=λf hm=>k79 (f _ hm);have back:∀{F:List Nat},dZ h' F->dZ h9 F:=λf y hy=>by
  cases e:h9 y with
  | none=>rfl
  | some ob=>
   by_cases hy7:y=r7
   ·exact absurd (f y hy) (by rw[hy7];rcases hc with⟨-,B⟩|⟨-,_,_,B,-⟩|⟨-,_,_,_,B,-⟩<;>exact B.known)
   ·have:=u' y ob e (by simpa using hy7);rw[f y hy] at this;cases this
 rcases hc with⟨rfl,B⟩|⟨rfl,c0,F0,B,A0,f0⟩|⟨rfl,c0,c1,F,B,T,f⟩
 ·have g:(((0:Nat):Int)<2)=True:=eq_true (by decide);simp only[g,show((0:Nat):Int)=0 from rfl,i0,l10,l30,cE,reduceIte,cT,Nat.reduceAdd];refine aQE K' 0 ha hs0 (λhb=>absurd hb (by omega)) λ_ h10 c F A f u10=>?_;have f:=back f;simp only[j0,cE,reduceIte,cT,Nat.reduceAdd];refine cU.put (B.ext u10) (o:=0) (by show 0<2;decide) rfl λh11 B11 u11=>?_;have ei:IntKind.i64.wrap ((0:Int)+1)=((1:Nat):Int):=rfl;have lq:cG PG h11 (loadAt cU (pT r7 0))=some (pT c 0):=by rw[cU.load,B11.cell];rfl
  simp only[j0,lq,nilN,cE,reduceIte,cT,Nat.reduceAdd];simp only[ei,cE,reduceIte,cT,Nat.reduceAdd];exact⟨⟨1,rfl,(u'.trans u10.upd).trans u11,.inr (.inl ⟨rfl,c,F,B11,(iD.good _ _).upd A u11 (λb hb=>by simp only[fW];rintro rfl;exact nF f hb),f⟩)⟩,by simp[gP,v6]⟩
 ·have g:(((1:Nat):Int)<2)=True:=eq_true (by decide);simp only[g,show((1:Nat):Int)=1 from rfl,i1,l11,l31,cE,reduceIte,cT,Nat.reduceAdd];refine aQE K' 1 hb hs1 (λhb=>absurd hb (by omega)) λ_ h10 c F A f u10=>?_;have d0:∀b∈F0,b∉F:=λb hb hm=>(iD.good _ _).known A0 b hb (f b hm);have f:=back f;simp only[j1,cE,reduceIte,cT,Nat.reduceAdd];refine cU.put (B.ext u10) (o:=1) (by show 1<2;decide) rfl λh11 B11 u11=>?_;have ei:IntKind.i64.wrap ((1:Int)+1)=((2:Nat):Int):=rfl;have lq:cG PG h11 (loadAt cU (pT r7 1))=some (pT c 0):=by rw[cU.load,B11.cell];rfl
  simp only[j1,lq,nilN,cE,reduceIte,cT,Nat.reduceAdd];simp only[ei,cE,reduceIte,cT,Nat.reduceAdd];have A08:=(iD.good _ _).upd ((iD.good _ _).ext A0 u10) u11 (λb hb=>by simp only[fW];rintro rfl;exact nF f0 hb);have A8:=(iD.good _ _).upd A u11 (λb hb=>by simp only[fW];rintro rfl;exact nF f hb);exact⟨⟨2,rfl,(u'.trans u10.upd).trans u11,.inr (.inr ⟨rfl,c0,c,F0++F,B11,eH.mk A08 A8 d0,λy hy=>by
   rcases jB.1 hy with hy|hy
   ·exact f0 y hy
   ·exact f y hy⟩)⟩,by simp[gP,v6]⟩
 ·have g:(((2:Nat):Int)<2)=False:=eq_false (by decide);simp only[g,cE,reduceIte,cT,Nat.reduceAdd];have gD:lW (DTw m d0 d1 bk mk [] Kk (Ch.new 0 a s0) (Ch.new 1 b s1) 1):=DTw.good _ _ _ _ _ _ _ _ _ _;have f7:∀y∈FD,y≠r7:=λy hy e=>by
   rcases fD y hy with hy|hy
   ·exact B7.known (e▸fBk y hy)
   ·exact(B7.ext u8).known (e▸hy)
  have HD':=gD.upd HD u' (λy hy hm=>by simp only[fW] at hm;exact f7 y hy hm);have W0:aJT c0 c1 m d0 d1 bk mk Kk (Ch.new 0 a s0,Ch.new 1 b s1) [] 1 h' (F++FD):=eH.mk T HD' (λy hy hm=>gD.known HD y hm (f y hy));have N0:Now h h' (F++FD):=⟨E',λy hy=>by
   rcases jB.1 hy with hy|hy
   ·exact e9.none (f y hy)
   ·exact fD9 y hy⟩
  have n7:r7∉F++FD:=λhm=>by
   rcases jB.1 hm with hm|hm
   ·exact nF f hm
   ·exact f7 _ hm rfl
  have n5:r5∉F++FD:=λhm=>by
   rcases jB.1 hm with hm|hm
   ·exact(B5.ext e79).known (f _ hm)
   ·rcases fD _ hm with hy|hy
    ·exact B5.known (fBk _ hy)
    ·exact(B5.ext u8).known hy
  refine⟨λvs h2=>∃(j:Nat) (A:List Tx) (n:Nat) (F':List Nat),j≤l.length∧vs=[v,pT r5 0,pT r7 0,pT m 0,.int .i64 (j:Int)]∧n≤j+1∧Now h h2 F'∧aJT c0 c1 m d0 d1 bk mk Kk (aIf (Ch.new 0 a s0,Ch.new 1 b s1) (l.take j)) A n h2 F'∧aIm (aIf (Ch.new 0 a s0,Ch.new 1 b s1) (l.take j)) j∧Bx h2 r7 (arC c0 c1)∧r7∉F'∧Bx h2 r5 [.pointer none,.pointer none]∧r5∉F',gP l.length 4,⟨0,[],1,F++FD,by omega,rfl,by omega,N0,W0,aIm.new hs0 hs1,B,n7,D5,n5⟩,?_⟩;rintro ρ2 h2 ⟨j,A,n,F',hj,hvs2,hn,N,W,M,X7,m7,X5,m5⟩;simp only[iI,iU,kR,and_true] at hvs2;obtain⟨w0,w1,w2,w3,w4⟩:=hvs2;rw[w0,w1,w2,w3,w4];by_cases hlt:j<l.length
  ·have hx:l[j]? =some l[j]:=mB hlt;have hm:=qB hx;refine aXh hK N W M hn X7 m7 S hl hx (w _ hm) (hd _ hm) λh3 F3 A3 W3 s3=>?_;obtain⟨Y7,m7'⟩:=aAD X7 m7 s3;obtain⟨Y5,m5'⟩:=aAD X5 m5 s3;have er:aIf (Ch.new 0 a s0,Ch.new 1 b s1) (l.take (j+1))=aGw (aIf (Ch.new 0 a s0,Ch.new 1 b s1) (l.take j)) l[j]:=by
    rw[zLT,hx];exact aUC _ _ _
   exact⟨⟨j+1,A3,n+1,F3,by omega,rfl,by omega,N.step s3,by rw[er];exact W3,by rw[er];exact M.act (w _ hm),Y7,m7',Y5,m5'⟩,by simp[gP,w4];omega⟩
  ·unfold zH;have g2:((j:Int)<(l.length:Int))=False:=eq_false (by omega);have lc:cG PG h2 (loadAt cX (pT r7 0))=some (arV c0 c1):=cX.agg X7 (by show 0+2≤2;decide);simp only[aPS S,g2,lc,cE,reduceIte,cT,Nat.reduceAdd];refine cX.put (vs:=arC c0 c1) X5 (o:=0) rfl (by show 0+2≤2;decide) (aPI c0 c1) λh3 X3 u3=>?_;have l3:cG PG h3 (loadAt cX (pT r5 0))=some (arV c0 c1):=cX.agg X3 (by show 0+2≤2;decide);simp only[l3,cE,reduceIte,cT,Nat.reduceAdd];have ej:l.take j=l:=nU (by omega);have ejl:j=l.length:=by omega
   rw[ej] at W M;rw[ejl] at M;refine hk h3 c0 c1 m d0 d1 bk mk Kk A n F' ((aJT.good _ _ _ _ _ _ _ _ _ _ _).upd W u3 (λy hy hm=>by simp only[fW] at hm;exact m5 (hm▸hy))) N.fr (N.ext.fresh u3 (dZ.one k5)) M
theorem b55:dD PG (build eK #[(0,(Value.int IntKind.u64 5)),(1,(Value.int IntKind.u64 5))])=some (vP 5 5):=by kernel_rfl
theorem b11:dD PG (build eK #[(0,(Value.int IntKind.u64 1)),(1,(Value.int IntKind.u64 1))])=some (vP 1 1):=by kernel_rfl
theorem bAj:dD PG (build cI #[(2,(Value.int IntKind.u64 9))])=some y1.v:=by kernel_rfl
theorem bAu:dD PG (build cI #[(0,(Value.int IntKind.i64 5))])=some y2.v:=by kernel_rfl
theorem aVh(x y:jI):jP PG (buildSlice iM 2 #[(0,x.v),(1,y.v)])=some (.cells (x.cells++y.cells).toArray cI,λr=>pure (.slice (some ⟨r,0,none⟩) 2 2)):=by kernel_rfl
theorem bAW:dD PG (build aR #[(1,(Value.int IntKind.u64 1)),(2,(Value.int IntKind.u64 9))])=some yp.v:=by kernel_rfl
theorem bAt:dD PG (build fE #[(1,(Value.int IntKind.i64 1)),(0,yp.v)])=some (It.val ⟨yp,1⟩):=by kernel_rfl
theorem aUu(x:It):jP PG (buildSlice lB 1 #[(0,x.val)])=some (.cells x.cells.toArray fE,λr=>pure (.slice (some ⟨r,0,none⟩) 1 1)):=by kernel_rfl
theorem aZT:dD PG (build cH #[(0,(Value.int IntKind.i64 1)),(1,(Value.int IntKind.i64 1)),(2,(Value.int IntKind.u64 6))])=some (nE 1 6).v:=by kernel_rfl
theorem aPK{r j:Nat}(hj:j<2):dD PG (indexAt dX (pT r 0) (.int .i64 (j:Int)))=some (pT r j):=by
 have ix:=sH (P:=PG) (t:=dX) (b:=r) (o:=0) (k:=.i64) (j:=(j:Int)) dX.und dG.info dG.size (by omega) (by omega);rw[ix,pK,fC,zL7]
theorem aTr{hs:List Int}(R:qU hs []):hs=[]:=by
 have:=R.len;simpa using this
theorem slc{h:PH}{e:TypeId}{n:Nat}{v:Value}{rows:List (List Value)}{G:List Nat}(O:eD h e n v rows G):fO v=true:=by
 obtain⟨a,m,c,rfl⟩:=slv O;rfl
theorem aS3{h:PH}{v:Value}{l:List fU}{G:List Nat}(O:eD h cH 8 v (l.map fU.cells) G){t':TypeId}:dD PG (Builtin.len_ #[dG] t' #[v])=some (.int .i64 (l.length:Int)):=by
 have:=O.slR.len (t':=t') dG.und;rw[iV] at this;exact this
theorem aTY{h:PH}(hK:mQ h){k:cD}(hk:∀h',dB h h'->k (.bool true) h'):aT PG aDC #[] h k:=by
 apply aBd.call;unfold aBd;simp only[b55,b11,bAj,bAu,aVh,cE,reduceIte,cT,Nat.reduceAdd];intro r5 hr5;refine fH ?_
 try rw[cY]
 have u1:dB h (h.set r5 (.cells (y1.cells++y2.cells).toArray cI)):=cV.new hr5;have S1:fQ (h.set r5 (.cells (y1.cells++y2.cells).toArray cI)) 9 (.slice (some ⟨r5,0,none⟩) 2 2) ([y1,y2].map jI.cells):=(eD.lit (n:=2) (jI.rows _) dK (by simp) (by decide) (by simp)).slR;generalize h.set r5 (.cells (y1.cells++y2.cells).toArray cI)=h1 at *;refine aPt (a:=5) (b:=5) (s0:=1) (s1:=1) (hK.ext u1) (by decide) (by decide) (by decide) (by decide) (by decide) (by decide) S1 (λx hx=>?_) (by decide) (λx hx=>?_) λh2 c0 c1 m d0 d1 bk mm K A n F W f2 u2 M=>?_
 ·simp only[gE,kD,or_false] at hx;rcases hx with rfl|rfl<;>exact⟨by decide,⟨by decide,by decide,by decide,by decide⟩⟩
 ·simp only[gE,kD,or_false] at hx;rcases hx with rfl|rfl<;>decide
 have er:aIf (Ch.new 0 5 1,Ch.new 1 5 1) [y1,y2]=(ya2,yb):=bAM;rw[er] at W M;have e2:=u1.trans u2;have K2:=hK.ext e2;simp only[cE,reduceIte,cT,Nat.reduceAdd];intro r14 hr14
 try rw[cY]
 refine cX.fill (vs:=arC c0 c1) hr14 rfl (aPI c0 c1) λh3 B3 u3=>?_;simp only[bAW,bAt,aUu,cE,reduceIte,cT,Nat.reduceAdd];intro r21 hr21;refine fH ?_
 try rw[cY]
 have u4:dB h3 (h3.set r21 (.cells (It.cells ⟨yp,1⟩).toArray fE)):=cV.new hr21;have S4:fQ (h3.set r21 (.cells (It.cells ⟨yp,1⟩).toArray fE)) 5 (.slice (some ⟨r21,0,none⟩) 1 1) ([(⟨yp,1⟩:It)].map It.cells):=(eD.lit (n:=1) (It.rows _) dK (by simp) (by decide) (by simp)).slR;generalize h3.set r21 (.cells (It.cells ⟨yp,1⟩).toArray fE)=h4 at *;have lc:cG PG h4 (loadAt cX (pT r14 0))=some (arV c0 c1):=cX.agg (B3.ext u4) (by show 0+2≤2;decide);have e24:=u3.trans u4;obtain⟨Fa,HT,-,-⟩:=eH.left (DTw.good _ _ _ _ _ _ _ _ _ _) W;simp only[lc,cE,reduceIte,cT,Nat.reduceAdd];refine aS8 (K2.ext e24) ((nV.good _ _ _).ext HT e24) S4 (λi hi=>?_) (by decide) 9 λh5 hs0 hs1 v0 v1 G0 G1 R0 R1 O0 O1 _ _ u5=>?_
 ·simp only[fW] at hi;subst hi;exact⟨by decide,by decide,by decide,by decide⟩
 have p0:oK (ya2,yb) hs0 9 ([(⟨yp,1⟩:It)].map It.p) 0=([],false):=aYB hs0;have p1:oK (ya2,yb) hs1 9 ([(⟨yp,1⟩:It)].map It.p) 1=([nE 1 6,ym],false):=aX3 (aTr R1);rw[p0] at O0;rw[p1] at O1;intro r28 hr28
 try rw[cY]
 refine dX.fill (vs:=[v0,v1]) hr28 rfl (λu hu=>by
  simp only[gE,kD,or_false] at hu;rcases hu with rfl|rfl
  ·exact slc O0
  ·exact slc O1) λh6 B6 u6=>?_
 have S6:=(O1.ext u6).slR;have t0:dD PG (indexAt dX (pT r28 0) (.int .i64 0))=some (pT r28 0):=aPK (j:=0) (by decide);have t1:dD PG (indexAt dX (pT r28 0) (.int .i64 1))=some (pT r28 1):=aPK (j:=1) (by decide);have l0:cG PG h6 (loadAt dG (pT r28 0))=some v0:=by rw[dG.load,B6.cell];rfl
 have l1:cG PG h6 (loadAt dG (pT r28 1))=some v1:=by rw[dG.load,B6.cell];rfl
 obtain⟨a0,i0,j0⟩:=S6.msg (k:=.i64) (j:=0) (m:=nE 1 6) (by decide) rfl;obtain⟨b,o,q1,q2,-⟩:=S6.fields dG.und cH.info cH.size (k:=.i64) (j:=1) (r:=ym.cells) rfl;have f0:cG PG h6 (loadAt bT (pT b o))=some (.int .i64 2):=by rw[bT.load];exact q2 0 _ rfl
 have q1:dD PG (indexAt dG v1 (.int .i64 1))=some (pT b o):=q1;have e0:=λx y=>fU.eql (h:=h6) (x:=x) (y:=y) (nE 1 6) (nE 1 6);have dd:decide (nE 1 6=nE 1 6)=true:=decide_eq_true rfl;have z0:(((([]:List fU).length:Nat):Int)==0)=true:=rfl;have z1:((([nE 1 6,ym].length:Nat):Int)==2)=true:=rfl;have z2:((2:Int)==2)=true:=rfl;rw[dd] at e0;have mv:(nE 1 6).v= .agg (nE 1 6).cells.toArray:=rfl;simp only[t0,t1,l0,l1,aS3 O0,aS3 O1,iB,z0,z1,z2,i0,j0,aZT,mv,e0,q1,cH.f0,f0,cE,reduceIte,cT,Nat.reduceAdd];exact hk h6 ((e2.trans e24).trans (u5.trans u6))
theorem aWb{h:PH}{s0 s1:Nat}{v:Value}{l:List jI}(S:fQ h 9 v (l.map jI.cells)){x:Value}{li:List It}(S2:fQ h 5 x (li.map It.cells)){k:cD}(hk:∀h' b,(b=true->s0≠0∧s1≠0∧l.length≤50∧li.length≤60∧∀x∈l,x.d.length≤2000)->dB h h'->k (.bool b) h'):aT PG aEP #[vP s0 s1,v,x] h k:=by
 apply xE.call;unfold xE;intro r1 hr1
 try rw[cY]
 have u1:dB h (h.set r1 (.cells (Value.cells (vP s0 s1)) eK)):=cV.new hr1;have B1:Bx (h.set r1 (.cells (Value.cells (vP s0 s1)) eK)) r1 (u2c s0 s1):=Bx.new;generalize h.set r1 (.cells (Value.cells (vP s0 s1)) eK)=h1 at *;have i0:dD PG (indexAt eK (pT r1 0) (.int .i64 0))=some (pT r1 0):=aPM (i:=0) (by decide);have i1:dD PG (indexAt eK (pT r1 0) (.int .i64 1))=some (pT r1 1):=by have:=aPM (r:=r1) (o:=0) (i:=1) (by decide);rw[fC] at this;exact this
 have l0:cG PG h1 (loadAt cA (pT r1 0))=some (.int .u64 (s0:Int)):=by rw[cA.load,B1.cell];rfl
 have l1:cG PG h1 (loadAt cA (pT r1 1))=some (.int .u64 (s1:Int)):=by rw[cA.load,B1.cell];rfl
 have ll:=aPS S;have no:k (.bool false) h1:=hk h1 false (λe=>by cases e) u1;by_cases z0:s0=0
 ·have q:((s0:Int)==0)=true:=by rw[z0];rfl
  simp only[i0,l0,iB,q,cE,reduceIte,cT,Nat.reduceAdd];exact no
 have q0:((s0:Int)==0)=false:=by rw[beq_eq_false_iff_ne];omega
 by_cases z1:s1=0
 ·have q:((s1:Int)==0)=true:=by rw[z1];rfl
  simp only[i0,l0,i1,l1,iB,q0,q,cE,reduceIte,cT,Nat.reduceAdd];exact no
 have q1:((s1:Int)==0)=false:=by rw[beq_eq_false_iff_ne];omega
 by_cases z2:50<l.length
 ·have g:((50:Int)<(l.length:Int))=True:=eq_true (by omega);simp only[i0,l0,i1,l1,iB,q0,q1,ll,g,cE,reduceIte,cT,Nat.reduceAdd];exact no
 have g:((50:Int)<(l.length:Int))=False:=eq_false (by omega);have li2:dD PG (Builtin.len_ #[lB] bT #[x])=some (.int .i64 (li.length:Int)):=by
  have:=S2.len (t':=bT) lB.und;rw[iV] at this;exact this
 by_cases z3:60<li.length
 ·have g3:((60:Int)<(li.length:Int))=True:=eq_true (by omega);simp only[i0,l0,i1,l1,iB,q0,q1,ll,g,li2,g3,cE,reduceIte,cT,Nat.reduceAdd];exact no
 have g3:((60:Int)<(li.length:Int))=False:=eq_false (by omega);simp only[i0,l0,i1,l1,iB,q0,q1,ll,g,li2,g3,cE,reduceIte,cT,Nat.reduceAdd];refine⟨λvs h'=>∃i:Nat,i≤l.length∧vs=[v,x,.int .i64 (i:Int)]∧h'=h1∧∀x∈l.take i,x.d.length≤2000,gP l.length 2,⟨0,by omega,rfl,rfl,by simp⟩,?_⟩;rintro ρ h' ⟨i,hi,hvs,rfl,hall⟩;simp only[iI,iU,kR,and_true] at hvs;obtain⟨v0,v1,v2⟩:=hvs;unfold aHD;rw[v0,v1,v2];by_cases hlt:i<l.length
 ·have g1:((i:Int)<(l.length:Int))=True:=eq_true (by omega);have gi:=pY (i:=i) (by omega);obtain⟨y,hx⟩:∃y,l[i]? =some y:=⟨_,mB hlt⟩;obtain⟨b,o,a1,a2,a3,-⟩:=(S.ext u1).tac hx;have ld:dD PG (Builtin.len_ #[bR] bT #[.string (tx y.d)])=some (.int .i64 (y.d.length:Int)):=by rw[lX bR.und,hZ]
  have lp:dD PG (Builtin.len_ #[bR] bT #[.string y.p.d])=some (.int .i64 (y.p.d.size:Int)):=lX bR.und;by_cases y1:2000<y.d.length
  ·have g2:((2000:Int)<(y.d.length:Int))=True:=eq_true (by omega);simp only[ll,g1,a1,cI.f3,bR.load,a2,ld,g2,cE,reduceIte,cT,Nat.reduceAdd];exact no
  have g2:((2000:Int)<(y.d.length:Int))=False:=eq_false (by omega);by_cases y2:300<y.p.d.size
  ·have g3:((300:Int)<(y.p.d.size:Int))=True:=eq_true (by omega);simp only[ll,g1,a1,cI.f3,cI.f4,aR.f3,Nat.add_assoc,Nat.reduceAdd,bR.load,a2,a3,ld,lp,g2,g3,cE,reduceIte,cT,Nat.reduceAdd];exact no
  have g3:((300:Int)<(y.p.d.size:Int))=False:=eq_false (by omega);simp only[ll,g1,a1,cI.f3,cI.f4,aR.f3,Nat.add_assoc,Nat.reduceAdd,bR.load,a2,a3,ld,lp,g2,g3,gi,cE,reduceIte,cT,Nat.reduceAdd];refine⟨⟨i+1,by omega,rfl,by first|rfl|trivial,λz hz=>?_⟩,by simp[gP,v2];omega⟩;rw[zLT,hx] at hz;rcases jB.1 hz with hz|hz
  ·exact hall z hz
  ·simp only[Option.toList_some,fW] at hz;subst hz;omega
 ·have g1:((i:Int)<(l.length:Int))=False:=eq_false (by omega);simp only[ll,g1,cE,reduceIte,cT,Nat.reduceAdd];rw[nU (by omega)] at hall;refine⟨λvs hh=>∃j:Nat,j≤li.length∧vs=[x,.int .i64 (j:Int)]∧hh=h',gP li.length 1,⟨0,by omega,rfl,rfl⟩,?_⟩;rintro ρ2 h2 ⟨j,hj,hvs2,rfl⟩;simp only[iI,iU,kR,and_true] at hvs2;obtain⟨w0,w1⟩:=hvs2;unfold aHC;rw[w0,w1];by_cases hlt2:j<li.length
  ·have g4:((j:Int)<(li.length:Int))=True:=eq_true (by omega);have gj:=pY (i:=j) (by omega);obtain⟨b,o,a1,a2,-⟩:=(S2.ext u1).fields lB.und fE.info fE.size (k:=.i64) (j:=j) (r:=li[j].cells) (by rw[wL,mB hlt2];rfl);have c3:cG PG h2 (loadAt bR (pT b (o+3)))=some (.string li[j].p.d):=by rw[bR.load];exact a2 3 _ rfl
   have lp:dD PG (Builtin.len_ #[bR] bT #[.string li[j].p.d])=some (.int .i64 (li[j].p.d.size:Int)):=lX bR.und;by_cases y2:300<li[j].p.d.size
   ·have g5:((300:Int)<(li[j].p.d.size:Int))=True:=eq_true (by omega);simp only[li2,g4,a1,fE.f0,aR.f3,c3,lp,g5,cE,reduceIte,cT,Nat.reduceAdd];exact no
   ·have g5:((300:Int)<(li[j].p.d.size:Int))=False:=eq_false (by omega);simp only[li2,g4,a1,fE.f0,aR.f3,c3,lp,g5,gj,cE,reduceIte,cT,Nat.reduceAdd];exact⟨⟨j+1,by omega,rfl,by first|rfl|trivial⟩,by simp[gP,w1];omega⟩
  ·have g4:((j:Int)<(li.length:Int))=False:=eq_false (by omega);simp only[li2,g4,cE,reduceIte,cT,Nat.reduceAdd];exact hk _ true (λ_=>⟨z0,z1,by omega,by omega,hall⟩) u1
theorem aZp(b:ByteArray):tx b.data.toList=b:=aHu b
theorem aTX{h:PH}{c0 c1:Nat}{s:Ch×Ch}{F:List Nat}(hK:mQ h)(h0F:0∉F)(W:nV c0 c1 s h F){m:fU}(hd:m.dest=0∨m.dest=1)(k1:1≤m.kind)(k4:m.kind≤4)(h0:0≤m.height)(h64:m.height<18446744073709551616)(w:m.pk.wf)(l0:s.1.nts.length<1000000)(l1:s.2.nts.length<1000000){kk:cD}
  (hk:∀h' F',nV c0 c1 (aEN s m) h' F'->iO h F h' F'->kk (.int .i64 (aIj s.1 s.2 m)) h'):
  aT PG aAu #[m.v,arV c0 c1] h kk:=by
 apply aF2.call;unfold aF2;intro r1 hr1
 try rw[cY]
 have u1:dB h (h.set r1 (.cells (Value.cells m.v) cH)):=cV.new hr1;have B1:Bx (h.set r1 (.cells (Value.cells m.v) cH)) r1 m.cells:=Bx.new;generalize h.set r1 (.cells (Value.cells m.v) cH)=h1 at *;intro r3 hr3
 try rw[cY]
 have u3:dB h1 (h1.set r3 (.cells (Value.cells (arV c0 c1)) cX)):=cV.new hr3;have B3:Bx (h1.set r3 (.cells (Value.cells (arV c0 c1)) cX)) r3 (arC c0 c1):=Bx.new;have B1:=B1.ext u3;generalize h1.set r3 (.cells (Value.cells (arV c0 c1)) cX)=h3 at *;have e3:=u1.trans u3;obtain⟨j,hj,hj2⟩:∃j:Nat,m.dest=(j:Int)∧j<2:=by rcases hd with h|h;exact⟨0,h,by decide⟩;exact⟨1,h,by decide⟩
 have ej:lH (lP m).id=j:=by
  show lH m.dest=j;rw[hj];have:j=0∨j=1:=by omega
  rcases this with rfl|rfl<;>rfl
 have lt:∀{h':PH},dB h3 h'->cG PG h' (loadAt bT (pT r1 1))=some (.int .i64 (j:Int)):=λu=>by rw[bT.load,(B1.ext u).cell,←hj];rfl
 have lc:∀{h':PH},dB h3 h'->cG PG h' (loadAt cU (pT r3 j))=some (pT (aBI c0 c1 j) 0):=λu=>by rw[cU.load,(B3.ext u).cell,aKk c0 c1 hj2]
 have lo:∀{h':PH},dB h3 h'->cG PG h' (loadAt cU (pT r3 (1-j)))=some (.pointer (some ⟨aBI c0 c1 (1-j),0,none⟩)):=λu=>by rw[cU.load,(B3.ext u).cell,aKk c0 c1 (by omega)]
 have w1:IntKind.i64.wrap (1-(j:Int))=((1-j:Nat):Int):=by rw[eX (by omega) (by omega)];omega
 have ix1:=aIl (r:=r3) (o:=0) hj2;have ix2:=aIl (r:=r3) (o:=0) (i:=1-j) (by omega);rw[fC] at ix1 ix2;have d0:((j:Int)<0)=False:=eq_false (by omega);have d1:((1:Int)<(j:Int))=False:=eq_false (by omega);simp only[cH.f1,lt cV.refl,d0,d1,ix1,lc cV.refl,cE,reduceIte,cT,Nat.reduceAdd];intro r25 hr25
 try rw[cY]
 refine cU.fill hr25 rfl λh5 B25 u5=>?_;simp only[aFC,cE,reduceIte,cT,Nat.reduceAdd];intro r29 hr29;refine fH ?_
 try rw[cY]
 have u6:dB h5 (h5.set r29 (.map #[] 0)):=cV.new hr29;have M0:jX aFe (h5.set r29 (.map #[] 0)) r29 []:=jX.new;generalize h5.set r29 (.map #[] 0)=h6 at *;have n29:h3 r29=none:=u5.none hr29;have ek:∀i:Int,Value.int IntKind.i64 i=aFe i:=λ_=>rfl;rw[ek 1];refine aGe (aIM bT.und) gG.und M0 1 _ λh7 M1 v7=>?_;rw[ek 2];refine aGe (aIM bT.und) gG.und M1 2 _ λh8 M2 v8=>?_;rw[ek 3];refine aGe (aIM bT.und) gG.und M2 3 _ λh9 M3 v9=>?_;rw[ek 4];refine aGe (aIM bT.und) gG.und M3 4 _ λh10 M4 v10=>?_;have e310:dB h3 h10:=((((u5.trans u6).fresh v7 (dZ.one n29)).fresh v8 (dZ.one n29)).fresh v9 (dZ.one n29)).fresh v10 (dZ.one n29);have n2529:r25≠r29:=λe=>B25.known (e▸hr29);have B25:Bx h10 r25 [pT (aBI c0 c1 j) 0]:=((((B25.ext u6).upd v7 (by simpa using n2529)).upd v8 (by simpa using n2529)).upd v9 (by simpa using n2529)).upd v10 (by simpa using n2529);have e10:=e3.trans e310;have lkk:cG PG h10 (loadAt bT (pT r1 0))=some (aFe m.kind):=by rw[bT.load,(B1.ext e310).cell];rfl
 obtain⟨Wc,gW,e2,hW,get⟩:=aQF c0 c1 s (lP m);rw[ej] at gW e2 hW get;have W10:=(nV.good _ _ _).ext W e10;obtain⟨⟨Fc,HA,hFc,back⟩,Fo,HO⟩:=get W10;have h0a:0∉Fc:=λhm=>h0F (hFc _ hm);have K10:=hK.ext e10;obtain⟨n,hn⟩:=zLn h0;have hnat:m.height.toNat=n:=by omega
 have eh:(((lP m).h:Nat):Int)=m.height:=by show((m.height.toNat:Nat):Int)=_;omega
 have hl1:(lV s j).nts.length<1000000:=by unfold lV;split<;>assumption
 have lcc:cG PG h10 (loadAt cU (pT r25 0))=some (pT (aBI c0 c1 j) 0):=by rw[cU.load,B25.cell];rfl
 have lh:∀{h':PH},dB h10 h'->cG PG h' (loadAt cA (pT r1 2))=some (.int .u64 m.height):=λu=>by rw[cA.load,((B1.ext e310).ext u).cell];rfl
 have lp:cG PG h10 (loadAt aR (pT r1 3))=some m.pk.v:=(B1.ext e310).pk rfl;have ls:cG PG h10 (loadAt bR (pT r1 7))=some (.string (tx m.proof.data.toList)):=by rw[bR.load,(B1.ext e310).cell,aZp];rfl
 -- behind the call
 have fin:∀{h5:PH} {F5:List Nat} {q:Ch×(Pk×Nat×Int)},Wc (iD (aBI c0 c1 j) q.1) h5 F5->iO h10 F h5 F5->jD (lV s j) (lV s (1-j)) (lP m)=q->kk (.int .i64 q.2.2.2) h5:=fun {h5 F5 q} H5 s5 ed=>by
  rw[←ed] at H5;have T5:=hW H5;have:=hk h5 F5 T5 ((iO.ext e10).trans s5);unfold aIj at this;rw[←e2,ed] at this;exact this
 have kc:m.kind=1∨m.kind=2∨m.kind=3∨m.kind=4:=by omega
 have fn:∀{f:FuncId} {cap args:Array Value} {h:PH} {k:cD},aT PG f (#[]++args++cap) h k->vZ PG (.func (.func f) #[] cap) args h k:=λh=>h;rcases kc with e|e|e|e
 ·have lk':cG PG h10 (loadAt bT (pT r1 0))=some (aFe 1):=by rw[lkk,e]
  have hl:cG PG h10 (Instr.lookup gG (.map (some r29)) (aFe 1) true)=some (.tuple #[.func (.func aBv) #[] #[pT r3 0,pT r1 0,pT r25 0],.bool true]):=by
   rw[aBl (aIM bT.und) gG.und mN.info mN.zero M4 1 true];rfl
  simp only[cH.f0,lk',hl,cE,reduceIte,cT,Nat.reduceAdd];refine fn ?_;show aT PG aBv #[pT r3 0,pT r1 0,pT r25 0] h10 _;apply yZ.call;unfold yZ;obtain⟨sp,m',cp,nv,bv,lk2,P,perm,ok⟩:=HO;obtain⟨Fs,St,-,-⟩:=P.fSt;have lh0:=lh cV.refl;rw[←eh] at lh0;simp only[cH.f1,cH.f2,lt e310,w1,ix2,lo e310,dV.f0,eS.f0,fC,Ch.load0 P.cell,lh0,cE,reduceIte,cT,Nat.reduceAdd];have hdo:jD (lV s j) (lV s (1-j)) (lP m)=(match mR (lV s (1-j)).st (lP m).h with
    | none=>(lV s j,(default,0,3))
    | some b=>((lV s j).told ((lP m).h:Int) (kE b),(default,0,(sF (lV s j).cl ⟨((lP m).h:Int),tx (kE b)⟩).1))):=by
   unfold jD;rw[if_neg (show ¬(lP m).kind=0 from(by show ¬m.kind=0;omega)),if_pos (show(lP m).kind=1 from e)];rfl
  refine aPv St (lP m).h (by show m.height.toNat<_;omega) (λe5 h11 u11=>?_) (λb h11 e5 u11=>?_)
  ·rw[e5] at hdo;have qe:((3:Int) !=0)=true:=by decide
   simp only[kI,qe,cE,reduceIte,cT,Nat.reduceAdd];obtain⟨F2,W2,s2⟩:=back _ h11 Fc ((iD.good _ _).ext HA u11) (iO.ext u11);exact fin W2 s2 hdo
  ·rw[e5] at hdo;have qe:((0:Int) !=0)=false:=by decide
   have l11:cG PG h11 (loadAt cU (pT r25 0))=some (pT (aBI c0 c1 j) 0):=by rw[cU.load,(B25.ext u11).cell];rfl
   have lh1:=lh u11;rw[←eh] at lh1;simp only[kI,qe,l11,cH.f2,fC,lh1,cE,reduceIte,cT,Nat.reduceAdd];refine aOh ((iD.good _ _).ext HA u11) ((lP m).h:Int) (kE b) λh12 F2 H2 s2=>?_;obtain⟨F3,W3,s3⟩:=back _ h12 F2 H2 ((iO.ext u11).trans s2);exact fin W3 s3 hdo
 ·have lk':cG PG h10 (loadAt bT (pT r1 0))=some (aFe 2):=by rw[lkk,e]
  have hl:cG PG h10 (Instr.lookup gG (.map (some r29)) (aFe 2) true)=some (.tuple #[.func (.func aB2) #[] #[pT r25 0,pT r1 0],.bool true]):=by
   rw[aBl (aIM bT.und) gG.und mN.info mN.zero M4 2 true];rfl
  simp only[cH.f0,lk',hl,cE,reduceIte,cT,Nat.reduceAdd];refine fn ?_;show aT PG aB2 #[pT r25 0,pT r1 0] h10 _;apply aEX.call;unfold aEX;have hdo:jD (lV s j) (lV s (1-j)) (lP m)=if pF (lV s j) (qM (lV s j) m.pk m.proof.data.toList ((lP m).h:Int))=0 then((lV s j).received m.pk,(default,0,0)) else(lV s j,(default,0,pF (lV s j) (qM (lV s j) m.pk m.proof.data.toList ((lP m).h:Int)))):=by
   unfold jD;rw[if_neg (show ¬(lP m).kind=0 from(by show ¬m.kind=0;omega)),if_neg (show ¬(lP m).kind=1 from(by show ¬m.kind=1;omega)),if_pos (show(lP m).kind=2 from e)];rfl
  have lh0:=lh cV.refl;rw[←eh] at lh0;simp only[cH.f2,cH.f3,cH.f4,fC,lcc,lp,ls,lh0,cE,reduceIte,cT,Nat.reduceAdd];refine aQz K10 HA h0a w (x:=((lP m).h:Int)) hl1 (λhe h11 H1 u11=>?_) (λhe h11 F1 H1 s1=>?_)
  ·rw[if_neg he] at hdo;obtain⟨F2,W2,s2⟩:=back _ h11 Fc H1 (iO.ext u11);exact fin W2 s2 hdo
  ·rw[if_pos he] at hdo;obtain⟨F2,W2,s2⟩:=back _ h11 F1 H1 s1;exact fin W2 s2 hdo
 ·have lk':cG PG h10 (loadAt bT (pT r1 0))=some (aFe 3):=by rw[lkk,e]
  have hl:cG PG h10 (Instr.lookup gG (.map (some r29)) (aFe 3) true)=some (.tuple #[.func (.func aBX) #[] #[pT r25 0,pT r1 0],.bool true]):=by
   rw[aBl (aIM bT.und) gG.und mN.info mN.zero M4 3 true];rfl
  simp only[cH.f0,lk',hl,cE,reduceIte,cT,Nat.reduceAdd];refine fn ?_;show aT PG aBX #[pT r25 0,pT r1 0] h10 _;apply aEZ.call;unfold aEZ;have hdo:jD (lV s j) (lV s (1-j)) (lP m)=if iW (lV s j) m.pk (sV (lV s j) m.pk m.proof.data.toList ((lP m).h:Int))=0 then((lV s j).settled 3 m.pk,(default,0,0)) else(lV s j,(default,0,iW (lV s j) m.pk (sV (lV s j) m.pk m.proof.data.toList ((lP m).h:Int)))):=by
   unfold jD;rw[if_neg (show ¬(lP m).kind=0 from(by show ¬m.kind=0;omega)),if_neg (show ¬(lP m).kind=1 from(by show ¬m.kind=1;omega)),if_neg (show ¬(lP m).kind=2 from(by show ¬m.kind=2;omega)),if_pos (show(lP m).kind=3 from e)];rfl
  have lh0:=lh cV.refl;rw[←eh] at lh0;simp only[cH.f2,cH.f3,cH.f4,fC,lcc,lp,ls,lh0,cE,reduceIte,cT,Nat.reduceAdd];refine aSj K10 HA w (x:=((lP m).h:Int)) hl1 (λhe h11 H1 u11=>?_) (λhe h11 F1 H1 s1=>?_)
  ·rw[if_neg he] at hdo;obtain⟨F2,W2,s2⟩:=back _ h11 Fc H1 (iO.ext u11);exact fin W2 s2 hdo
  ·rw[if_pos he] at hdo;obtain⟨F2,W2,s2⟩:=back _ h11 F1 H1 s1;exact fin W2 s2 hdo
 ·have lk':cG PG h10 (loadAt bT (pT r1 0))=some (aFe 4):=by rw[lkk,e]
  have hl:cG PG h10 (Instr.lookup gG (.map (some r29)) (aFe 4) true)=some (.tuple #[.func (.func aBx) #[] #[pT r25 0,pT r1 0],.bool true]):=by
   rw[aBl (aIM bT.und) gG.und mN.info mN.zero M4 4 true];rfl
  simp only[cH.f0,lk',hl,cE,reduceIte,cT,Nat.reduceAdd];refine fn ?_;show aT PG aBx #[pT r25 0,pT r1 0] h10 _;apply aEY.call;unfold aEY;have hdo:jD (lV s j) (lV s (1-j)) (lP m)=if iW (lV s j) m.pk (oG (lV s j) m.pk m.proof.data.toList ((lP m).h:Int))=0 then((lV s j).settled 4 m.pk,(default,0,0)) else(lV s j,(default,0,iW (lV s j) m.pk (oG (lV s j) m.pk m.proof.data.toList ((lP m).h:Int)))):=by
   unfold jD;rw[if_neg (show ¬(lP m).kind=0 from(by show ¬m.kind=0;omega)),if_neg (show ¬(lP m).kind=1 from(by show ¬m.kind=1;omega)),if_neg (show ¬(lP m).kind=2 from(by show ¬m.kind=2;omega)),if_neg (show ¬(lP m).kind=3 from(by show ¬m.kind=3;omega)),if_pos (show(lP m).kind=4 from e)];rfl
  have lh0:=lh cV.refl;rw[←eh] at lh0;simp only[cH.f2,cH.f3,cH.f4,fC,lcc,lp,ls,lh0,cE,reduceIte,cT,Nat.reduceAdd];refine aNQ K10 HA w (x:=((lP m).h:Int)) hl1 (λhe h11 H1 u11=>?_) (λhe h11 F1 H1 s1=>?_)
  ·rw[if_neg he] at hdo;obtain⟨F2,W2,s2⟩:=back _ h11 Fc H1 (iO.ext u11);exact fin W2 s2 hdo
  ·rw[if_pos he] at hdo;obtain⟨F2,W2,s2⟩:=back _ h11 F1 H1 s1;exact fin W2 s2 hdo
theorem aOr{hs:List Int}{l:List gO}(R:qU hs l):∀x∈hs,x∈qF l:=λ_ hx=>R.mem.1 hx
structure fU.can(m:fU):Prop where
 dest:m.dest=0∨m.dest=1
 k1:1≤m.kind
 k4:m.kind≤4
 h0:0≤m.height
 h64:m.height<18446744073709551616
 wf:m.pk.wf
theorem aRu{s:Ch×Ch}(ok0:s.1.st.Ok)(ok1:s.2.st.Ok){known:List Int}{batch:Int}{ps:List Pk}(w:∀p∈ps,p.wf){k:Int}:∀m∈(oK s known batch ps k).1,m.can:=by
 refine aNo _ _ _ (λm hm=>by cases hm) λm hm=>?_;obtain⟨hm,-⟩:=zL1.1 hm;obtain⟨p,hp,hs⟩:=List.mem_filterMap.1 hm;have hat:=aMY hs;obtain⟨hg,-⟩:=aNK hs;have hd:=aNH hs;obtain⟨-,-,hpk,-⟩:=aKL hs;have h64:m.height<18446744073709551616:=by
  rw[hat];unfold aIp;split
  ·have:=ok0.h4;omega
  ·have:=ok1.h4;omega
 exact⟨⟨hd,hg.1,hg.2.1,hg.2.2,h64,by rw[hpk];exact w p hp⟩,⟨hd,(by decide:(1:Int)≤1),(by decide:(1:Int)≤4),hg.2.2,h64,⟨(by decide:(0:Int)≤0),(by decide:(0:Int)<18446744073709551616),(by decide:(0:Int)≤0),(by decide:(0:Int)<18446744073709551616)⟩⟩⟩
def pS{α:Type}(a b:α)(j:Nat):α:=if j=1 then b else a
section
variable{X:lU}(gX:lW X){c0 c1 r19 r27:Nat}{v0 v1:Value}{L0 L1:List fU}(ax:∀{h F},X h F->Bx h r19 (arC c0 c1)∧Bx h r27 [v0,v1]∧fQ h 8 v0 (L0.map fU.cells)∧fQ h 8 v1 (L1.map fU.cells))
include gX ax
theorem aU4{h:PH}{F:List Nat}{s:Ch×Ch}(W:eH (nV c0 c1 s) X h F){j:Nat}(hj:j<2):cG PG h (loadAt cX (pT r19 0))=some (arV c0 c1)∧cG PG h (loadAt dG (pT r27 j))=some (pS v0 v1 j)∧fQ h 8 (pS v0 v1 j) ((pS L0 L1 j).map fU.cells):=by
 obtain⟨_,Fx,-,-,hX,-⟩:=W;obtain⟨B1,B2,S0,S1⟩:=ax hX;have:j=0∨j=1:=by omega
 rcases this with rfl|rfl
 ·exact⟨cX.agg B1 (by show 0+2≤2;decide),by rw[dG.load,B2.cell];rfl,S0⟩
 ·exact⟨cX.agg B1 (by show 0+2≤2;decide),by rw[dG.load,B2.cell];rfl,S1⟩
theorem aXN{h0 h:PH}{F:List Nat}(hK:mQ h0)(N:Now h0 h F){s:Ch×Ch}(W:eH (nV c0 c1 s) X h F){m:fU}(hm:m.can)(l0:s.1.nts.length<1000000)(l1:s.2.nts.length<1000000){kk:cD}
  (hk:∀h' F',eH (nV c0 c1 (aEN s m)) X h' F'->Now h0 h' F'->kk (.int .i64 (aIj s.1 s.2 m)) h'):aT PG aAu #[m.v,arV c0 c1] h kk:=by
 obtain⟨Fa,HT,hFa,back⟩:=eH.left gX W;refine aTX (N.k hK) (λhz=>N.z hK (hFa _ hz)) HT hm.dest hm.k1 hm.k4 hm.h0 hm.h64 hm.wf l0 l1 λh' F' T' s'=>?_;obtain⟨F2,W2,s2⟩:=back _ h' F' T' s';exact hk h' F2 W2 (N.step s2)
theorem aRo{h0 h:PH}{F:List Nat}(hK:mQ h0)(N:Now h0 h F){s:Ch×Ch}(W:eH (nV c0 c1 s) X h F){j:Nat}(hj:j<2)(hc:∀m∈pS L0 L1 j,m.can){n:Nat}(l0:s.1.nts.length≤n)(l1:s.2.nts.length≤n)(hn:n+(pS L0 L1 j).length<10000){R:cD}{n31:gI}
  (hk:∀h' F',eH (nV c0 c1 (nA s (pS L0 L1 j))) X h' F'->Now h0 h' F'->(nA s (pS L0 L1 j)).1.nts.length≤n+(pS L0 L1 j).length->(nA s (pS L0 L1 j)).2.nts.length≤n+(pS L0 L1 j).length->n31 [pT r19 0,pT r27 0,.int .i64 ((j+1:Nat):Int)] h'):
  iJ [11,14,15,16] (λn34 ρ h=>yJ R n31 n34 (ρ 11) (ρ 14) (ρ 15) (ρ 16) h) [pT r19 0,pT r27 0,.int .i64 (j:Int),.int .i64 0] h:=by
 have gj:=pY (i:=j) (by omega);refine⟨λvs h'=>∃(i:Nat) (F':List Nat),i≤(pS L0 L1 j).length∧vs=[pT r19 0,pT r27 0,.int .i64 (j:Int),.int .i64 (i:Int)]∧eH (nV c0 c1 (nA s ((pS L0 L1 j).take i))) X h' F'∧Now h0 h' F'∧(nA s ((pS L0 L1 j).take i)).1.nts.length≤n+i∧(nA s ((pS L0 L1 j).take i)).2.nts.length≤n+i,gP (pS L0 L1 j).length 3,⟨0,F,by omega,rfl,W,N,l0,l1⟩,?_⟩;rintro ρ h' ⟨i,F',hi,hvs,W',N',m0,m1⟩;simp only[iI,iU,kR,and_true] at hvs;obtain⟨w0,w1,w2,w3⟩:=hvs;unfold yJ;rw[w0,w1,w2,w3];obtain⟨q1,q2,q3⟩:=aU4 gX ax W' hj;have ll:dD PG (Builtin.len_ #[dG] bT #[pS v0 v1 j])=some (.int .i64 ((pS L0 L1 j).length:Int)):=by
  have:=q3.len (t':=bT) dG.und;rw[iV] at this;exact this
 by_cases hlt:i<(pS L0 L1 j).length
 ·have g:((i:Int)<((pS L0 L1 j).length:Int))=True:=eq_true (by omega);have gi:=pY (i:=i) (by omega);obtain⟨y,hy⟩:∃y,(pS L0 L1 j)[i]? =some y:=⟨_,mB hlt⟩;obtain⟨a,i1,i2⟩:=q3.msg (k:=.i64) (j:=(i:Int)) (by omega) (by rw[pK];exact hy);have et:nA s ((pS L0 L1 j).take (i+1))=aEN (nA s ((pS L0 L1 j).take i)) y:=by
   rw[zLT,hy];exact aNu _ _ _
  simp only[aPK hj,q2,ll,g,i1,i2,q1,cE,reduceIte,cT,Nat.reduceAdd];refine aXN gX ax hK N' W' (hc y (qB hy)) (by omega) (by omega) λh2 F2 W2 N2=>?_;simp only[gi,cE,reduceIte,cT,Nat.reduceAdd];obtain⟨b0,b1⟩:=aN6 (nA s ((pS L0 L1 j).take i)).1 (nA s ((pS L0 L1 j).take i)).2 (lP y) m0 m1;exact⟨⟨i+1,F2,by omega,rfl,by rw[et];exact W2,N2,by rw[et];exact b0,by rw[et];exact b1⟩,by simp[gP,w3];omega⟩
 ·have g:((i:Int)<((pS L0 L1 j).length:Int))=False:=eq_false (by omega);simp only[aPK hj,q2,ll,g,gj,cE,reduceIte,cT,Nat.reduceAdd];rw[nU (by omega)] at W' m0 m1;exact hk h' F' W' N' (by omega) (by omega)
theorem aVq{h0 h:PH}{F:List Nat}(hK:mQ h0)(N:Now h0 h F){s:Ch×Ch}(W:eH (nV c0 c1 s) X h F){j:Nat}(hj:j<2)(hc:∀m∈pS L0 L1 j,m.can∧aIj s.1 s.2 m≠0)(l0:s.1.nts.length<1000000)(l1:s.2.nts.length<1000000){t17:Value}{R:cD}{n66:gI}(hl:(pS L0 L1 j).length<10000)
  (hk:∀h' F',eH (nV c0 c1 s) X h' F'->Now h0 h' F'->n66 [pT r19 0,pT r27 0,t17,.int .i64 ((j+1:Nat):Int)] h'):
  iJ [11,14,17,18,19] (λn69 ρ h=>yK R n66 n69 (ρ 11) (ρ 14) (ρ 17) (ρ 18) (ρ 19) h) [pT r19 0,pT r27 0,t17,.int .i64 (j:Int),.int .i64 0] h:=by
 have gj:=pY (i:=j) (by omega);refine⟨λvs h'=>∃(i:Nat) (F':List Nat),i≤(pS L0 L1 j).length∧vs=[pT r19 0,pT r27 0,t17,.int .i64 (j:Int),.int .i64 (i:Int)]∧eH (nV c0 c1 s) X h' F'∧Now h0 h' F',gP (pS L0 L1 j).length 4,⟨0,F,by omega,rfl,W,N⟩,?_⟩;rintro ρ h' ⟨i,F',hi,hvs,W',N'⟩;simp only[iI,iU,kR,and_true] at hvs;obtain⟨w0,w1,w2,w3,w4⟩:=hvs;unfold yK;rw[w0,w1,w2,w3,w4];obtain⟨q1,q2,q3⟩:=aU4 gX ax W' hj;have ll:dD PG (Builtin.len_ #[dG] bT #[pS v0 v1 j])=some (.int .i64 ((pS L0 L1 j).length:Int)):=by
  have:=q3.len (t':=bT) dG.und;rw[iV] at this;exact this
 by_cases hlt:i<(pS L0 L1 j).length
 ·have g:((i:Int)<((pS L0 L1 j).length:Int))=True:=eq_true (by omega);have gi:=pY (i:=i) (by omega);obtain⟨y,hy⟩:∃y,(pS L0 L1 j)[i]? =some y:=⟨_,mB hlt⟩;obtain⟨a,i1,i2⟩:=q3.msg (k:=.i64) (j:=(i:Int)) (by omega) (by rw[pK];exact hy);obtain⟨hcan,hne⟩:=hc y (qB hy);have qe:(aIj s.1 s.2 y==0)=false:=by simpa using hne
  simp only[aPK hj,q2,ll,g,i1,i2,q1,cE,reduceIte,cT,Nat.reduceAdd];refine aXN gX ax hK N' W' hcan l0 l1 λh2 F2 W2 N2=>?_;rw[aRD hne] at W2;simp only[iB,qe,gi,cE,reduceIte,cT,Nat.reduceAdd];exact⟨⟨i+1,F2,by omega,rfl,W2,N2⟩,by simp[gP,w4];omega⟩
 ·have g:((i:Int)<((pS L0 L1 j).length:Int))=False:=eq_false (by omega);simp only[aPK hj,q2,ll,g,gj,cE,reduceIte,cT,Nat.reduceAdd];exact hk h' F' W' N'
end
def KpA(r19 r27 c0 c1:Nat)(v0 v1:Value)(L0 L1:List fU)(A0 A1:List Nat):lU:=λh F=>F=r19::r27::(A0++A1)∧Bx h r19 (arC c0 c1)∧Bx h r27 [v0,v1]∧eD h cH 8 v0 (L0.map fU.cells) A0∧eD h cH 8 v1 (L1.map fU.cells) A1
theorem KpA.good(r19 r27 c0 c1:Nat)(v0 v1:Value)(L0 L1:List fU)(A0 A1:List Nat):lW (KpA r19 r27 c0 c1 v0 v1 L0 L1 A0 A1) where
 known:=by
  rintro h F ⟨rfl,B1,B2,O0,O1⟩ y hy;simp only[gE,jB] at hy;rcases hy with rfl|rfl|hy|hy
  ·exact B1.known
  ·exact B2.known
  ·exact O0.known y hy
  ·exact O1.known y hy
 upd:=by
  rintro h h' F K ⟨rfl,B1,B2,O0,O1⟩ u hK;exact⟨rfl,B1.upd u (hK _ (by simp)),B2.upd u (hK _ (by simp)),O0.upd u (λy hy=>hK y (by simp[hy])),O1.upd u (λy hy=>hK y (by simp[hy]))⟩
def KqA(X:lU)(r62:Nat)(w0 w1:Value)(m0 m1:List Pr)(B0 B1:List Nat):lU:=λh F=>∃F1,F=F1++r62::(B0++B1)∧X h F1∧Bx h r62 [w0,w1]∧eD h cK 2 w0 (m0.map Pr.cells) B0∧eD h cK 2 w1 (m1.map Pr.cells) B1
theorem KqA.good{X:lU}(gX:lW X)(r62:Nat)(w0 w1:Value)(m0 m1:List Pr)(B0 B1:List Nat):lW (KqA X r62 w0 w1 m0 m1 B0 B1) where
 known:=by
  rintro h F ⟨F1,rfl,hX,B,O0,O1⟩ y hy;simp only[jB,gE] at hy;rcases hy with hy|rfl|hy|hy
  ·exact gX.known hX y hy
  ·exact B.known
  ·exact O0.known y hy
  ·exact O1.known y hy
 upd:=by
  rintro h h' F K ⟨F1,rfl,hX,B,O0,O1⟩ u hK;exact⟨F1,rfl,gX.upd hX u (λy hy=>hK y (by simp[hy])),B.upd u (hK _ (by simp)),O0.upd u (λy hy=>hK y (by simp[hy])),O1.upd u (λy hy=>hK y (by simp[hy]))⟩
theorem aYz{r j:Nat}(hj:j<2):dD PG (indexAt iQ (pT r 0) (.int .i64 (j:Int)))=some (pT r j):=by
 have ix:=sH (P:=PG) (t:=iQ) (b:=r) (o:=0) (k:=.i64) (j:=(j:Int)) iQ.und cJ.info cJ.size (by omega) (by omega);rw[ix,pK,fC,zL7]
theorem bAf(a0 a1:Option Addr)(n0 c0 n1 c1:Nat):dD PG (build iQ #[(0,.slice a0 n0 c0),(1,.slice a1 n1 c1)])=some (.agg #[.slice a0 n0 c0,.slice a1 n1 c1]):=by kernel_rfl
theorem aSN{c:Nat}{s:Ch}{h:PH}{F:List Nat}(H:iD c s h F):s.st.now.length≤1000000:=by
 obtain⟨sp,m,cp,nv,bv,lk,P,perm,ok⟩:=H;have:=P.okst.few;omega
theorem aUS{h0 h:PH}{F:List Nat}(hK:mQ h0)(N:Now h0 h F){c0 c1 r19 r27:Nat}{v0 v1:Value}{L0 L1:List fU}{A0 A1:List Nat}{t:Ch×Ch}(W:eH (nV c0 c1 t) (KpA r19 r27 c0 c1 v0 v1 L0 L1 A0 A1) h F)(hc:∀m∈L0++L1,m.can∧aIj t.1 t.2 m≠0)(l0:t.1.nts.length<1000000)(l1:t.2.nts.length<1000000)(ll0:L0.length<10000)(ll1:L1.length<10000){R:cD}{n31:gI}(hk:∀h',dB h0 h'->R (.bool true) h'):
  oP R n31 (pT r19 0) (pT r27 0) (.int .i64 2) h:=by
 unfold oP;have gX:=KpA.good r19 r27 c0 c1 v0 v1 L0 L1 A0 A1;have g:((2:Int)<2)=False:=eq_false (by decide);have j0:dD PG (indexAt cX (pT r19 0) (.int .i64 0))=some (pT r19 0):=aIl (i:=0) (by decide);have j1:dD PG (indexAt cX (pT r19 0) (.int .i64 1))=some (pT r19 1):=by have:=aIl (r:=r19) (o:=0) (i:=1) (by decide);rw[fC] at this;exact this
 obtain⟨Fa,Fx,eF,⟨F0,F1,eFa,H0,H1,d01⟩,⟨eFx,B19,B27,O0,O1⟩,dax⟩:=id W;have ld0:∀{h':PH},Bx h' r19 (arC c0 c1)->cG PG h' (loadAt cU (pT r19 0))=some (pT c0 0):=λB=>by rw[cU.load,B.cell];rfl
 have ld1:∀{h':PH},Bx h' r19 (arC c0 c1)->cG PG h' (loadAt cU (pT r19 1))=some (pT c1 0):=λB=>by rw[cU.load,B.cell];rfl
 simp only[g,j0,j1,ld0 B19,ld1 B19,dV.f0,fC,cE,reduceIte,cT,Nat.reduceAdd];refine aM9 H0 λh2 w0 E0 Q0 f2 u2=>?_;refine⟨ld1 (B19.ext u2),?_⟩;refine aM9 ((iD.good _ _).ext H1 u2) λh3 w1 E1 Q1 f3 u3=>?_;have Q0:=Q0.ext u3;have u23:=u2.trans u3;obtain⟨a0,n0,d0,rfl⟩:=slv Q0;obtain⟨a1,n1,d1,rfl⟩:=slv Q1;simp only[bAf,cE,reduceIte,cT,Nat.reduceAdd];intro r62 hr62
 try rw[cY]
 refine iQ.fill (vs:=[.slice a0 n0 d0,.slice a1 n1 d1]) hr62 rfl (λu hu=>by
  simp only[gE,kD,or_false] at hu;rcases hu with rfl|rfl<;>rfl) λh4 B62 u4=>?_
 have u24:=u23.trans u4;have kW:=((nV.good c0 c1 t).star gX).known W;have W4:=((nV.good c0 c1 t).star gX).ext W u24;have hr62':h r62=none:=u23.none hr62;have fE1:∀y∈E1,h y=none:=λy hy=>u2.none (f3 y hy);have W5:eH (nV c0 c1 t) (KqA (KpA r19 r27 c0 c1 v0 v1 L0 L1 A0 A1) r62 (.slice a0 n0 d0) (.slice a1 n1 d1) t.1.st.now t.2.st.now E0 E1) h4 (Fa++(Fx++r62::(E0++E1))):=by
  obtain⟨Fa',Fx',eF',hT',hX',dax'⟩:=W4;have T4:nV c0 c1 t h4 Fa:=(nV.good c0 c1 t).ext (by rw[eFa];exact⟨F0,F1,rfl,H0,H1,d01⟩) u24;have X4:KpA r19 r27 c0 c1 v0 v1 L0 L1 A0 A1 h4 Fx:=gX.ext ⟨eFx,B19,B27,O0,O1⟩ u24;refine eH.mk T4 ⟨Fx,rfl,X4,B62,Q0.ext u4,Q1.ext u4⟩ (λy hy hm=>?_);have ky:h y≠none:=kW y (by rw[eF];simp[hy]);simp only[jB,gE] at hm;rcases hm with hm|rfl|hm|hm
  ·exact dax y hy hm
  ·exact ky hr62'
  ·exact ky (f2 y hm)
  ·exact ky (fE1 y hm)
 have N5:Now h0 h4 (Fa++(Fx++r62::(E0++E1))):=⟨N.ext.trans u24,λy hy=>by
  simp only[jB,gE] at hy;rcases hy with hy|hy|rfl|hy|hy
  ·exact N.fr y (by rw[eF];simp[hy])
  ·exact N.fr y (by rw[eF];simp[hy])
  ·exact N.ext.none hr62'
  ·exact N.ext.none (f2 y hy)
  ·exact N.ext.none (fE1 y hy)⟩
 have gY:=KqA.good gX r62 (.slice a0 n0 d0) (.slice a1 n1 d1) t.1.st.now t.2.st.now E0 E1;have ax:∀{h F},KqA (KpA r19 r27 c0 c1 v0 v1 L0 L1 A0 A1) r62 (.slice a0 n0 d0) (.slice a1 n1 d1) t.1.st.now t.2.st.now E0 E1 h F->Bx h r19 (arC c0 c1)∧Bx h r27 [v0,v1]∧fQ h 8 v0 (L0.map fU.cells)∧fQ h 8 v1 (L1.map fU.cells):=fun {h F} H=>by
  obtain⟨F1,-,⟨-,b1,b2,o0,o1⟩,-⟩:=H;exact⟨b1,b2,o0.slR,o1.slR⟩
 refine⟨λvs h'=>∃(j:Nat) (F':List Nat),j≤2∧vs=[pT r19 0,pT r27 0,pT r62 0,.int .i64 (j:Int)]∧eH (nV c0 c1 t) (KqA (KpA r19 r27 c0 c1 v0 v1 L0 L1 A0 A1) r62 (.slice a0 n0 d0) (.slice a1 n1 d1) t.1.st.now t.2.st.now E0 E1) h' F'∧Now h0 h' F',gP 2 3,⟨0,_,by omega,rfl,W5,N5⟩,?_⟩;rintro ρ h' ⟨j,F',hj,hvs,W',N'⟩;simp only[iI,iU,kR,and_true] at hvs;obtain⟨x0,x1,x2,x3⟩:=hvs;unfold aDJ;rw[x0,x1,x2,x3];by_cases hlt:j<2
 ·have g:((j:Int)<2)=True:=eq_true (by omega);simp only[g,cE,reduceIte,cT,Nat.reduceAdd];refine aVq gY ax hK N' W' hlt (λm hm=>hc m ?_) l0 l1 (by unfold pS;split<;>assumption) λh5 F5 W5 N5=>?_
  ·unfold pS at hm;split at hm
   ·exact zLl _ hm
   ·exact zLk _ hm
  ·exact⟨⟨j+1,F5,by omega,rfl,W5,N5⟩,by simp[gP,x3];omega⟩
 ·have g:((j:Int)<2)=False:=eq_false (by omega);obtain⟨Ga,Gx,eG,⟨G0,G1,eGa,K0,K1,e01⟩,⟨Gz,eGz,⟨-,D19,-⟩,D62,P0,P1⟩,-⟩:=id W';have i0:dD PG (indexAt iQ (pT r62 0) (.int .i64 0))=some (pT r62 0):=aYz (j:=0) (by decide);have i1:dD PG (indexAt iQ (pT r62 0) (.int .i64 1))=some (pT r62 1):=aYz (j:=1) (by decide);have q0:∀{h'':PH},dB h' h''->cG PG h'' (loadAt cJ (pT r62 0))=some (.slice a0 n0 d0):=λu=>by rw[cJ.load,(D62.ext u).cell];rfl
  have q1:∀{h'':PH},dB h' h''->cG PG h'' (loadAt cJ (pT r62 1))=some (.slice a1 n1 d1):=λu=>by rw[cJ.load,(D62.ext u).cell];rfl
  simp only[g,j0,ld0 D19,dV.f0,fC,i0,q0 cV.refl,cE,reduceIte,cT,Nat.reduceAdd];refine aM9 K0 λh5 y0 Y0 Z0 _ u5=>?_;refine⟨q0 u5,?_⟩;refine aOA Z0.slR (P0.ext u5).slR (aSN K0) ?_;simp only[j1,ld1 (D19.ext u5),dV.f0,fC,i1,q1 u5,cE,reduceIte,cT,Nat.reduceAdd];refine aM9 ((iD.good _ _).ext K1 u5) λh6 y1 Y1 Z1 _ u6=>?_;refine⟨λ_=>q1 (u5.trans u6),?_⟩;refine aOA Z1.slR (P1.ext (u5.trans u6)).slR (aSN K1) ?_
  try simp only[cE,reduceIte,cT,Nat.reduceAdd]
  exact hk h6 (N'.ext.trans (u5.trans u6))
theorem aQP{h:PH}(hK:mQ h){a b s0 s1:Nat}(ha:a<18446744073709551616)(hb:b<18446744073709551616)(hs0:s0<18446744073709551616)(hs1:s1<18446744073709551616){v:Value}{l:List jI}(S:fQ h 9 v (l.map jI.cells))(w:∀x∈l,x.wf){y:Value}{li:List It}(S2:fQ h 5 y (li.map It.cells))(w2:∀i∈li,i.p.wf){batch:Int}{k:cD}(hk:∀h',dB h h'->k (.bool true) h'):
  aT PG zZ #[vP a b,vP s0 s1,v,y,.int .i64 batch] h k:=by
 apply oQ.call;unfold oQ;intro r1 hr1
 try rw[cY]
 have u1:dB h (h.set r1 (.cells (Value.cells (vP a b)) eK)):=cV.new hr1;have B1:Bx (h.set r1 (.cells (Value.cells (vP a b)) eK)) r1 (u2c a b):=Bx.new;generalize h.set r1 (.cells (Value.cells (vP a b)) eK)=h1 at *;intro r3 hr3
 try rw[cY]
 have u3:dB h1 (h1.set r3 (.cells (Value.cells (vP s0 s1)) eK)):=cV.new hr3;have B3:Bx (h1.set r3 (.cells (Value.cells (vP s0 s1)) eK)) r3 (u2c s0 s1):=Bx.new;have C1:=B1.ext u3;generalize h1.set r3 (.cells (Value.cells (vP s0 s1)) eK)=h3 at *;have e3:=u1.trans u3;have la:∀{h'':PH},dB h3 h''->cG PG h'' (loadAt eK (pT r1 0))=some (vP a b):=λv=>eK.agg (C1.ext v) (by show 0+2≤2;decide);have ls:∀{h'':PH},dB h3 h''->cG PG h'' (loadAt eK (pT r3 0))=some (vP s0 s1):=λv=>eK.agg (B3.ext v) (by show 0+2≤2;decide);refine aTY (hK.ext e3) λh4 u4=>?_;simp only[ls u4,cE,reduceIte,cT,Nat.reduceAdd];refine aWb (S.ext (e3.trans u4)) (S2.ext (e3.trans u4)) λh5 bb hbb u5=>?_;have e35:=u4.trans u5;have e5:=e3.trans e35;cases bb with
 | false=>
  simp only[cE,reduceIte,cT,Nat.reduceAdd];exact hk h5 e5
 | true=>
  obtain⟨z0,z1,hl,hli,hdat⟩:=hbb rfl;simp only[la e35,ls e35,cE,reduceIte,cT,Nat.reduceAdd];refine aPt (hK.ext e5) ha hb hs0 hs1 z0 z1 (S.ext e5) w hl hdat λh6 c0 c1 m d0 d1 bk mm K A nn F W f6 u6 M=>?_;have K5:=hK.ext e5;generalize hs:aIf (Ch.new 0 a s0,Ch.new 1 b s1) l=s at *;simp only[cE,reduceIte,cT,Nat.reduceAdd];intro r19 hr19
  try rw[cY]
  refine cX.fill (vs:=arC c0 c1) hr19 rfl (aPI c0 c1) λh7 B7 u7=>?_;have lc:∀{h':PH},dB h7 h'->cG PG h' (loadAt cX (pT r19 0))=some (arV c0 c1):=λu=>cX.agg (B7.ext u) (by show 0+2≤2;decide);obtain⟨Fa,Fb,eF,HT,HD,dab⟩:=W;obtain⟨⟨_,ok0⟩,_,ok1⟩:=aRc HT M.k0 M.k1;have HT7:=(nV.good _ _ _).ext HT u7;have e7:=(e5.trans u6).trans u7;simp only[lc cV.refl,cE,reduceIte,cT,Nat.reduceAdd];refine aS8 (hK.ext e7) HT7 (S2.ext e7) w2 hli batch λh8 p0 p1 a0 a1 A0 A1 R0 R1 P0 P1 fA0 fA1 u8=>?_;intro r27 hr27
  try rw[cY]
  refine dX.fill (vs:=[a0,a1]) hr27 rfl (λu hu=>by
   simp only[gE,kD,or_false] at hu;rcases hu with rfl|rfl
   ·exact slc P0
   ·exact slc P1) λh9 B9 u9=>?_
  have e9:=(e7.trans u8).trans u9;have can0:=aRu ok0 ok1 (known:=p0) (batch:=batch) (ps:=li.map It.p) (λp hp=>by
   obtain⟨i,hi,rfl⟩:=lL.1 hp;exact w2 i hi) (k:=0)
  have can1:=aRu ok0 ok1 (known:=p1) (batch:=batch) (ps:=li.map It.p) (λp hp=>by
   obtain⟨i,hi,rfl⟩:=lL.1 hp;exact w2 i hi) (k:=1)
  have dead:=aTG (M.bd) (by omega) ok0 ok1 (aOr R0) (aOr R1) (batch:=batch) (ps:=li.map It.p) (by rw[iV];exact hli);have le0:=aKe s p0 batch (li.map It.p) 0;have le1:=aKe s p1 batch (li.map It.p) 1;rw[iV] at le0 le1;generalize (oK s p0 batch (li.map It.p) 0).1=L0 at *;generalize (oK s p1 batch (li.map It.p) 1).1=L1 at *;rw[aNu] at dead;have k19:h5 r19=none:=u6.none hr19;have k6:∀y∈Fa,h6 y≠none:=λy hy=>(nV.good _ _ _).known HT y hy;have W9:eH (nV c0 c1 s) (KpA r19 r27 c0 c1 a0 a1 L0 L1 A0 A1) h9 (Fa++(r19::r27::(A0++A1))):=eH.mk ((nV.good _ _ _).ext HT7 (u8.trans u9)) ⟨rfl,B7.ext (u8.trans u9),B9,P0.ext u9,P1.ext u9⟩ (λy hy hm=>by
   have ky:=k6 y hy;simp only[gE,jB] at hm;rcases hm with rfl|rfl|hm|hm
   ·exact ky hr19
   ·exact ky ((u7.trans u8).none hr27)
   ·exact ky (u7.none (fA0 y hm))
   ·exact ky (u7.none (fA1 y hm)))
  have N9:Now h5 h9 (Fa++(r19::r27::(A0++A1))):=⟨((u6.trans u7).trans u8).trans u9,λy hy=>by
   simp only[gE,jB] at hy;rcases hy with hy|rfl|rfl|hy|hy
   ·exact f6 y (by rw[eF];simp[hy])
   ·exact k19
   ·exact((u6.trans u7).trans u8).none hr27
   ·exact(u6.trans u7).none (fA0 y hy)
   ·exact(u6.trans u7).none (fA1 y hy)⟩
  have gX:=KpA.good r19 r27 c0 c1 a0 a1 L0 L1 A0 A1;have ax:∀{h F},KpA r19 r27 c0 c1 a0 a1 L0 L1 A0 A1 h F->Bx h r19 (arC c0 c1)∧Bx h r27 [a0,a1]∧fQ h 8 a0 (L0.map fU.cells)∧fQ h 8 a1 (L1.map fU.cells):=fun {h F} H=>⟨H.2.1,H.2.2.1,H.2.2.2.1.slR,H.2.2.2.2.slR⟩;refine⟨λvs h'=>∃(j:Nat) (F':List Nat),vs=[pT r19 0,pT r27 0,.int .i64 (j:Int)]∧Now h5 h' F'∧((j=0∧eH (nV c0 c1 s) (KpA r19 r27 c0 c1 a0 a1 L0 L1 A0 A1) h' F')∨(j=1∧eH (nV c0 c1 (nA s L0)) (KpA r19 r27 c0 c1 a0 a1 L0 L1 A0 A1) h' F'∧(nA s L0).1.nts.length≤200∧(nA s L0).2.nts.length≤200)∨(j=2∧eH (nV c0 c1 (nA (nA s L0) L1)) (KpA r19 r27 c0 c1 a0 a1 L0 L1 A0 A1) h' F'∧(nA (nA s L0) L1).1.nts.length≤400∧(nA (nA s L0) L1).2.nts.length≤400)),gP 2 2,⟨0,_,rfl,N9,.inl ⟨rfl,W9⟩⟩,?_⟩;rintro ρ h' ⟨j,F',hvs,N',hc⟩;simp only[iI,iU,kR,and_true] at hvs;obtain⟨x0,x1,x2⟩:=hvs;rw[x0,x1,x2];have n0:=M.n0;have n1:=M.n1;rcases hc with⟨rfl,W'⟩|⟨rfl,W',q0,q1⟩|⟨rfl,W',q0,q1⟩
  ·unfold oP;have g:(((0:Nat):Int)<2)=True:=eq_true (by decide);simp only[g,cE,reduceIte,cT,Nat.reduceAdd];refine aRo gX ax K5 N' W' (j:=0) (by decide) (λm hm=>can0 m hm) (n:=50) (by omega) (by omega) (by show 50+L0.length<_;omega) λh10 F10 W10 N10 b0 b1=>?_;have b0:(nA s L0).1.nts.length≤50+L0.length:=b0;have b1:(nA s L0).2.nts.length≤50+L0.length:=b1;exact⟨⟨1,F10,rfl,N10,.inr (.inl ⟨rfl,W10,by omega,by omega⟩)⟩,by simp[gP,x2]⟩
  ·unfold oP;have g:(((1:Nat):Int)<2)=True:=eq_true (by decide);simp only[g,cE,reduceIte,cT,Nat.reduceAdd];refine aRo gX ax K5 N' W' (j:=1) (by decide) (λm hm=>can1 m hm) (n:=200) q0 q1 (by show 200+L1.length<_;omega) λh10 F10 W10 N10 b0 b1=>?_;have b0:(nA (nA s L0) L1).1.nts.length≤200+L1.length:=b0;have b1:(nA (nA s L0) L1).2.nts.length≤200+L1.length:=b1;exact⟨⟨2,F10,rfl,N10,.inr (.inr ⟨rfl,W10,by omega,by omega⟩)⟩,by simp[gP,x2]⟩
  ·refine aUS K5 N' W' (λm hm=>⟨?_,dead m hm⟩) (by omega) (by omega) (by omega) (by omega) (λh'' u''=>hk h'' (e5.trans u''));rcases jB.1 hm with hm|hm
   ·exact can0 m hm
   ·exact can1 m hm
end
section
open Go Go.RowKit Go.ChangeShapes
theorem bT.cells:PG.cellsOf bT=1:=by kernel_rfl
theorem cA.cells:PG.cellsOf cA=1:=by kernel_rfl
theorem bR.cells:PG.cellsOf bR=1:=by kernel_rfl
theorem fY.cells:PG.cellsOf fY=1:=by kernel_rfl
theorem aR.cells:PG.cellsOf aR=4:=by kernel_rfl
theorem eK.cells:PG.cellsOf eK=2:=by kernel_rfl
theorem cI.cells:PG.cellsOf cI=9:=by kernel_rfl
section
variable{H:Type}{enc:TypeId×Value->H}{w:World}{spare:Nat->Bool}{held:Bool}
theorem Pk.rd{cs:List Value}(h:Rd enc PG w spare held aR cs):∃p:Pk,cs=p.cells∧p.wf:=by
 obtain⟨hl,hf⟩:=aMO aR.und h;rw[aR.cells] at hl
 match cs,hl with
 | [c0,c1,c2,c3],_=>
  have f0:Rd enc PG w spare held bT (([c0,c1,c2,c3].drop 0).take (PG.cellsOf bT)):=hf 0 _ rfl;rw[bT.cells] at f0;have f1:Rd enc PG w spare held cA (([c0,c1,c2,c3].drop 1).take (PG.cellsOf cA)):=hf 1 _ rfl;rw[cA.cells] at f1;have f2:Rd enc PG w spare held cA (([c0,c1,c2,c3].drop 2).take (PG.cellsOf cA)):=hf 2 _ rfl;rw[cA.cells] at f2;have f3:Rd enc PG w spare held bR (([c0,c1,c2,c3].drop 3).take (PG.cellsOf bR)):=hf 3 _ rfl;rw[bR.cells] at f3;obtain⟨n0,e0,-⟩:=aHV bT.und f0;obtain⟨n1,e1,w1⟩:=aHV cA.und f1;have w1:=aL9 w1;obtain⟨n2,e2,w2⟩:=aHV cA.und f2;have w2:=aL9 w2;obtain⟨n3,e3,-⟩:=aPg bR.und f3;simp only[zLa,zLb,zLc,List.take_zero,kR,and_true] at e0 e1 e2 e3;subst e0 e1 e2 e3;exact⟨⟨n0,n1,n2,n3⟩,rfl,w1.1,by show n1<_;omega,w2.1,by show n2<_;omega⟩
theorem jI.rd{cs:List Value}(h:Rd enc PG w spare held cI cs):∃p:jI,cs=p.cells∧p.wf:=by
 obtain⟨hl,hf⟩:=aMO cI.und h;rw[cI.cells] at hl
 match cs,hl with
 | [c0,c1,c2,c3,c4,c5,c6,c7,c8],_=>
  have f0:Rd enc PG w spare held bT (([c0,c1,c2,c3,c4,c5,c6,c7,c8].drop 0).take (PG.cellsOf bT)):=hf 0 _ rfl;rw[bT.cells] at f0;have f1:Rd enc PG w spare held bT (([c0,c1,c2,c3,c4,c5,c6,c7,c8].drop 1).take (PG.cellsOf bT)):=hf 1 _ rfl;rw[bT.cells] at f1;have f2:Rd enc PG w spare held cA (([c0,c1,c2,c3,c4,c5,c6,c7,c8].drop 2).take (PG.cellsOf cA)):=hf 2 _ rfl;rw[cA.cells] at f2;have f3:Rd enc PG w spare held bR (([c0,c1,c2,c3,c4,c5,c6,c7,c8].drop 3).take (PG.cellsOf bR)):=hf 3 _ rfl;rw[bR.cells] at f3;have f4:Rd enc PG w spare held aR (([c0,c1,c2,c3,c4,c5,c6,c7,c8].drop 4).take (PG.cellsOf aR)):=hf 4 _ rfl;rw[aR.cells] at f4;have f5:Rd enc PG w spare held fY (([c0,c1,c2,c3,c4,c5,c6,c7,c8].drop 8).take (PG.cellsOf fY)):=hf 5 _ rfl;rw[fY.cells] at f5;obtain⟨n0,e0,-⟩:=aHV bT.und f0;obtain⟨n1,e1,-⟩:=aHV bT.und f1;obtain⟨n2,e2,w2⟩:=aHV cA.und f2;have w2:=aL9 w2;obtain⟨n3,e3,-⟩:=aPg bR.und f3;obtain⟨n4,e4,w4⟩:=Pk.rd f4;obtain⟨n5,e5⟩:=aXY fY.und f5;simp only[zLa,zLb,zLc,List.take_zero,kR,and_true,Pk.cells] at e0 e1 e2 e3 e4 e5;obtain⟨rfl,rfl,rfl,rfl⟩:=e4;subst e0 e1 e2 e3 e5;exact by
   obtain⟨m,rfl⟩:=zLn w2.1;exact⟨⟨n0,n1,m,n3.data.toList,n4,n5⟩,by rw[jI.cells,aHu],by show m<_;omega,w4⟩
theorem jI.rds:∀{rows:List (List Value)},(∀r∈rows,Rd enc PG w spare held cI r)->∃xs:List jI,rows=xs.map jI.cells∧∀x∈xs,x.wf
 | [],_=>⟨[],rfl,by simp⟩
 | r::rs,h=>by
  obtain⟨m,rfl,hm⟩:=jI.rd (h r (by simp));obtain⟨xs,rfl,hx⟩:=jI.rds (rows:=rs) (λx hx=>h x (by simp[hx]));exact⟨m::xs,rfl,λx hx'=>by rcases gE.1 hx' with rfl|h;exact hm;exact hx x h⟩
theorem u2c.rd{cs:List Value}(h:Rd enc PG w spare held eK cs):∃a b:Nat,cs=u2c a b∧a<18446744073709551616∧b<18446744073709551616:=by
 obtain⟨hl,hf⟩:=aVy eK.und h;rw[eK.cells] at hl
 match cs,hl with
 | [c0,c1],_=>
  have f0:Rd enc PG w spare held cA (([c0,c1].drop (0*PG.cellsOf cA)).take (PG.cellsOf cA)):=hf 0 (by decide);have f1:Rd enc PG w spare held cA (([c0,c1].drop (1*PG.cellsOf cA)).take (PG.cellsOf cA)):=hf 1 (by decide);rw[cA.cells] at f0 f1;obtain⟨m0,q0,w0⟩:=aHV cA.und f0;obtain⟨m1,q1,w1⟩:=aHV cA.und f1;have w0:=aL9 w0;have w1:=aL9 w1;simp only[Nat.zero_mul,Nat.one_mul,zLa,zLb,zLc,List.take_zero,kR,and_true] at q0 q1;subst q0 q1;obtain⟨n0,rfl⟩:=zLn w0.1;obtain⟨n1,rfl⟩:=zLn w1.1;exact⟨n0,n1,rfl,by omega,by omega⟩
theorem aSX{r:Reach}{base:Nat}{v:Value}{d:DataW H}{p:List MemPlace}(hval:Value.okWide PG w r base eK v)(hd:DataW.Trod enc PG w 0 spare held eK v d p):
  ∃a b:Nat,v=vP a b∧a<18446744073709551616∧b<18446744073709551616:=by
 have hu:PG.underlying eK=some (.array 2 cA):=eK.und;simp only[Value.okWide,hu] at hval;obtain⟨cs,rfl,_⟩:=hval;obtain⟨a,b,e,ha,hb⟩:=u2c.rd (aVo hd);refine⟨a,b,?_,ha,hb⟩;rw[vP];congr 1;exact Array.toList_inj.1 e
end
def aOk:List (String×DataW Unit):=[("carrack/sha.k",Rows.laid_carrack_sha_k)]
theorem aVs(os:Os)(args:Array Value):laidMetH Tryz.prog aOk ((World.doorLaid Tryz.prog 400 os).forCall (λ_ _=>0) ⟨#[],args,[]⟩).memory:=
 laidMetH_of_parts3 (fuel:=8) (laidMet_of_run' 8 (by kernel_rfl) (by kernel_rfl)) (by kernel_rfl) (by kernel_rfl)
theorem kOf{W:World}(h:laidMetH Tryz.prog aOk W):mQ (aKf W):=by
 rw[MakeChecks.laidMetH_plain _ _ _ (by kernel_rfl)] at h;obtain⟨ps,h1,_⟩:=h;obtain⟨e,fr,hh⟩:=aOa (m:=3) (g:=0) (t:=eV) h1 (aJf ..) (by kernel_rfl) (by kernel_rfl) (by kernel_rfl);have hk:(aMy (Rows.laid_carrack_sha_k:DataW Unit)).toArray=(kT.map wv).toArray:=by kernel_rfl
 rw[hk] at hh;exact⟨e,fr,hh⟩
theorem fE.cells:PG.cellsOf fE=5:=by kernel_rfl
section
variable{H:Type}{enc:TypeId×Value->H}{w:World}{spare:Nat->Bool}{held:Bool}
theorem It.rd{cs:List Value}(h:Rd enc PG w spare held fE cs):∃p:It,cs=p.cells∧p.p.wf:=by
 obtain⟨hl,hf⟩:=aMO fE.und h;rw[fE.cells] at hl
 match cs,hl with
 | [c0,c1,c2,c3,c4],_=>
  have f0:Rd enc PG w spare held aR (([c0,c1,c2,c3,c4].drop 0).take (PG.cellsOf aR)):=hf 0 _ rfl;rw[aR.cells] at f0;have f1:Rd enc PG w spare held bT (([c0,c1,c2,c3,c4].drop 4).take (PG.cellsOf bT)):=hf 1 _ rfl;rw[bT.cells] at f1;obtain⟨n0,e0,w0⟩:=Pk.rd f0;obtain⟨n1,e1,-⟩:=aHV bT.und f1;simp only[zLa,zLb,zLc,List.take_zero,kR,and_true,Pk.cells] at e0 e1;obtain⟨rfl,rfl,rfl,rfl⟩:=e0;subst e1;exact⟨⟨n0,n1⟩,rfl,w0⟩
theorem It.rds:∀{rows:List (List Value)},(∀r∈rows,Rd enc PG w spare held fE r)->∃xs:List It,rows=xs.map It.cells∧∀x∈xs,x.p.wf
 | [],_=>⟨[],rfl,by simp⟩
 | r::rs,h=>by
  obtain⟨m,rfl,hm⟩:=It.rd (h r (by simp));obtain⟨xs,rfl,hx⟩:=It.rds (rows:=rs) (λx hx=>h x (by simp[hx]));exact⟨m::xs,rfl,λx hx'=>by rcases gE.1 hx' with rfl|h;exact hm;exact hx x h⟩
end
end
section
open Go
theorem aPC{h:PH}(hK:mQ h){v y:Value}{rows rows2:List (List Value)}(S:fQ h 9 v rows)(S2:fQ h 5 y rows2)(batch:Int){a b s0 s1:Nat}(ha:a<18446744073709551616)(hb:b<18446744073709551616)(hs0:s0<18446744073709551616)(hs1:s1<18446744073709551616)(e:∃l:List jI,rows=l.map jI.cells∧∀x∈l,x.wf)(e2:∃l:List It,rows2=l.map It.cells∧∀x∈l,x.p.wf){k:cD}(hk:∀h',dB h h'->k (.bool true) h'):
  aT PG zZ #[vP a b,vP s0 s1,v,y,.int .i64 batch] h k:=by
 obtain⟨l,rfl,w⟩:=e;obtain⟨li,rfl,w2⟩:=e2;exact aQP hK ha hb hs0 hs1 S w S2 w2 hk
end
end Go.Proofs.YtppgkeodaejgcaaGreatDoor
namespace Go.Proofs.YtppgkeodaejgcaaGreatDoor.relayTwice
open Go Go.ChangeShapes Go.WideShapes Go.ChangeAt Go.WideMaps Go.WideElems Go.RowKit
theorem own:ownKnob Tryz.prog.godebug=none:=by kernel_rfl
theorem lifted(os:Os)(started:os.Started)(H:Type)(enc:TypeId×Value->H):
  ReturnsInHanded {} Tryz.checked os 5 .any (λw args=>(Rows.relayTwiceSpec.pre enc Tryz.prog Tryz.f5 [] false w args∧laidMetH Tryz.prog aOk w)∧sizedMet enc Tryz.prog Tryz.f5 (OpenSpec.ofChange Rows.relayTwiceSpec) false w args)
   (Rows.relayTwiceSpec.post enc Tryz.prog Tryz.f5 false true false false):=by
 refine returnsInHanded_of_change_and (C:=Tryz.checked) (X:=λw _=>laidMetH Tryz.prog aOk w) (λ_ _ _ hh h=>h.of_heap hh) own started (by kernel_rfl) Tryz.func5
  (ChangeSpec.witness_shaped (enc:=enc) (C:=Tryz.checked) (os:=os) (X:=λw _=>laidMetH Tryz.prog aOk w) false (World.doorLaid Tryz.prog 400 os) #[.agg #[.int .u64 0,.int .u64 0],.agg #[.int .u64 0,.int .u64 0],.slice none 0 0,.slice none 0 0,.int .i64 0] 8 rfl (World.shaped_of_RefB (by kernel_rfl) (by kernel_rfl)) (by kernel_rfl) (by kernel_rfl) (by kernel_rfl) (aVs os _)) ?_
 intro W base args ds gs before hval0 hW _ _ hL _;have hval:∀(j:Nat) t v,Tryz.f5.params[j]? =some t->args[j]? =some v->Value.okWide Tryz.prog W .any base t v:=hval0;have hW':=hW;obtain⟨p,q,hA0,hV,rfl,hfz,hnd⟩:=hW;have hA:DataW.TrodAll enc Tryz.prog W 0 (λ_=>true) true Tryz.f5.params.toList args.toList ds p:=hA0;rw[Tryz.params5] at hA hval;obtain⟨v0,vs0,d0,ds0,p0,q0,hargs,rfl,rfl,h0,r0⟩:=trodAll_cons hA;obtain⟨v1,vs1,d1,ds1,p1,q1,rfl,rfl,rfl,h1,r1⟩:=trodAll_cons r0;obtain⟨v2,vs2,d2,ds2,p2,q2,rfl,rfl,rfl,h2,r2⟩:=trodAll_cons r1;obtain⟨v3,vs3,d3,ds3,p3,q3,rfl,rfl,rfl,h3,r3⟩:=trodAll_cons r2;obtain⟨v4,vs4,d4,ds4,p4,q4,rfl,rfl,rfl,h4,r4⟩:=trodAll_cons r3;obtain⟨rfl,rfl,rfl⟩:=trodAll_nil r4;obtain rfl:args= #[v0,v1,v2,v3,v4]:=by cases args;simp_all
 obtain⟨rfl,rfl⟩:=trodVars_none hV;obtain⟨x0,y0,rfl,m0,n0⟩:=aSX (hval 0 23 v0 rfl rfl) h0;obtain⟨x1,y1,rfl,m1,n1⟩:=aSX (hval 1 23 v1 rfl rfl) h1;obtain⟨rows2,s2,o2⟩:=aS0 iM.und (by rw[cI.cells];decide) (hval 2 _ v2 rfl rfl) h2;rw[cI.cells] at s2;have e2:=jI.rds o2;obtain⟨rows3,s3,o3⟩:=aS0 lB.und (by rw[fE.cells];decide) (hval 3 _ v3 rfl rfl) h3;rw[fE.cells] at s3;have e3:=It.rds o3;obtain⟨a4,rfl,rfl,rfl,w4⟩:=open_int Tryz.underlying3 (hval 4 3 v4 rfl rfl) h4;refine(aTc (aPC (kOf hL) s2 s3 a4 m0 n0 m1 n1 e2 e3 λh' hx=>⟨rfl,hx⟩)).mono λe W' ⟨he,hk⟩=>?_;subst he;exact⟨_,rfl,aRz aZG aYj (by rw[Tryz.params5];decide +kernel) Tryz.underlying4 (by kernel_rfl) rfl hW' hk rfl rfl rfl⟩
theorem j0:(Rows.relayTwiceRow.wf (OpenSpec.ofChange Rows.relayTwiceSpec))=true:=by kernel_rfl
theorem j1:(laidOutB Tryz.pinned.checked.prog)=true:=by kernel_rfl
theorem j2:(mapsRowed Tryz.pinned.checked.prog)=true:=by kernel_rfl
theorem j3:(Tryz.f5.params.all (Tryz.pinned.checked.prog.readableRec ·))=true:=by kernel_rfl
theorem j4:(namedTie Tryz.pinned.checked.prog Rows.relayTwiceRow.named Rows.relayTwiceSpec.vars)=true:=by kernel_rfl
theorem j5:((Rows.relayTwiceRow.stops==[]))=true:=by kernel_rfl
theorem j6:((Tryz.pinned.checked.prog.stops==[]))=true:=by kernel_rfl
theorem j7:((Rows.relayTwiceRow.knobs==[]))=true:=by kernel_rfl
theorem j8:((Tryz.pinned.checked.prog.stopKnobs==[]))=true:=by kernel_rfl
theorem j9:((Rows.relayTwiceRow.inPlace==Tryz.pinned.checked.prog.inPlace 5))=true:=by kernel_rfl
theorem j10:((Rows.relayTwiceRow.unfollowed==Tryz.pinned.checked.prog.unfollowed 5))=true:=by kernel_rfl
theorem j11:((Rows.relayTwiceRow.recurses==Tryz.pinned.checked.prog.recurses 5))=true:=by kernel_rfl
theorem j12:((Rows.relayTwiceRow.named==Tryz.pinned.checked.prog.varsNamed 5))=true:=by kernel_rfl
theorem j13:((Rows.relayTwiceRow.maps==(Tryz.f5.params.toList++Rows.relayTwiceSpec.plain.varTypes Tryz.pinned.checked.prog).any (Tryz.pinned.checked.prog.mapsRec ·)))=true:=by kernel_rfl
theorem j14:((Rows.relayTwiceRow.ifaces==(Tryz.f5.params.toList++Rows.relayTwiceSpec.plain.varTypes Tryz.pinned.checked.prog).any (Tryz.pinned.checked.prog.ifacesRec ·)))=true:=by kernel_rfl
theorem j15:((Rows.relayTwiceRow.mapsOut==Tryz.pinned.checked.prog.mapsAmong Tryz.f5.resultTypes.toList))=true:=by kernel_rfl
theorem j16:((Rows.relayTwiceRow.loops==(Tryz.f5.params.toList++Rows.relayTwiceSpec.plain.varTypes Tryz.pinned.checked.prog).any (Tryz.pinned.checked.prog.loopsFrom ·)))=true:=by kernel_rfl
theorem j17:((Rows.relayTwiceRow.wideKeys==(Tryz.f5.params.toList++Rows.relayTwiceSpec.plain.varTypes Tryz.pinned.checked.prog++Tryz.f5.resultTypes.toList).any (Tryz.pinned.checked.prog.wideKeysFrom ·)))=true:=by kernel_rfl
theorem j18:(Rows.relayTwiceSpec.vars.all (Tryz.pinned.checked.prog.varReadable ·))=true:=by kernel_rfl
theorem j19:(Tryz.f5.resultTypes.all (λt=>Tryz.pinned.checked.prog.readableRec t&&decide (t<Tryz.pinned.checked.prog.types.size)))=true:=by kernel_rfl
theorem j20:((Rows.relayTwiceRow.ifacesOut==Tryz.f5.resultTypes.toList.any (Tryz.pinned.checked.prog.ifacesRec ·)))=true:=by kernel_rfl
theorem j21:((Rows.relayTwiceRow.loopsOut==Tryz.f5.resultTypes.toList.any (Tryz.pinned.checked.prog.loopsFrom ·)))=true:=by kernel_rfl
theorem j22:((Rows.relayTwiceRow.plainKeys==Tryz.pinned.checked.prog.plainKeys))=true:=by kernel_rfl
theorem j23:(Rows.relayTwiceRow.shortTexts.isNone)=true:=by kernel_rfl
theorem j24:(Tryz.pinned.checked.prog.stopsHeard)=true:=by kernel_rfl
theorem j25:(Tryz.pinned.checked.prog.mayEnter)=true:=by kernel_rfl
theorem j26:((Rows.relayTwiceRow.lifted==Tryz.pinned.checked.prog.liftsFinal))=true:=by kernel_rfl
theorem j27:((Tryz.pinned.checked.prog.make==some Rows.relayTwiceRow.make))=true:=by kernel_rfl
theorem j28:((Rows.relayTwiceRow.kinds==(if Rows.relayTwiceRow.domain.isEmpty then [] else Tryz.f5.params.toList.map λt=>match Tryz.pinned.checked.prog.underlying t with|some (.int k)=>some k|_=>none)))=true:=by kernel_rfl
theorem j29:((Rows.relayTwiceRow.pinned==Rows.relayTwiceRow.pinnedBy))=true:=by kernel_rfl
theorem j30:((Rows.relayTwiceRow.veiled==(Tryz.f5.params.toList++Rows.relayTwiceSpec.plain.varTypes Tryz.pinned.checked.prog++Tryz.f5.resultTypes.toList).any (Tryz.pinned.checked.prog.veiledRec ·)))=true:=by kernel_rfl
theorem j31:(Rows.relayTwiceRow.veiledFits Tryz.pinned.checked.prog Tryz.f5.params.toList (Tryz.f5.params.toList++Rows.relayTwiceSpec.plain.varTypes Tryz.pinned.checked.prog++Tryz.f5.resultTypes.toList))=true:=by kernel_rfl
theorem closed:joinedFacts Tryz.pinned.checked.prog 5 Tryz.f5 Rows.relayTwiceSpec Rows.relayTwiceRow=true:=by
 unfold joinedFacts;simp only[wN];exact⟨⟨⟨⟨⟨⟨⟨⟨⟨⟨⟨⟨⟨⟨⟨⟨⟨⟨⟨⟨⟨⟨⟨⟨⟨⟨⟨⟨⟨⟨⟨j0,j1⟩,j2⟩,j3⟩,j4⟩,j5⟩,j6⟩,j7⟩,j8⟩,j9⟩,j10⟩,j11⟩,j12⟩,j13⟩,j14⟩,j15⟩,j16⟩,j17⟩,j18⟩,j19⟩,j20⟩,j21⟩,j22⟩,j23⟩,j24⟩,j25⟩,j26⟩,j27⟩,j28⟩,j29⟩,j30⟩,j31⟩
theorem over:Rows.relayTwiceRow.holds Tryz.pinned (OpenSpec.ofChange Rows.relayTwiceSpec):=
 OpenClaim.holds_of_wide 5 Tryz.f5 rfl rfl rfl rfl rfl rfl rfl ⟨rfl,rfl,rfl,rfl,rfl⟩ rfl rfl rfl rfl rfl (by kernel_rfl) Tryz.func5 closed
  (of_decide_eq_true (by kernel_rfl)) (by unfold Func.isWrapper;first|(rw[if_pos (by decide +kernel)];kernel_rfl)|(rw[if_neg (by decide +kernel)];exact⟨rfl,rfl⟩))
  (λos started H enc _=>lifted os started H enc)
theorem proved:Rows.RelayTwiceCardSaid:=
 Claim7.holds_tied_plain_at .later [] [.data] true (true,"12e170d1944b94b951b0328fcf00c140d74f7b04ee2d5a4f0f8bea72198918bd") true
  over (λ_ h=>by cases h) (by kernel_rfl) (λ_ h=>by cases h) relayTwice_row_tie rfl ⟨rfl,rfl⟩ (by kernel_rfl) rfl
  (λf fn hf hfn=>by
   obtain rfl:f=5:=aKz ((show Tryz.prog.funcNamed Rows.relayTwiceRow.func=some 5 by kernel_rfl).symm.trans hf) |>.symm;obtain rfl:fn=Tryz.f5:=(aKz (Tryz.func5.symm.trans hfn)).symm;exact⟨by kernel_rfl,λj t ht=>by
    have hall:(Tryz.f5.params.toList.all λu=>!Tryz.prog.wantsStandIn u)=true:=by kernel_rfl
    have hm:t∈Tryz.f5.params.toList:=by simpa using Array.mem_of_getElem? ht
    exact(show Tryz.prog.wantsStandIn t=false by simpa using aDZ.1 hall t hm)⟩)
  (by kernel_rfl)
#print axioms proved
end Go.Proofs.YtppgkeodaejgcaaGreatDoor.relayTwice
