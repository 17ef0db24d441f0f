/- scan: the card of ScanSteps: notes that are taken at once are those that are taken one by one. -/
import Derived.Test.YtppgkeodaejgcaaGreatDoorSnOVC9
set_option linter.all false
set_option maxRecDepth 100000
open Go.Instr (loadAt fieldAt indexAt extract buildSlice build)
namespace Go.Proofs.YtppgkeodaejgcaaGreatDoor
section
open Go
def aYx(a b:It):ltI a b=decide (kl a.key b.key):=by
 unfold ltI;rw[zLm];simp only[Bool.or_eq_true,zI,decide_eq_true_eq];rfl
def aYL{l L:List It}(hp:l.Perm L)(hs:Srt L)(ho:l.Pairwise λa b=>ltI b a=false):l=L:=by
 have hn:(l.map It.key).Nodup:=(hp.map It.key).nodup_iff.2 hs.nodup;refine Srt.unique ?_ hs hp;unfold List.Nodup at hn;rw[List.pairwise_map] at hn;refine ho.imp₂ (λa b h1 h2=>?_) hn;rw[aYx] at h1;have h1:=of_decide_eq_false h1;rcases aRV h2 with h3|h3
 ·exact h3
 ·exact absurd h3 h1
def aLT{h:PH}{a:Nat}{L:List It}{room:Int}{F:List Nat}(H:uG h a L room F)(hL:L.length≤1000000){k:cD}
  (hk:∀v h' G,eO h' dV 5 v (L.map It.cells) G->eN h G->dC h h'->k v h'):aT PG aAI #[pT a 0] h k:=by
 apply aCN.call;unfold aCN;have hs:=H.srt;obtain⟨m,l,ha,hm,hp,rfl,ham⟩:=H.here;have hll:l.length≤1000000:=by rw[hp.length_eq];exact hL
 have c0:dB h ⟨a,0,none⟩=some (.map (some m)):=by simp[dB,ha]
 simp only[gP.f0,dP.load,c0,cE,reduceIte];refine aTv λbx h1 hbx hb u1=>?_;refine aSu hb (jP.ext hm u1) hll λv l1 h2 F2 hp2 hO f2 u2=>?_;refine aW0 hO (by rw[hp2.length_eq];exact hll) λl2 h3 hp3 ho hO3 u3=>?_;have hl2:l2=L:=aYL ((hp3.trans hp2).trans hp) hs ho;subst hl2;have uu:=(u1.trans u2).fresh u3 (f2.of u1);have lv:=hO3.slR.len (t':=bT) fN.und;rw[jB] at lv;obtain⟨zs,hz1,hz2⟩:=aCc (P:=PG) (n:=l2.length) fN.und dV.info dV.size dV.bytes dV.zero rfl (by decide) (by omega) (by omega);simp only[lv,hz1,cE,reduceIte];intro r hr;refine fT ?_
 try rw[cW]
 have u4:dC h3 (h3.set r (.cells zs dV)):=cT.new hr;have hR:eO (h3.set r (.cells zs dV)) dV 5 (.slice (some ⟨r,0,none⟩) l2.length l2.length) (List.replicate l2.length [.int .i64 0,.int .u64 0,.int .u64 0,.string ⟨#[]⟩,.int .i64 0]) [r]:=
  eO.lit (λx hx=>by rw[List.eq_of_mem_replicate hx];rfl) dJ (by simp) (by simp[rF];omega) (by rw[hz2];rfl)
 have hO4:=hO3.ext u4;have fr:h r=none:=uu.none hr;generalize h3.set r (.cells zs dV)=h4 at *;have hsl:=aI7 (P:=PG) (t:=fN) (a:=some ⟨r,0,none⟩) (len:=l2.length) (cap:=l2.length) (l:=0) (hh:=l2.length) (lo:=some (.int .i64 (0:Nat))) (hi:=some (.int .i64 l2.length)) fN.und dV.info (.inr ⟨.i64,rfl⟩) (.inr ⟨.i64,rfl⟩) (aG9 _) (pF _);have e1:(if l2.length=0 then some (⟨r,0,none⟩:Addr) else(some (⟨r,0,none⟩:Addr)).map (·.add (0*Tryz.t40.size)))=some ⟨r,0,none⟩:=by
  split
  ·rfl
  ·simp[lO]
 rw[e1] at hsl;refine aVt (n:=l2.length) (l:=0) (m:=l2.length) fN.und dV.info dV.size hR ⟨.i64,.i64,by simpa using hsl⟩ (aG9 _) (by simp) hO4.slR (It.isCell _) (by simp) ?_;intro h5 hR5 u5;have e2:List.take 0 (List.replicate l2.length ([.int .i64 0,.int .u64 0,.int .u64 0,.string ⟨#[]⟩,.int .i64 0]:List Value))++List.take l2.length (l2.map It.cells)++List.drop (0+l2.length) (List.replicate l2.length [.int .i64 0,.int .u64 0,.int .u64 0,.string ⟨#[]⟩,.int .i64 0])=l2.map It.cells:=by
  simp[mX]
 rw[e2] at hR5;exact hk _ h5 [r] hR5 (eN.one fr) ((uu.trans u4).fresh u5 (eN.one fr))
def Pk.eqIn{h:PH}{d:Nat}(m m':Pk):cH PG h (Op.equalIn (d+1+1) aR (.agg m.cells.toArray) (.agg m'.cells.toArray))=some (m.f==m'.f&&(m.s==m'.s&&(m.t==m'.t&&(m.d==m'.d&&true)))):=by
 refine(aBw aR.und (by kernel_rfl) (λf=>match f.offset with|0=>m.f==m'.f|1=>m.s==m'.s|2=>m.t==m'.t|_=>m.d==m'.d) ?_);intro f hf;simp only[gU,lH,or_false] at hf;rcases hf with rfl|rfl|rfl|rfl
 ·exact⟨by decide,_,_,jV bT.und rfl rfl,jV bT.und rfl rfl,wR bT.und⟩
 ·exact⟨by decide,_,_,jV cA.und rfl rfl,jV cA.und rfl rfl,wR cA.und⟩
 ·exact⟨by decide,_,_,jV cA.und rfl rfl,jV cA.und rfl rfl,wR cA.und⟩
 ·exact⟨by decide,_,_,jV bR.und rfl rfl,jV bR.und rfl rfl,aFn bR.und⟩
def It.eqIn{h:PH}(m m':It):cH PG h (Op.equalIn (9999+1) dV m.val m'.val)=some (decide (m=m')):=by
 have hm:cH PG h (Op.equalIn (9999+1) dV (.agg m.cells.toArray) (.agg m'.cells.toArray))=some ((m.p.f==m'.p.f&&(m.p.s==m'.p.s&&(m.p.t==m'.p.t&&(m.p.d==m'.p.d&&true))))&&(m.g==m'.g&&true)):=by
  refine(aBw dV.und (by kernel_rfl) (λf=>match f.offset with|0=>(m.p.f==m'.p.f&&(m.p.s==m'.p.s&&(m.p.t==m'.p.t&&(m.p.d==m'.p.d&&true))))|_=>m.g==m'.g) ?_);intro f hf;simp only[gU,lH,or_false] at hf;rcases hf with rfl|rfl
  ·exact⟨by decide,_,_,aLA aR.und rfl aR.info aR.size,aLA aR.und rfl aR.info aR.size,Pk.eqIn (d:=9997) m.p m'.p⟩
  ·exact⟨by decide,_,_,jV bT.und rfl rfl,jV bT.und rfl rfl,wR bT.und⟩
 show cH PG h (Op.equalIn (9999+1) dV (.agg m.cells.toArray) (.agg m'.cells.toArray))=_;rw[hm];congr 1;simp only[aEc];rw[zLm];obtain⟨⟨a,b,c,d⟩,g⟩:=m;obtain⟨⟨a',b',c',d'⟩,g'⟩:=m';simp[and_assoc]
def It.neq{h:PH}{x y:Operand}(m m':It):cH PG h (jW .neq dV x y m.val m'.val)=some (.bool (!decide (m=m'))):=aMn (by kernel_rfl) (It.eqIn m m')
def gB.it{h:PH}{x:Value}{xs:List It}(H:gB h 5 x (xs.map It.cells)){k:IntKind}{j:Nat}{m:It}(hm:xs[j]? =some m):
  ∃a,dG PG (indexAt fN x (.int k j))=some (.pointer (some a))∧cH PG h (loadAt dV (.pointer (some a)))=some m.val:=
 H.loadAgg fN.und dV.info dV.size dV.und rfl (by omega) (by rw[wK,qP,hm];rfl)
def gB.nt{h:PH}{x:Value}{xs:List Nt}(H:gB h 5 x (xs.map Nt.cells)){k:IntKind}{j:Nat}{m:Nt}(hm:xs[j]? =some m):
  ∃a,dG PG (indexAt cU x (.int k j))=some (.pointer (some a))∧cH PG h (loadAt dI (.pointer (some a)))=some (.agg m.cells.toArray):=
 H.loadAgg cU.und dI.info dI.size dI.und rfl (by omega) (by rw[wK,qP,hm];rfl)
def aSZ{h:PH}{x y:Value}{xs ys:List It}(hx:gB h 5 x (xs.map It.cells))(hy:gB h 5 y (ys.map It.cells))(hl:xs.length≤1000000){k:cD}
  (hk:k (.bool (decide (xs=ys))) h):aT PG aAD #[x,y] h k:=by
 have lx:=hx.len (t':=bT) fN.und;have ly:=hy.len (t':=bT) fN.und;rw[jB] at lx ly;apply pR.call;unfold pR;by_cases hlen:xs.length=ys.length
 ·have e1:((xs.length:Int) !=(ys.length:Int))=false:=by simp[hlen]
  simp only[lx,ly,e1,cE,reduceIte];refine⟨λvs h'=>∃i:Nat,i≤xs.length∧vs=[x,y,.int .i64 i]∧h'=h∧xs.take i=ys.take i,gV xs.length 2,⟨0,by omega,rfl,rfl,by simp⟩,?_⟩;rintro ρ h' ⟨i,hi,hvs,rfl,he⟩;simp only[iJ,iZ,lP,and_true] at hvs;obtain⟨e0,e1,e5⟩:=hvs;rw[e0,e1,e5];unfold aEY;by_cases hlt:i<xs.length
  ·have hd:((i:Int)<(xs.length:Int))=True:=by apply eq_true;omega
   obtain⟨m,hm⟩:∃m,xs[i]? =some m:=⟨_,lU hlt⟩;obtain⟨m',hm'⟩:∃m,ys[i]? =some m:=⟨_,lU (by omega)⟩;obtain⟨a,a1,a2⟩:=hx.it (k:=.i64) hm;obtain⟨b,b1,b2⟩:=hy.it (k:=.i64) hm';have e2:=qQ (i:=i) (by omega);by_cases hc:m=m'
   ·have e3:(!decide (m=m'))=false:=by simp[hc]
    simp only[lx,hd,a1,a2,b1,b2,e2,It.neq,e3,cE,reduceIte];exact⟨⟨i+1,by omega,rfl,by trivial,by rw[zLU,zLU,he,hm,hm',hc]⟩,by simp[gV,e5];omega⟩
   ·have e3:(!decide (m=m'))=true:=by simp[hc]
    simp only[lx,hd,a1,a2,b1,b2,It.neq,e3,cE,reduceIte];have:decide (xs=ys)=false:=by
     simp only[decide_eq_false_iff_not];rintro rfl;rw[hm] at hm';cases hm';exact hc rfl
    rw[this] at hk;exact hk
  ·have hd:((i:Int)<(xs.length:Int))=False:=by apply eq_false;omega
   simp only[lx,hd,cE,reduceIte];rw[mX (by omega),mX (by omega)] at he;rw[he] at hk;simpa using hk
 ·have e1:((xs.length:Int) !=(ys.length:Int))=true:=by simp;omega
  simp only[lx,ly,e1,cE,reduceIte];have:decide (xs=ys)=false:=by
   simp only[decide_eq_false_iff_not];rintro rfl;exact hlen rfl
  rw[this] at hk;exact hk
def aUe{h:PH}{r:Nat}(hr:h r=none)(n:Nt){k:cD}(hk:∀h',Bx h' r n.cells->h' r=some (.cells n.cells.toArray dI (0,0))->dC h h'->k undef h'):
  dA PG (dR dI (pT r 0) (.agg n.cells.toArray)) (h.set r (.cells (dS PG dI) dI)) k:=by
 refine rI dJ dI.info (by show 5=5;rfl) (by show 0<5;decide) (by rw[dI.zc];rfl) (by simp[Nt.cells,fX]) ?_;rw[uR];exact hk _ ⟨_,dJ⟩ dJ (cT.new hr)
def aZK{h:PH}{a:Nat}{L:List It}{room:Int}{F:List Nat}(H:uG h a L room F){x:Value}{ns:List Nt}(hx:gB h 5 x (ns.map Nt.cells))(hn:ns.length≤1000000){k:cD}
  (hk:∀h',dC h h'->k (.int .i64 (lR room L ns)) h'):aT PG aEy #[pT a 0,x] h k:=by
 have lx:=hx.len (t':=bT) cU.und;rw[jB] at lx;apply aEa.call;unfold aEa;refine aXe H λc h1 G H1 f1 u1=>?_;simp only[lx,cE,reduceIte];refine⟨λvs h'=>∃(i:Nat) (L':List It),i≤ns.length∧vs=[x,pT c 0,x,.int .i64 ns.length,.int .i64 i]∧uG h' c L' room G∧dC h h'∧lR room L ns=i+lR room L' (ns.drop i),gV ns.length 4,⟨0,L,by omega,rfl,H1,u1,by simp⟩,?_⟩;rintro ρ h' ⟨i,L',hi,hvs,HC,w,hf⟩;simp only[iJ,iZ,lP,and_true] at hvs;obtain⟨e0,e1,e2,e3,e4⟩:=hvs;rw[e0,e1,e2,e3,e4];unfold aIL;by_cases hlt:i<ns.length
 ·have hd:((i:Int)<(ns.length:Int))=True:=by apply eq_true;omega
  obtain⟨n,hm⟩:∃m,ns[i]? =some m:=⟨_,lU hlt⟩;obtain⟨y,y1,y2⟩:=(hx.ext w).nt (k:=.i64) hm;have e5:=qQ (i:=i) (by omega);have hdrop:ns.drop i=n::ns.drop (i+1):=by
   rw[aHh hlt];have:ns[i]=n:=by rw[lU hlt] at hm;simpa using hm
   rw[this]
  simp only[hd,y1,y2,cE,reduceIte];intro r hr
  try rw[cW]
  refine aUe hr n λh2 b2 _ u2=>?_;simp only[b2.nt,cE,reduceIte];refine aQq (HC.ext u2) n λh3 H3 u3=>?_;have w3:dC h h3:=(w.trans u2).fresh u3 f1;by_cases hz:aAY L' room n=0
  ·have e6:(aAY L' room n !=0)=false:=by simp[hz]
   simp only[e6,e5,cE,reduceIte];refine⟨⟨i+1,aAX L' room n,by omega,rfl,H3,w3,?_⟩,by simp[gV,e4];omega⟩;rw[hf,hdrop];show i+(if aAY L' room n=0 then _ else _)=_;rw[if_pos hz];omega
  ·have e6:(aAY L' room n !=0)=true:=by simp[hz]
   simp only[e6,cE,reduceIte];have:lR room L ns=i:=by
    rw[hf,hdrop];show i+(if aAY L' room n=0 then _ else _)=_;rw[if_neg hz];rfl
   rw[this] at hk;exact hk h3 w3
 ·have hd:((i:Int)<(ns.length:Int))=False:=by apply eq_false;omega
  simp only[hd,lx,cE,reduceIte];have hil:i=ns.length:=by omega
  rw[hil] at hf;rw[List.drop_length] at hf;have:lR room L ns=ns.length:=hf;rw[this] at hk;exact hk h' w
def chI(c:Nat):Value:=.iface cZ (pT c 0)
def mkI(c:Nat):dG PG (Instr.makeInterface cZ (pT c 0))=some (chI c):=by kernel_rfl
def aVh{h:PH}{c:Nat}:cH PG h (do let p ←program;method (p.types.size+Made.depth) cZ (pT c 0) "Log")=some (aAt,pT c 0):=by kernel_rfl
def aQi{h:PH}{c:Nat}{args:Array Value}{R:cD}(H:aT PG aAt (#[pT c 0]++args) h R):aQF PG (chI c) "Log" args h R:=by
 unfold aQF chI;have e:callMethod (.iface cZ (pT c 0)) "Log" args=((do let p ←program;method (p.types.size+Made.depth) cZ (pT c 0) "Log") >>= λx=>callFunc x.1 (#[x.2]++args)):=rfl;rw[e];exact iE aVh (aLg H)
def aXN{L:List It}{room:Int}{n:Nt}(h:aAY L room n≠0):aAX L room n=L:=by
 unfold aAY at h;unfold aAX;by_cases hr:n.right=false
 ·rw[if_pos hr]
 rw[if_neg hr] at h ⊢;by_cases h1:n.k=1
 ·rw[if_pos h1] at h ⊢;by_cases hg:(mH L n.p.key).isSome=true
  ·rw[if_pos hg] at h;exact absurd rfl h
  ·rw[if_neg hg] at h ⊢;unfold aGT at h;unfold aDI;split at h
   ·rename_i hc;rw[if_pos hc]
   ·exact absurd rfl h
 ·rw[if_neg h1] at h ⊢;by_cases h2:n.k=2
  ·rw[if_pos h2] at h ⊢;by_cases hg:(mH L n.p.key).isSome=true
   ·rw[if_pos hg] at h;exact absurd rfl h
   ·rw[if_neg hg] at h;have:mH L n.p.key=none:=by cases hx:mH L n.p.key<;>simp_all
    rw[this];unfold aGT at h;unfold aDI;split at h
    ·rename_i hc;simp only;rw[if_pos hc]
    ·exact absurd rfl h
  ·rw[if_neg h2] at h;exact absurd rfl h
def aNi{h:PH}{c:Nat}{s:Ch}{F:List Nat}(H:jA c s h F){q:Pl}(wq1:0≤q.h)(wq2:q.h<18446744073709551616)(wq3: -9223372036854775808≤q.i)(wq4:q.i<9223372036854775808){a:Nat}{L:List It}{room:Int}{G:List Nat}(T:uG h a L room G){most:Nat}(hm:most≤1000000)(hl:(nN s q (most:Int)).1.length≤1000000){kk:cD}
  (hk:∀h' v Fl,eO h' dI 5 v ((aCG s q most room L).1.map Nt.cells) Fl->eN h Fl->dC h h'->kk (.tuple #[v,(aCG s q most room L).2.v]) h'):aT PG aEr #[chI c,q.v,.int .i64 (most:Int),pT a 0] h kk:=by
 apply aGZ.call;unfold aGZ;intro r1 hr1
 try rw[cW]
 have u1:dC h (h.set r1 (.cells (Value.cells q.v) dF)):=cT.new hr1;have B1:Bx (h.set r1 (.cells (Value.cells q.v) dF)) r1 q.cells:=Bx.new;generalize h.set r1 (.cells (Value.cells q.v) dF)=h1 at *;intro r3 hr3
 try rw[cW]
 have u3:dC h1 (h1.set r3 (.cells (dS PG dF) dF)):=cT.new hr3;have B3:Bx (h1.set r3 (.cells (dS PG dF) dF)) r3 (Pl.cells ⟨0,0⟩):=dF.zbox;have C1:=B1.ext u3;generalize h1.set r3 (.cells (dS PG dF) dF)=h3 at *;have e3:=u1.trans u3;have k3:h r3=none:=u1.none hr3;simp only[C1.place,cE,reduceIte,cV,Nat.reduceAdd];refine aQi ?_;refine aRs ((jA.good _ _).ext H e3) wq1 wq2 wq3 wq4 (by omega) (by omega) λh4 v Fl O f4 u4=>?_;simp only[cE,reduceIte,cV,Nat.reduceAdd];intro r10 hr10
 try rw[cW]
 refine dF.fill (vs:=(nN s q (most:Int)).2.cells) hr10 rfl (Pl.isC _) λh5 B10 u5=>?_;have e5:=(e3.trans u4).trans u5;refine aZK (T.ext e5) (O.ext u5).slR hl λh6 u6=>?_;have e6:=e5.trans u6;have B3k:=B3.known;have B3:=((B3.ext u4).ext u5).ext u6;have O6:=(O.ext u5).ext u6;have f6:eN h Fl:=λy hy=>e3.none (f4 y hy);have lv:dG PG (Builtin.len_ #[cU] bT #[v])=some (.int .i64 ((nN s q (most:Int)).1.length:Int)):=by
  have:=O.slR.len (t':=bT) cU.und;rw[jB] at this;exact this
 by_cases hc:lR room L (nN s q (most:Int)).1<(nN s q (most:Int)).1.length
 ·have g:((lR room L (nN s q (most:Int)).1:Int)<((nN s q (most:Int)).1.length:Int))=True:=eq_true (by omega);have en:aCG s q most room L=nN s q ((lR room L (nN s q (most:Int)).1:Nat):Int):=by unfold aCG;rw[if_pos hc]
  rw[en] at hk;simp only[lv,g,(((C1.ext u4).ext u5).ext u6).place,cE,reduceIte,cV,Nat.reduceAdd];refine aQi ?_;refine aRs ((jA.good _ _).ext H e6) wq1 wq2 wq3 wq4 (by omega) (by omega) λh7 v2 Fl2 O2 f7 u7=>?_;simp only[cE,reduceIte,cV,Nat.reduceAdd];refine dF.put (vs:=(nN s q ((lR room L (nN s q (most:Int)).1:Nat):Int)).2.cells) (B3.ext u7) (o:=0) rfl (by show 0+2≤2;decide) (Pl.isC _) λh8 B8 u8=>?_;have B8:Bx h8 r3 (nN s q ((lR room L (nN s q (most:Int)).1:Nat):Int)).2.cells:=B8;have e8:dC h h8:=(e6.trans u7).fresh u8 (eN.one k3);simp only[B8.place,cE,reduceIte,cV,Nat.reduceAdd];refine hk h8 v2 Fl2 (O2.upd u8 (λy hy hm=>?_)) (λy hy=>e6.none (f7 y hy)) e8;simp only[gE] at hm;exact B3.known (hm▸f7 y hy)
 ·have g:((lR room L (nN s q (most:Int)).1:Int)<((nN s q (most:Int)).1.length:Int))=False:=eq_false (by omega);have en:aCG s q most room L=nN s q (most:Int):=by unfold aCG;rw[if_neg hc]
  rw[en] at hk;simp only[lv,g,(B10.ext u6).place,cE,reduceIte,cV,Nat.reduceAdd];refine dF.put (vs:=(nN s q (most:Int)).2.cells) B3 (o:=0) rfl (by show 0+2≤2;decide) (Pl.isC _) λh8 B8 u8=>?_;have B8:Bx h8 r3 (nN s q (most:Int)).2.cells:=B8;have e8:dC h h8:=e6.fresh u8 (eN.one k3);simp only[B8.place,cE,reduceIte,cV,Nat.reduceAdd];refine hk h8 v Fl (O6.upd u8 (λy hy hm=>?_)) f6 e8;simp only[gE] at hm;exact B3k (hm▸f4 y hy)
def aUI(room:Int)(L:List It)(n:Nt)(ns:List Nt):lR room L (n::ns)=if aAY L room n=0 then lR room (aAX L room n) ns+1 else 0:=rfl
def aYO{room:Int}:∀{L:List It} (ns:List Nt) (i:Nat),i≤lR room L ns->lR room L ns=i+lR room (aCW room L (ns.take i)) (ns.drop i):=fun {L} ns i hi=>by
 have h:=aNl (room:=room) (L:=L) ns i hi;omega
def aWK{room:Int}{L:List It}{ns:List Nt}{i:Nat}{n:Nt}(h:ns[i]? =some n):aCW room L (ns.take (i+1))=aAX (aCW room L (ns.take i)) room n:=by
 rw[zLU,h,aRI];rfl
def aMi{h:PH}{a:Nat}{L:List It}{room:Int}{F:List Nat}(T:uG h a L room F){v:Value}{ns:List Nt}{G:List Nat}(O:eO h dI 5 v (ns.map Nt.cells) G)(hd:∀y∈G,y∉F)(hn:ns.length≤1000000){kk:cD}
  (hk:∀h' e,uG h' a (aCW room L (ns.take (lR room L ns))) room F->cT F h h'->(lR room L ns=ns.length->e=0)->kk (.tuple #[.int .i64 (lR room L ns:Int),.int .i64 e]) h'):aT PG aF9 #[pT a 0,v] h kk:=by
 apply aIr.call;unfold aIr;have lv:dG PG (Builtin.len_ #[cU] bT #[v])=some (.int .i64 (ns.length:Int)):=by
  have:=O.slR.len (t':=bT) cU.und;rw[jB] at this;exact this
 have fle:=aOE (room:=room) (L:=L) ns;simp only[lv,cE,reduceIte,cV,Nat.reduceAdd];refine⟨λvs h'=>∃i:Nat,i≤lR room L ns∧vs=[pT a 0,v,v,.int .i64 ns.length,.int .i64 i]∧uG h' a (aCW room L (ns.take i)) room F∧cT F h h',gV ns.length 4,⟨0,by omega,rfl,T,cT.refl⟩,?_⟩;rintro ρ h' ⟨i,hi,hvs,T',u⟩;simp only[iJ,iZ,lP,and_true] at hvs;obtain⟨e0,e1,e2,e3,e4⟩:=hvs;rw[e0,e1,e2,e3,e4];unfold aLh;have hat:=aYO (room:=room) (L:=L) ns i hi;by_cases hlt:i<ns.length
 ·have g:((i:Int)<(ns.length:Int))=True:=eq_true (by omega);have gi:=qQ (i:=i) (by omega);obtain⟨n,hm⟩:∃m,ns[i]? =some m:=⟨_,lU hlt⟩;obtain⟨y,y1,y2⟩:=(O.upd u hd).slR.nt (k:=.i64) hm;have hdrop:ns.drop i=n::ns.drop (i+1):=by
   rw[aHh hlt];have:ns[i]=n:=by rw[lU hlt] at hm;simpa using hm
   rw[this]
  rw[hdrop,aUI] at hat;simp only[g,y1,y2,cE,reduceIte,cV,Nat.reduceAdd];intro r hr
  try rw[cW]
  refine aUe hr n λh2 b2 _ u2=>?_;simp only[b2.nt,cE,reduceIte,cV,Nat.reduceAdd];refine aQq (T'.ext u2) n λh3 T3 u3=>?_;have w3:cT F h h3:=(u.trans u2.upd).trans u3;by_cases hz:aAY (aCW room L (ns.take i)) room n=0
  ·rw[if_pos hz] at hat;have e6:(aAY (aCW room L (ns.take i)) room n !=0)=false:=by simp[hz]
   simp only[kP,e6,gi,cE,reduceIte,cV,Nat.reduceAdd];rw[←aWK hm] at T3;exact⟨⟨i+1,by omega,rfl,T3,w3⟩,by simp[gV,e4];omega⟩
  ·rw[if_neg hz] at hat;have e6:(aAY (aCW room L (ns.take i)) room n !=0)=true:=by simp[hz]
   simp only[kP,e6,cE,reduceIte,cV,Nat.reduceAdd];rw[aXN hz] at T3;have ei:lR room L ns=i:=by omega
   rw[ei] at hk;exact hk h3 _ T3 w3 (by omega)
 ·have g:((i:Int)<(ns.length:Int))=False:=eq_false (by omega);simp only[g,lv,cE,reduceIte,cV,Nat.reduceAdd];have ei:lR room L ns=i:=by omega
  have en:i=ns.length:=by omega
  rw[ei] at hk;have:=hk h' 0 T' u (λ_=>rfl);rw[en] at this;exact this
def aO1{h:PH}{x y:Operand}{a:Nat}:cH PG h (jW .eql rL x y (pT a 0) (.pointer none))=some (.bool false):=aCx rL.und
def aOR{h:PH}{room:Int}(h1:1≤room)(h2:room≤40){kk:cD}
  (hk:∀h' a r F,uG h' a [] room F->eN h F->dC h h'->kk (.tuple #[pT a 0,pT r 0]) h'):aT PG xH #[.int .i64 room,.slice none 0 0] h kk:=by
 apply aAu.call;unfold aAu;refine aUF room (λhbad=>by omega) λ_ _ a h3 F3 H3 f3 u3=>?_;have z0:((0:Int) !=0)=false:=by decide
 have rb:dG PG (build uY #[(1,.int .i64 room)])=some (.agg #[.slice none 0 0,.int .i64 room]):=by kernel_rfl
 have l0:dG PG (Builtin.len_ #[cU] bT #[.slice none 0 0])=some (.int .i64 0):=by kernel_rfl
 simp only[kP,z0,aO1,rb,cE,reduceIte,cV,Nat.reduceAdd];intro r hr
 try rw[cW]
 have u4:dC h3 (h3.set r (.cells (Value.cells (.agg #[.slice none 0 0,.int .i64 room])) uY)):=cT.new hr;generalize h3.set r (.cells (Value.cells (.agg #[.slice none 0 0,.int .i64 room])) uY)=h4 at *;refine⟨λvs h'=>vs=[.slice none 0 0,pT a 0,pT r 0,.int .i64 0]∧h'=h4,λ_ _=>0,⟨rfl,rfl⟩,?_⟩;rintro ρ h' ⟨hvs,rfl⟩;simp only[iJ,iZ,lP,and_true] at hvs;obtain⟨e0,e1,e2,e3⟩:=hvs;rw[e0,e1,e2,e3];unfold aFR;have g:((0:Int)<0)=False:=eq_false (by decide);simp only[l0,g,cE,reduceIte,cV,Nat.reduceAdd];exact hk h' a r F3 (H3.ext u4) f3 (u3.trans u4)
def aWR{h:PH}{s0 s1:Nat}{v:Value}{l:List kG}(S:gB h 9 v (l.map kG.cells)){k:cD}(hk:∀h' b,(b=true->s0≠0∧s1≠0∧l.length≤50∧∀x∈l,x.d.length≤2000)->dC h h'->k (.bool b) h'):aT PG aD8 #[vL s0 s1,v] h k:=by
 apply aDQ.call;unfold aDQ;intro r1 hr1
 try rw[cW]
 have u1:dC h (h.set r1 (.cells (Value.cells (vL s0 s1)) eS)):=cT.new hr1;have B1:Bx (h.set r1 (.cells (Value.cells (vL s0 s1)) eS)) r1 (u2c s0 s1):=Bx.new;generalize h.set r1 (.cells (Value.cells (vL s0 s1)) eS)=h1 at *;have i0:dG PG (indexAt eS (pT r1 0) (.int .i64 0))=some (pT r1 0):=aO0 (i:=0) (by decide);have i1:dG PG (indexAt eS (pT r1 0) (.int .i64 1))=some (pT r1 1):=by have:=aO0 (r:=r1) (o:=0) (i:=1) (by decide);rw[fO] at this;exact this
 have l0:cH PG h1 (loadAt cA (pT r1 0))=some (.int .u64 (s0:Int)):=by rw[cA.load,B1.cell];rfl
 have l1:cH PG h1 (loadAt cA (pT r1 1))=some (.int .u64 (s1:Int)):=by rw[cA.load,B1.cell];rfl
 have ll:=aOy S;have no:k (.bool false) h1:=hk h1 false (λe=>by cases e) u1;by_cases z0:s0=0
 ·have q:((s0:Int)==0)=true:=by rw[z0];rfl
  simp only[i0,l0,iG,q,cE,reduceIte,cV,Nat.reduceAdd];exact no
 have q0:((s0:Int)==0)=false:=by rw[beq_eq_false_iff_ne];omega
 by_cases z1:s1=0
 ·have q:((s1:Int)==0)=true:=by rw[z1];rfl
  simp only[i0,l0,i1,l1,iG,q0,q,cE,reduceIte,cV,Nat.reduceAdd];exact no
 have q1:((s1:Int)==0)=false:=by rw[beq_eq_false_iff_ne];omega
 by_cases z2:50<l.length
 ·have g:((50:Int)<(l.length:Int))=True:=eq_true (by omega);simp only[i0,l0,i1,l1,iG,q0,q1,ll,g,cE,reduceIte,cV,Nat.reduceAdd];exact no
 have g:((50:Int)<(l.length:Int))=False:=eq_false (by omega);simp only[i0,l0,i1,l1,iG,q0,q1,ll,g,cE,reduceIte,cV,Nat.reduceAdd];refine⟨λvs h'=>∃i:Nat,i≤l.length∧vs=[v,.int .i64 (i:Int)]∧h'=h1∧∀x∈l.take i,x.d.length≤2000,gV l.length 1,⟨0,by omega,rfl,rfl,by simp⟩,?_⟩;rintro ρ h' ⟨i,hi,hvs,rfl,hall⟩;simp only[iJ,iZ,lP,and_true] at hvs;obtain⟨v0,v1⟩:=hvs;unfold aHQ;rw[v0,v1];by_cases hlt:i<l.length
 ·have g1:((i:Int)<(l.length:Int))=True:=eq_true (by omega);have gi:=qQ (i:=i) (by omega);obtain⟨y,hx⟩:∃y,l[i]? =some y:=⟨_,lU hlt⟩;obtain⟨b,o,a1,a2,a3,-⟩:=(S.ext u1).tac hx;have ld:dG PG (Builtin.len_ #[bR] bT #[.string (tx y.d)])=some (.int .i64 (y.d.length:Int)):=by rw[mL bR.und,iF]
  have lp:dG PG (Builtin.len_ #[bR] bT #[.string y.p.d])=some (.int .i64 (y.p.d.size:Int)):=mL bR.und;by_cases y1:2000<y.d.length
  ·have g2:((2000:Int)<(y.d.length:Int))=True:=eq_true (by omega);simp only[ll,g1,a1,cG.f3,bR.load,a2,ld,g2,cE,reduceIte,cV,Nat.reduceAdd];exact no
  have g2:((2000:Int)<(y.d.length:Int))=False:=eq_false (by omega);by_cases y2:300<y.p.d.size
  ·have g3:((300:Int)<(y.p.d.size:Int))=True:=eq_true (by omega);simp only[ll,g1,a1,cG.f3,cG.f4,aR.f3,Nat.add_assoc,Nat.reduceAdd,bR.load,a2,a3,ld,lp,g2,g3,cE,reduceIte,cV,Nat.reduceAdd];exact no
  have g3:((300:Int)<(y.p.d.size:Int))=False:=eq_false (by omega);simp only[ll,g1,a1,cG.f3,cG.f4,aR.f3,Nat.add_assoc,Nat.reduceAdd,bR.load,a2,a3,ld,lp,g2,g3,gi,cE,reduceIte,cV,Nat.reduceAdd];refine⟨⟨i+1,by omega,rfl,by first|rfl|trivial,λz hz=>?_⟩,by simp[gV,v1];omega⟩;rw[zLU,hx] at hz;rcases kA.1 hz with hz|hz
  ·exact hall z hz
  ·simp only[Option.toList_some,gE] at hz;subst hz;omega
 ·have g1:((i:Int)<(l.length:Int))=False:=eq_false (by omega);rw[mX (by omega)] at hall;simp only[ll,g1,cE,reduceIte,cV,Nat.reduceAdd];exact hk h' true (λ_=>⟨z0,z1,by omega,hall⟩) u1
def ya:Ch:=Ch.new 0 5 1
def yb:Ch:=Ch.new 1 5 1
def yp:Pk:=kE ya [] 9
def ya1:Ch:=ya.sent yp
def y1:kG:=⟨0,0,9,[],default,false⟩
def y2:kG:=⟨5,0,0,[],default,false⟩
def aV7:yp.right=true:=by decide
def aYr:qG ya [] 9=0:=by
 have h1:decide (aJI ya.cl<((9:Nat):Int))=true:=by
  rw[show ya.cl=[] from rfl,aRM];decide
 have h2:(kE ya [] 9).right=true:=aV7;unfold qG qX;rw[if_neg (by decide),h1,h2];rfl
def aYt:aDx (ya,yb) y1=(ya1,yb):=by
 unfold aDx kY;rw[if_neg (show ¬y1.clean.id=1 by decide)];have:nW ya yb y1.clean=(ya1,(yp,0,0)):=by
  unfold nW;rw[if_pos (show y1.clean.kind=0 from rfl),show y1.clean.d=[] from rfl,show y1.clean.h=9 from rfl,if_pos aYr];rfl
 show((nW ya yb y1.clean).1,yb)=_;rw[this]
def b55:dG PG (build eS #[(0,(Value.int IntKind.u64 5)),(1,(Value.int IntKind.u64 5))])=some (vL 5 5):=by kernel_rfl
def b11:dG PG (build eS #[(0,(Value.int IntKind.u64 1)),(1,(Value.int IntKind.u64 1))])=some (vL 1 1):=by kernel_rfl
def bAI:dG PG (build cG #[(2,(Value.int IntKind.u64 9))])=some y1.v:=by kernel_rfl
def bAM:dG PG (build cG #[(0,(Value.int IntKind.i64 5))])=some y2.v:=by kernel_rfl
def za:Ch:=ya1.sent (kE ya1 [] 9)
def zb:Ch:=za.committed
def aY3:qG ya1 [] 9=0:=by
 have h1:decide (aJI ya1.cl<((9:Nat):Int))=true:=by
  rw[show ya1.cl=[] from rfl,aRM];decide
 have h2:(kE ya1 [] 9).right=true:=by decide
 unfold qG qX;rw[if_neg (by decide),h1,h2];rfl
def aYN:aDx (ya1,yb) y1=(za,yb):=by
 unfold aDx kY;rw[if_neg (show ¬y1.clean.id=1 by decide)];have:nW ya1 yb y1.clean=(za,(kE ya1 [] 9,0,0)):=by
  unfold nW;rw[if_pos (show y1.clean.kind=0 from rfl),show y1.clean.d=[] from rfl,show y1.clean.h=9 from rfl,if_pos aY3];rfl
 show((nW ya1 yb y1.clean).1,yb)=_;rw[this]
def aYW:aDx (za,yb) y2=(zb,yb):=by
 unfold aDx kY;rw[if_neg (show ¬y2.clean.id=1 by decide)];rfl
def aZz:aIl (ya,yb) [y1,y1,y2]=(zb,yb):=by
 show aDx (aDx (aDx (ya,yb) y1) y1) y2=_;rw[aYt,aYN,aYW]
def aYp:aCG zb ⟨5,0⟩ 9 1 []=([⟨1,yp⟩],⟨6,1⟩):=by rfl
def aZs:(nN zb ⟨5,0⟩ 9).1.length=2:=by rfl
def aXB:zb.first=5:=by rfl
def aY1{h:PH}{d:Nat}(q q':Pl):cH PG h (Op.equalIn (d+1+1) dF q.v q'.v)=some (decide (q=q')):=by
 unfold Pl.v;rw[aBw dF.und (by kernel_rfl) (λf=>match f.offset with|0=>q.h==q'.h|_=>q.i==q'.i)]
 ·congr 1;rw[zLm];obtain⟨a,b⟩:=q;obtain⟨a',b'⟩:=q';simp
 ·intro f hf;simp only[gU,lH,or_false] at hf;rcases hf with rfl|rfl
  ·exact⟨by decide,_,_,jV cA.und rfl rfl,jV cA.und rfl rfl,wR cA.und⟩
  ·exact⟨by decide,_,_,jV bT.und rfl rfl,jV bT.und rfl rfl,wR bT.und⟩
def aZo{h:PH}{x y:Operand}(q q':Pl):cH PG h (jW .eql dF x y q.v q'.v)=some (.bool (decide (q=q'))):=aL7 (by kernel_rfl) (aY1 (d:=9998) q q')
def aWj{h:PH}{x y:Operand}{c:Nat}:cH PG h (jW .eql cZ x y (pT c 0) (.pointer none))=some (.bool false):=aCx cZ.und
def aWP(x y z:kG):jZ PG (buildSlice iX 3 #[(0,x.v),(1,y.v),(2,z.v)])=some (.cells (x.cells++y.cells++z.cells).toArray cG,λr=>pure (.slice (some ⟨r,0,none⟩) 3 3)):=by kernel_rfl
def aY6:dG PG (build dF #[(0,(Value.int IntKind.u64 6)),(1,(Value.int IntKind.i64 1))])=some (Pl.v ⟨6,1⟩):=by kernel_rfl
def aTE{h:PH}(hK:oL h){k:cD}(hk:∀h',dC h h'->k (.bool true) h'):aT PG aCe #[] h k:=by
 apply sV.call;unfold sV;simp only[b55,b11,bAI,bAM,aWP,cE,reduceIte,cV,Nat.reduceAdd];intro r5 hr5;refine fT ?_
 try rw[cW]
 have u1:dC h (h.set r5 (.cells (y1.cells++y1.cells++y2.cells).toArray cG)):=cT.new hr5;have S1:gB (h.set r5 (.cells (y1.cells++y1.cells++y2.cells).toArray cG)) 9 (.slice (some ⟨r5,0,none⟩) 3 3) ([y1,y1,y2].map kG.cells):=(eO.lit (n:=3) (kG.rows _) dJ (by simp) (by decide) (by simp)).slR;generalize h.set r5 (.cells (y1.cells++y1.cells++y2.cells).toArray cG)=h1 at *;refine aPt (a:=5) (b:=5) (s0:=1) (s1:=1) (hK.ext u1) (by decide) (by decide) (by decide) (by decide) (by decide) (by decide) S1 (λx hx=>?_) (by decide) (λx hx=>?_) λh2 c0 c1 m d0 d1 bk mm K A n F W f2 u2 M=>?_
 ·simp only[gU,lH,or_false] at hx;rcases hx with rfl|rfl|rfl<;>exact⟨by decide,⟨by decide,by decide,by decide,by decide⟩⟩
 ·simp only[gU,lH,or_false] at hx;rcases hx with rfl|rfl|rfl<;>decide
 have er:aIl (Ch.new 0 5 1,Ch.new 1 5 1) [y1,y1,y2]=(zb,yb):=aZz;rw[er] at W M;have e2:=u1.trans u2;simp only[cE,reduceIte,cV,Nat.reduceAdd];intro r14 hr14
 try rw[cW]
 refine dN.fill (vs:=arC c0 c1) hr14 rfl (aOv c0 c1) λh3 B3 u3=>?_;refine aUF 1 (λhbad=>by omega) λ_ _ a h4 F4 T4 f4 u4=>?_;have e24:=u3.trans u4;obtain⟨Fa,HT,-,-⟩:=eI.left (DTw.good _ _ _ _ _ _ _ _ _ _) W;obtain⟨F0,F1,-,H0,-,-⟩:=HT;have H4:=(jA.good _ _).ext H0 e24;have j0:dG PG (indexAt dN (pT r14 0) (.int .i64 0))=some (pT r14 0):=aLW (i:=0) (by decide);have l0:∀{h':PH},dC h4 h'->cH PG h' (loadAt cZ (pT r14 0))=some (pT c0 0):=λu=>by rw[cZ.load,((B3.ext u4).ext u).cell];rfl
 have z0:((0:Int) !=0)=false:=by decide
 simp only[j0,l0 cT.refl,aWj,aO1,kP,z0,mkI,eH.f0,fO,cE,reduceIte,cV,Nat.reduceAdd];refine aMJ H4 λh5 u5=>?_;refine⟨l0 u5,?_⟩;rw[aXB];have hl:(nN zb ⟨(5:Nat),0⟩ ((9:Nat):Int)).1.length≤1000000:=by
  have:(nN zb ⟨(5:Nat),0⟩ ((9:Nat):Int)).1.length=2:=aZs;omega
 refine aNi (most:=9) ((jA.good _ _).ext H4 u5) (q:=⟨(5:Nat),0⟩) (by decide) (by decide) (by decide) (by decide) (T4.ext u5) (by decide) hl λh6 v Fl O f6 u6=>?_;have zn:aCG zb ⟨(5:Nat),0⟩ 9 1 []=([⟨1,yp⟩],⟨6,1⟩):=aYp;rw[zn] at O ⊢;simp only[cE,reduceIte,cV,Nat.reduceAdd];intro r54 hr54
 try rw[cW]
 refine dF.fill (vs:=Pl.cells ⟨6,1⟩) hr54 rfl (Pl.isC _) λh7 B7 u7=>?_;have lv:dG PG (Builtin.len_ #[cU] bT #[v])=some (.int .i64 1):=by
  have:=O.slR.len (t':=bT) cU.und;exact this
 have q1:((1:Int)==1)=true:=rfl;have q2:((0:Int)==0)=true:=rfl;simp only[lv,iG,q1,B7.place,aY6,aZo,decide_true,cE,reduceIte,cV,Nat.reduceAdd];refine aZJ (((T4.ext u5).ext u6).ext u7) ?_;have q3:(((([]:List It).length:Nat):Int)==0)=true:=rfl;simp only[iG,q3,cE,reduceIte,cV,Nat.reduceAdd];exact hk h7 ((((e2.trans e24).trans u5).trans u6).trans u7)
def aCu(a:Nat)(L:List It)(room:Int):mT:=λh F=>uG h a L room F
def aCu.good(a:Nat)(L:List It)(room:Int):mE (aCu a L room):=⟨λH=>uG.known H,λH u hK=>uG.upd H u hK⟩
def nsA(v:Value)(ns:List Nt):mT:=λh F=>eO h dI 5 v (ns.map Nt.cells) F
def nsA.good(v:Value)(ns:List Nt):mE (nsA v ns):=⟨λO=>O.known,λO u hK=>O.upd u hK⟩
def scW(a:Nat)(L:List It)(room:Int)(r:Nat)(q:Pl)(gv:Value)(got:List Nt)(v:Value)(all:List Nt)(re:Nat)(e:Pl):mT:=eI (aCu a L room) (eI (oJ r q.cells) (eI (nsA gv got) (eI (nsA v all) (oJ re e.cells))))
def scW.g3(v:Value)(all:List Nt)(re:Nat)(e:Pl):mE (eI (nsA v all) (oJ re e.cells)):=(nsA.good _ _).star (oJ.good _ _)
def scW.g2(gv:Value)(got:List Nt)(v:Value)(all:List Nt)(re:Nat)(e:Pl):mE (eI (nsA gv got) (eI (nsA v all) (oJ re e.cells))):=(nsA.good _ _).star (scW.g3 _ _ _ _)
def scW.g1(r:Nat)(q:Pl)(gv:Value)(got:List Nt)(v:Value)(all:List Nt)(re:Nat)(e:Pl):mE (eI (oJ r q.cells) (eI (nsA gv got) (eI (nsA v all) (oJ re e.cells)))):=(oJ.good _ _).star (scW.g2 _ _ _ _ _ _)
def scW.good(a:Nat)(L:List It)(room:Int)(r:Nat)(q:Pl)(gv:Value)(got:List Nt)(v:Value)(all:List Nt)(re:Nat)(e:Pl):mE (scW a L room r q gv got v all re e):=(aCu.good _ _ _).star (scW.g1 _ _ _ _ _ _ _ _)
section
variable{a:Nat}{L:List It}{room:Int}{r:Nat}{q:Pl}{gv:Value}{got:List Nt}{v:Value}{all:List Nt}{re:Nat}{e:Pl}{h:PH}{F:List Nat}(H:scW a L room r q gv got v all re e h F)
include H
def scW.fTab:uC h F (aCu a L room) (λX=>eI X (eI (oJ r q.cells) (eI (nsA gv got) (eI (nsA v all) (oJ re e.cells))))):=eI.left (scW.g1 _ _ _ _ _ _ _ _) H
def scW.fPl:uC h F (oJ r q.cells) (λX=>eI (aCu a L room) (eI X (eI (nsA gv got) (eI (nsA v all) (oJ re e.cells))))):=(eI.right (aCu.good _ _ _) H).comp λ_ H=>eI.left (scW.g2 _ _ _ _ _ _) H
def scW.fGot:uC h F (nsA gv got) (λX=>eI (aCu a L room) (eI (oJ r q.cells) (eI X (eI (nsA v all) (oJ re e.cells))))):=(eI.right (aCu.good _ _ _) H).comp λ_ H=>(eI.right (oJ.good _ _) H).comp λ_ H=>eI.left (scW.g3 _ _ _ _) H
def scW.here:(∃Ft,uG h a L room Ft∧∀b∈Ft,b∈F)∧Bx h r q.cells∧r∈F∧(∃Fg,eO h dI 5 gv (got.map Nt.cells) Fg∧∀b∈Fg,b∈F)∧(∃Fv,eO h dI 5 v (all.map Nt.cells) Fv∧∀b∈Fv,b∈F)∧Bx h re e.cells:=by
 obtain⟨Fa,Fb,rfl,hT,⟨Fc,Fd,rfl,⟨rfl,hB⟩,⟨Fe,Ff,rfl,hG,⟨Fg,Fh,rfl,hV,⟨rfl,hE⟩,-⟩,-⟩,-⟩,-⟩:=H;exact⟨⟨Fa,hT,λb hb=>by simp[hb]⟩,hB,by simp,⟨Fe,hG,λb hb=>by simp[hb]⟩,⟨Fg,hV,λb hb=>by simp[hb]⟩,hE⟩
end
def aZX{h:PH}{x y:Operand}(q:Pl):cH PG h (jW .neq dF x y q.v q.v)=some (.bool false):=by
 have:=aMn (P:=PG) (h:=h) (t:=dF) (x:=x) (y:=y) (by kernel_rfl) (aY1 (d:=9998) q q);rw[decide_eq_true rfl] at this;exact this
def scV(t:Nat)(a:Nat)(L:List It)(room:Int)(r:Nat)(q:Pl)(gv:Value)(got:List Nt)(v:Value)(all:List Nt)(re:Nat)(e:Pl):mT:=eI (aCu t [] room) (scW a L room r q gv got v all re e)
def scV.good(t:Nat)(a:Nat)(L:List It)(room:Int)(r:Nat)(q:Pl)(gv:Value)(got:List Nt)(v:Value)(all:List Nt)(re:Nat)(e:Pl):mE (scV t a L room r q gv got v all re e):=(aCu.good _ _ _).star (scW.good _ _ _ _ _ _ _ _ _ _ _)
section
variable{t a:Nat}{L:List It}{room:Int}{r:Nat}{q:Pl}{gv:Value}{got:List Nt}{v:Value}{all:List Nt}{re:Nat}{e:Pl}{h:PH}{F:List Nat}(H:scV t a L room r q gv got v all re e h F)
include H
def scV.fW:uC h F (scW a L room r q gv got v all re e) (λX=>eI (aCu t [] room) X):=eI.right (aCu.good _ _ _) H
def scV.fTab:uC h F (aCu a L room) (λX=>eI (aCu t [] room) (eI X (eI (oJ r q.cells) (eI (nsA gv got) (eI (nsA v all) (oJ re e.cells)))))):=(scV.fW H).comp λ_ H=>scW.fTab H
def scV.fPl:uC h F (oJ r q.cells) (λX=>eI (aCu t [] room) (eI (aCu a L room) (eI X (eI (nsA gv got) (eI (nsA v all) (oJ re e.cells)))))):=(scV.fW H).comp λ_ H=>scW.fPl H
def scV.fGot:uC h F (nsA gv got) (λX=>eI (aCu t [] room) (eI (aCu a L room) (eI (oJ r q.cells) (eI X (eI (nsA v all) (oJ re e.cells)))))):=(scV.fW H).comp λ_ H=>scW.fGot H
def scV.here:∃Ft Fw,uG h t [] room Ft∧scW a L room r q gv got v all re e h Fw∧(∀b∈Ft,b∉Fw)∧(∀b∈Ft,b∈F)∧∀b∈Fw,b∈F:=by
 obtain⟨Fa,Fb,rfl,hT,hW,hd⟩:=H;exact⟨Fa,Fb,hT,hW,hd,λb hb=>by simp[hb],λb hb=>by simp[hb]⟩
end
def aS4{hb h:PH}{F:List Nat}(N:Now hb h F){c j r50:Nat}{s:Ch}{Fc:List Nat}(Hc:jA c s hb Fc)(lcj:∀h',dC hb h'->cH PG h' (loadAt cZ (pT r50 j))=some (pT c 0))(hj:j<2)
  (htot:s.blk.flatten.length≤50) {most:Nat} (hm:most≤60) {room:Int} (hr1:1≤room) (hr2:room≤40) {t a r66 r54:Nat} {v:Value} {e:Pl} {K:Nat} (hK:K=min most (lR room [] s.blk.flatten)) (he:aJT s e K)
  (W:scV t a [] room r66 ⟨(s.first:Int),0⟩ (.slice none 0 0) [] v (s.blk.flatten.take K) r54 e h F) {R:cD} {n54:gO}
  (hk:∀h',dC hb h'->n54 [.int .i64 (most:Int),.int .i64 room,pT r50 0,.int .i64 ((j+1:Nat):Int)] h'):
  iR [3,4,11,13,14,16,18,19,20,21,22] (λn111 ρ h=>yJ R n54 n111 (ρ 3) (ρ 4) (ρ 11) (ρ 13) (ρ 14) (ρ 16) (ρ 18) (ρ 19) (ρ 20) (ρ 21) (ρ 22) h) [.int .i64 (most:Int),.int .i64 room,pT r50 0,.int .i64 (j:Int),pT t 0,pT a 0,v,pT r54 0,pT r66 0,.slice none 0 0,.int .i64 0] h:=by
 obtain⟨_,_,_,_,_,_,P,_,cok⟩:=id Hc;have hst:=P.okst;have hpos:=cok.pos hst.h1;have hb1:=hst.h1;have hb4:=hst.h4;have hlen:=cok.len;have hne:s.blk≠[]:=by
  intro e;rw[e,zLN] at hlen;omega
 have hfl:=aOE (room:=room) (L:=[]) s.blk.flatten;refine⟨λvs h'=>∃(n p:Nat) (q:Pl) (gv:Value) (F':List Nat),n≤most∧vs=[.int .i64 (most:Int),.int .i64 room,pT r50 0,.int .i64 (j:Int),pT t 0,pT a 0,v,pT r54 0,pT r66 0,gv,.int .i64 (n:Int)]∧Now hb h' F'∧scV t a (aGJ room s.blk.flatten p) room r66 q gv (s.blk.flatten.take p) v (s.blk.flatten.take K) r54 e h' F'∧aHf s q p∧p=min n (lR room [] s.blk.flatten)∧(n=0∨aJT s q p),gV most 10,⟨0,0,_,_,F,by omega,rfl,N,W,aHf.first hne,by omega,.inl rfl⟩,?_⟩;rintro ρ h' ⟨n,p,q,gv,F',hn,hvs,N',W',A,hp,hC⟩;simp only[iJ,iZ,lP,and_true] at hvs;obtain⟨x0,x1,x2,x3,x4,x5,x6,x7,x8,x9,x10⟩:=hvs;unfold yJ;rw[x0,x1,x2,x3,x4,x5,x6,x7,x8,x9,x10];have Hc':=(jA.good _ _).ext Hc N'.ext;obtain⟨Fx,Fw,HT,HW,dXW,xF,wF⟩:=scV.here W';obtain⟨⟨Ft,T,tF⟩,B66,r66F,⟨Fg,Og,gF⟩,⟨Fv,Ov,vF⟩,B54⟩:=scW.here HW;have gW:=λL q gv got=>scV.good t a L room r66 q gv got v (s.blk.flatten.take K) r54 e;by_cases hlt:n<most
 ·have g:((n:Int)<(most:Int))=True:=eq_true (by omega);have gi:=qQ (i:=n) (by omega);have ix1:=aLW (r:=r50) (o:=0) hj;rw[fO] at ix1;simp only[g,ix1,lcj h' N'.ext,mkI,B66.place,cE,reduceIte,cV,Nat.reduceAdd];obtain⟨d,ii,eq,hd1,hd2,hd3⟩:=id A.here;have hbi:ii≤s.blk.flatten.length:=by omega
  obtain⟨L1,-⟩:=A.log cok.first 1;obtain⟨M1,M2,M3,M4⟩:=aRy cok.first A 1 room (aGJ room s.blk.flatten p);have hfp:lR room (aGJ room s.blk.flatten p) (s.blk.flatten.drop p)=lR room [] s.blk.flatten-p:=aWO (by omega);have hnN:xO s p 1 room (aGJ room s.blk.flatten p)=min 1 (lR room [] s.blk.flatten-p):=by unfold xO;rw[hfp]
  refine aNi Hc' (by rw[eq];simp only;omega) (by rw[eq];simp only;omega) (by rw[eq];simp only;omega) (by rw[eq];simp only;omega) T (most:=1) (by omega) (by rw[L1,nC];omega) λh2 mv Fm Om fm u2=>?_;generalize hN:xO s p 1 room (aGJ room s.blk.flatten p)=k at *;rw[M1] at Om M4;generalize aCG s q 1 room (aGJ room s.blk.flatten p)=np at *;have N2:=N'.more u2;have W2:=(gW _ _ _ _).ext W' u2;simp only[cE,reduceIte,cV,Nat.reduceAdd];intro r84 hr84
  try rw[cW]
  refine dF.fill (vs:=np.2.cells) hr84 rfl (Pl.isC _) λh3 B84 u3=>?_;have N3:=N2.more u3;have W3:=(gW _ _ _ _).ext W2 u3;have k3:∀b∈F',h' b≠none:=(gW _ _ _ _).known W';have k84:r84∉F':=λhm=>(gW _ _ _ _).known W2 _ hm hr84;have lm:dG PG (Builtin.len_ #[cU] bT #[mv])=some (.int .i64 (k:Int)):=by
   have:=Om.slR.len (t':=bT) cU.und;rw[jB,M2] at this;exact this
  have g1:((1:Int)<(k:Int))=False:=eq_false (by omega);simp only[lm,g1,cE,reduceIte,cV,Nat.reduceAdd];obtain⟨Ft3,T3,tF3,back3⟩:=scV.fTab W3;have dm:∀y∈Fm,y∉Ft3:=λy hy hm=>k3 y (tF3 y hm) (fm y hy);refine aMi T3 (Om.ext u3) dm (by rw[M2];omega) λh4 e4 T4 u4 he4=>?_;rw[M4,mX (by rw[M2];exact pF _),aWG] at T4;obtain⟨F4,W4,st4⟩:=back3 (aCu a (aGJ room s.blk.flatten (p+k)) room) h4 Ft3 T4 ⟨u4,λb hb=>.inl hb⟩;have N4:=N3.step st4;have n84:r84∉F4:=λhm=>by
   rcases st4.grow _ hm with h1|h1
   ·exact k84 h1
   ·exact B84.known h1
  have B84':=B84.upd u4 (λhm=>k84 (tF3 _ hm));have Sm:=((Om.ext u3).upd u4 dm).slR;obtain⟨Fg4,Og4,gF4,back4⟩:=scV.fGot W4;refine jL cU.und cU.und dI.info dI.size dI.bytes dI.zero rfl (by decide) Og4 Sm (Nt.isC _) (by simp only[jB,nC,pB];omega) ?_;intro v' h5 Fg5 O5 u5 k5 _;rw[←pY,aLo] at O5;obtain⟨F5,W5,st5⟩:=back4 (nsA v' (s.blk.flatten.take (p+k))) h5 Fg5 O5 ⟨u5,k5⟩;have N5:=N4.step st5;have B84'':=B84'.upd u5 (λhm=>n84 (gF4 _ hm));obtain⟨Fp5,⟨rfl,B66'⟩,pF5,back5⟩:=scV.fPl W5;simp only[B84''.place,cE,reduceIte,cV,Nat.reduceAdd];refine dF.put (vs:=np.2.cells) B66' (o:=0) rfl (by show 0+2≤2;decide) (Pl.isC _) λh6 B6 u6=>?_;obtain⟨F6,W6,st6⟩:=back5 (oJ r66 np.2.cells) h6 [r66] ⟨rfl,B6⟩ ⟨u6,λb hb=>.inl hb⟩;simp only[gi,cE,reduceIte,cV,Nat.reduceAdd];exact⟨⟨n+1,p+k,np.2,v',F6,by omega,rfl,N5.step st6,W6,M3.at,by omega,.inr M3⟩,by simp[gV,x10];omega⟩
 ·have g:((n:Int)<(most:Int))=False:=eq_false (by omega);have ep:p=K:=by rw[hp,hK];omega
  have hl40:(aGJ room s.blk.flatten p).length≤1000000:=by
   have:=aQK (room:=room) (s.blk.flatten.take p) (List.Pairwise.nil:Srt []) (by show(0:Int)≤room;omega);have h2:aGJ room s.blk.flatten p=aCW room [] (s.blk.flatten.take p):=rfl;rw[h2];omega
  have gj:=qQ (i:=j) (by omega);have eF:lR room [] (s.blk.flatten.take K)=K:=by rw[aK7];omega
  have eK:(s.blk.flatten.take K).length=K:=by rw[nC];omega
  have dTv:∀y∈Fv,y∉Fx:=λy hy hm=>dXW y hm (vF y hy);have lv:dG PG (Builtin.len_ #[cU] bT #[v])=some (.int .i64 (K:Int)):=by
   have:=Ov.slR.len (t':=bT) cU.und;rw[jB,eK] at this;exact this
  have q0:((K:Int) !=(K:Int))=false:=by simp
  have z0:((0:Int) !=0)=false:=by decide
  rw[ep] at Og T hl40;by_cases hm0:most=0
  ·have g0:((0:Int)<(most:Int))=False:=eq_false (by omega);simp only[g,g0,cE,reduceIte,cV,Nat.reduceAdd];refine aMi HT Ov dTv (by omega) λh2 e2 T2 u2 he2=>?_;obtain rfl:e2=0:=he2 (by rw[eF,eK]);rw[eF,aKO,Nat.min_self] at T2;have HW2:=(scW.good _ _ _ _ _ _ _ _ _ _ _).upd HW u2 (λb hb hm=>dXW b hm hb);obtain⟨⟨Fu,U,-⟩,-⟩:=scW.here HW2;rw[ep] at U;simp only[eF,lv,kP,q0,z0,cE,reduceIte,cV,Nat.reduceAdd];refine aLT T2 hl40 λvi h3 Gi Oi fi u3=>?_;refine aLT (U.ext u3) hl40 λvj h4 Gj Oj fj u4=>?_;refine aSZ (Oi.ext u4).slR Oj.slR hl40 ?_;have e4:dC hb h4:=((N'.ext.fresh u2 λb hb=>N'.fr b (xF b hb)).trans u3).trans u4;have ed:decide (aCW room [] (s.blk.flatten.take K)=aGJ room s.blk.flatten K)=true:=decide_eq_true rfl;simp only[ed,gj,cE,reduceIte,cV,Nat.reduceAdd];exact hk h4 e4
  ·have hC:aJT s q p:=by
    rcases hC with h0|h0
    ·omega
    ·exact h0
   rw[ep] at hC;have eq:q=e:=hC.uniq he;rw[eq] at B66;have g0:((0:Int)<(most:Int))=True:=eq_true (by omega);simp only[g,g0,cE,reduceIte,cV,Nat.reduceAdd];refine aTK Ov.slR Og.slR (by rw[eK];omega) ?_;simp only[B66.place,B54.place,aZX,cE,reduceIte,cV,Nat.reduceAdd];refine aMi HT Ov dTv (by omega) λh2 e2 T2 u2 he2=>?_;obtain rfl:e2=0:=he2 (by rw[eF,eK]);rw[eF,aKO,Nat.min_self] at T2;have HW2:=(scW.good _ _ _ _ _ _ _ _ _ _ _).upd HW u2 (λb hb hm=>dXW b hm hb);obtain⟨⟨Fu,U,-⟩,-⟩:=scW.here HW2;rw[ep] at U;simp only[eF,lv,kP,q0,z0,cE,reduceIte,cV,Nat.reduceAdd];refine aLT T2 hl40 λvi h3 Gi Oi fi u3=>?_;refine aLT (U.ext u3) hl40 λvj h4 Gj Oj fj u4=>?_;refine aSZ (Oi.ext u4).slR Oj.slR hl40 ?_;have e4:dC hb h4:=((N'.ext.fresh u2 λb hb=>N'.fr b (xF b hb)).trans u3).trans u4;have ed:decide (aCW room [] (s.blk.flatten.take K)=aGJ room s.blk.flatten K)=true:=decide_eq_true rfl;simp only[ed,gj,cE,reduceIte,cV,Nat.reduceAdd];exact hk h4 e4
def aN1{hb:PH}{c j r50:Nat}{s:Ch}{Fc:List Nat}(Hc:jA c s hb Fc)(lcj:∀h',dC hb h'->cH PG h' (loadAt cZ (pT r50 j))=some (pT c 0))(hj:j<2)
  (ht:s.tot≤50) {most:Nat} (hm:most≤60) {room:Int} (hr1:1≤room) (hr2:room≤40) {R:cD} {n54:gO}
  (hk:∀h',dC hb h'->n54 [.int .i64 (most:Int),.int .i64 room,pT r50 0,.int .i64 ((j+1:Nat):Int)] h'):
  sI R n54 (.int .i64 (most:Int)) (.int .i64 room) (pT r50 0) (.int .i64 (j:Int)) hb:=by
 unfold sI;have g:((j:Int)<2)=True:=eq_true (by omega);have ix1:=aLW (r:=r50) (o:=0) hj;rw[fO] at ix1;obtain⟨_,_,_,_,_,_,P,_,cok⟩:=id Hc;have hst:=P.okst;have hpos:=cok.pos hst.h1;have hb1:=hst.h1;have hb4:=hst.h4;have hlen:=cok.len;have hne:s.blk≠[]:=by
  intro e;rw[e,zLN] at hlen;omega
 have htot:s.blk.flatten.length≤50:=by
  have:s.tot=s.blk.flatten.length+s.nts.length:=rfl;omega
 simp only[g,cE,reduceIte,cV,Nat.reduceAdd];refine aOR hr1 hr2 λh1 t rt Ft T1 ft u1=>?_;simp only[cE,reduceIte,cV,Nat.reduceAdd];refine aOR hr1 hr2 λh2 a ra Fa T2 fa u2=>?_;have e2:=u1.trans u2;simp only[ix1,lcj h2 e2,aWj,aO1,eH.f0,fO,mkI,cE,reduceIte,cV,Nat.reduceAdd];refine aMJ ((jA.good _ _).ext Hc e2) λh3 u3=>?_;have e3:=e2.trans u3;refine⟨lcj h3 e3,?_⟩;obtain⟨L1,-⟩:=(aHf.first hne).log cok.first most;obtain⟨M1,M2,M3,M4⟩:=aRy cok.first (aHf.first hne) most room [];have hN:xO s 0 most room []=min most (lR room [] s.blk.flatten):=by unfold xO;rw[zLb]
 rw[hN,zLb] at M1;rw[hN,fO] at M3;refine aNi ((jA.good _ _).ext Hc e3) (q:=⟨(s.first:Int),0⟩) (by show(0:Int)≤(s.first:Int);omega) (by show(s.first:Int)<_;omega) (by show _≤(0:Int);decide) (by show(0:Int)<_;decide) (T1.ext (u2.trans u3)) (most:=most) (by omega) (by rw[L1,nC,pB];omega) λh4 v Fv Ov fv u4=>?_;have e4:=e3.trans u4;rw[M1] at Ov;generalize aCG s ⟨(s.first:Int),0⟩ most room []=np at *;generalize hK:min most (lR room [] s.blk.flatten)=K at *;simp only[cE,reduceIte,cV,Nat.reduceAdd];intro r54 hr54
 try rw[cW]
 refine dF.fill (vs:=np.2.cells) hr54 rfl (Pl.isC _) λh5 B54 u5=>?_;have e5:=e4.trans u5;simp only[ix1,lcj h5 e5,eH.f0,fO,cE,reduceIte,cV,Nat.reduceAdd];refine aMJ ((jA.good _ _).ext Hc e5) λh6 u6=>?_;have e6:=e5.trans u6;intro r66 hr66
 try rw[cW]
 refine dF.fill (vs:=Pl.cells ⟨(s.first:Int),0⟩) hr66 rfl (Pl.isC _) λh7 B66 u7=>?_;have e7:=e6.trans u7;have T24:uG h4 a [] room Fa:=(T2.ext u3).ext u4;have T27:uG h7 a [] room Fa:=((T24.ext u5).ext u6).ext u7;have T17:uG h7 t [] room Ft:=T1.ext (((((u2.trans u3).trans u4).trans u5).trans u6).trans u7);have O7:=Ov.ext ((u5.trans u6).trans u7);have kv:=Ov.known;have d1:∀b∈Fa,b∉Fv:=λb hb1 hb2=>(T2.ext u3).known b hb1 (fv b hb2);have d2:∀b∈Fa,b≠r54:=λb hb1 e=>T24.known b hb1 (e▸hr54);have d3:∀b∈Fa,b≠r66:=λb hb1 e=>((T24.ext u5).ext u6).known b hb1 (e▸hr66);have d4:∀b∈Fv,b≠r54:=λb hb1 e=>kv b hb1 (e▸hr54);have d5:∀b∈Fv,b≠r66:=λb hb1 e=>((Ov.ext u5).ext u6).known b hb1 (e▸hr66);have d6:r54≠r66:=λe=>(B54.ext u6).known (e▸hr66);have T14:uG h4 t [] room Ft:=T1.ext ((u2.trans u3).trans u4);have c1:∀b∈Ft,b∉Fa:=λb hb1 hb2=>T1.known b hb1 (fa b hb2);have c2:∀b∈Ft,b∉Fv:=λb hb1 hb2=>(T1.ext (u2.trans u3)).known b hb1 (fv b hb2);have c3:∀b∈Ft,b≠r54:=λb hb1 e=>T14.known b hb1 (e▸hr54);have c4:∀b∈Ft,b≠r66:=λb hb1 e=>((T14.ext u5).ext u6).known b hb1 (e▸hr66);have W7:scV t a [] room r66 ⟨(s.first:Int),0⟩ (.slice none 0 0) [] v (s.blk.flatten.take K) r54 np.2 h7 (Ft++(Fa++([r66]++([]++(Fv++[r54]))))):=by
  refine⟨Ft,_,rfl,T17,⟨Fa,_,rfl,T27,⟨[r66],_,rfl,⟨rfl,B66⟩,⟨[],_,rfl,eO.nil,⟨Fv,[r54],rfl,O7,⟨rfl,(B54.ext u6).ext u7⟩,?_⟩,?_⟩,?_⟩,?_⟩,?_⟩
  ·intro b hb hm;simp only[gE] at hm;exact d4 b hb hm
  ·intro b hb;cases hb
  ·intro b hb hm;simp only[gE] at hb;subst hb;simp only[uL,kA,gE] at hm;rcases hm with hm|hm
   ·exact d5 _ hm rfl
   ·exact d6 hm.symm
  ·intro b hb hm;simp only[uL,kA,gE] at hm;rcases hm with hm|hm|hm
   ·exact d3 b hb hm
   ·exact d1 b hb hm
   ·exact d2 b hb hm
  ·intro b hb hm;simp only[uL,kA,gE] at hm;rcases hm with hm|hm|hm|hm
   ·exact c1 b hb hm
   ·exact c4 b hb hm
   ·exact c2 b hb hm
   ·exact c3 b hb hm
 have N7:Now hb h7 (Ft++(Fa++([r66]++([]++(Fv++[r54]))))):=⟨e7,λy hy=>by
  simp only[uL,kA,gE] at hy;rcases hy with hy|hy|rfl|hy|rfl
  ·exact ft y hy
  ·exact u1.none (fa y hy)
  ·exact e6.none hr66
  ·exact e3.none (fv y hy)
  ·exact e4.none hr54⟩
 exact aS4 N7 Hc lcj hj htot hm hr1 hr2 hK.symm M3 W7 hk
def aQV{h:PH}(hK:oL h){a b s0 s1:Nat}(ha:a<18446744073709551616)(hb:b<18446744073709551616)(hs0:s0<18446744073709551616)(hs1:s1<18446744073709551616){v:Value}{l:List kG}(S:gB h 9 v (l.map kG.cells))(w:∀x∈l,x.wf){most room:Int}{k:cD}(hk:∀h',dC h h'->k (.bool true) h'):
  aT PG aAF #[vL a b,vL s0 s1,v,.int .i64 most,.int .i64 room] h k:=by
 apply pN.call;unfold pN;intro r1 hr1
 try rw[cW]
 have u1:dC h (h.set r1 (.cells (Value.cells (vL a b)) eS)):=cT.new hr1;have B1:Bx (h.set r1 (.cells (Value.cells (vL a b)) eS)) r1 (u2c a b):=Bx.new;generalize h.set r1 (.cells (Value.cells (vL a b)) eS)=h1 at *;intro r3 hr3
 try rw[cW]
 have u3:dC h1 (h1.set r3 (.cells (Value.cells (vL s0 s1)) eS)):=cT.new hr3;have B3:Bx (h1.set r3 (.cells (Value.cells (vL s0 s1)) eS)) r3 (u2c s0 s1):=Bx.new;have C1:=B1.ext u3;generalize h1.set r3 (.cells (Value.cells (vL s0 s1)) eS)=h3 at *;have e3:=u1.trans u3;have la:∀{h'':PH},dC h3 h''->cH PG h'' (loadAt eS (pT r1 0))=some (vL a b):=λv=>eS.agg (C1.ext v) (by show 0+2≤2;decide);have ls:∀{h'':PH},dC h3 h''->cH PG h'' (loadAt eS (pT r3 0))=some (vL s0 s1):=λv=>eS.agg (B3.ext v) (by show 0+2≤2;decide);refine aTE (hK.ext e3) λh4 u4=>?_;simp only[ls u4,cE,reduceIte,cV,Nat.reduceAdd];refine aWR (S.ext (e3.trans u4)) λh5 bb hbb u5=>?_;have e35:=u4.trans u5;have e5:=e3.trans e35;cases bb with
 | false=>
  simp only[cE,reduceIte,cV,Nat.reduceAdd];exact hk h5 e5
 | true=>
  obtain⟨z0,z1,hl,hdat⟩:=hbb rfl;by_cases m0:most<0
  ·simp only[eq_true m0,cE,reduceIte,cV,Nat.reduceAdd];exact hk h5 e5
  by_cases m1:60<most
  ·simp only[eq_false m0,eq_true m1,cE,reduceIte,cV,Nat.reduceAdd];exact hk h5 e5
  by_cases m2:room<1
  ·simp only[eq_false m0,eq_false m1,eq_true m2,cE,reduceIte,cV,Nat.reduceAdd];exact hk h5 e5
  by_cases m3:40<room
  ·simp only[eq_false m0,eq_false m1,eq_false m2,eq_true m3,cE,reduceIte,cV,Nat.reduceAdd];exact hk h5 e5
  simp only[eq_false m0,eq_false m1,eq_false m2,eq_false m3,la e35,ls e35,cE,reduceIte,cV,Nat.reduceAdd];obtain⟨mn,rfl⟩:∃n:Nat,most=(n:Int):=⟨most.toNat,by omega⟩;refine aPt (hK.ext e5) ha hb hs0 hs1 z0 z1 (S.ext e5) w hl hdat λh6 c0 c1 m d0 d1 bk mm K A nn F W f6 u6 M=>?_;generalize hs:aIl (Ch.new 0 a s0,Ch.new 1 b s1) l=s at *;simp only[cE,reduceIte,cV,Nat.reduceAdd];intro r50 hr50
  try rw[cW]
  refine dN.fill (vs:=arC c0 c1) hr50 rfl (aOv c0 c1) λh7 B7 u7=>?_;have e7:=(e5.trans u6).trans u7;obtain⟨Fa,HT,-,-⟩:=eI.left (DTw.good _ _ _ _ _ _ _ _ _ _) W;obtain⟨F0,F1,-,H0,H1,-⟩:=HT;refine⟨λvs h'=>∃j:Nat,j≤2∧vs=[.int .i64 (mn:Int),.int .i64 room,pT r50 0,.int .i64 (j:Int)]∧dC h7 h',gV 2 3,⟨0,by omega,rfl,cT.refl⟩,?_⟩;rintro ρ h' ⟨j,hj,hvs,u⟩;simp only[iJ,iZ,lP,and_true] at hvs;obtain⟨x0,x1,x2,x3⟩:=hvs;rw[x0,x1,x2,x3];by_cases hlt:j<2
  ·have lcj:∀h'',dC h' h''->cH PG h'' (loadAt cZ (pT r50 j))=some (pT (aIe c0 c1 j) 0):=λh'' v=>by rw[cZ.load,((B7.ext u).ext v).cell,aQn c0 c1 hlt]
   have fin:∀h'',dC h' h''->(∃j':Nat,j'≤2∧([.int .i64 (mn:Int),.int .i64 room,pT r50 0,.int .i64 ((j+1:Nat):Int)]:List Value)=[.int .i64 (mn:Int),.int .i64 room,pT r50 0,.int .i64 (j':Int)]∧dC h7 h'')∧gV 2 3 [.int .i64 (mn:Int),.int .i64 room,pT r50 0,.int .i64 ((j+1:Nat):Int)] h''<gV 2 3 ([3,4,11,13].map ρ) h':=λh'' v=>⟨⟨j+1,by omega,rfl,u.trans v⟩,by simp[gV,x3];omega⟩;have hjj:j=0∨j=1:=by omega
   rcases hjj with rfl|rfl
   ·exact aN1 (((jA.good _ _).ext H0 u7 |> λH=>(jA.good _ _).ext H u)) lcj hlt (by have:=M.t0;omega) (by omega) (by omega) (by omega) fin
   ·exact aN1 (((jA.good _ _).ext H1 u7 |> λH=>(jA.good _ _).ext H u)) lcj hlt (by have:=M.t1;omega) (by omega) (by omega) (by omega) fin
  ·unfold sI;have g:((j:Int)<2)=False:=eq_false (by omega);simp only[g,cE,reduceIte,cV,Nat.reduceAdd];exact hk h' (e7.trans u)
end
section
open Go
def aQB{h:PH}(hK:oL h){v:Value}{rows:List (List Value)}(S:gB h 9 v rows)(most room:Int){a b s0 s1:Nat}(ha:a<18446744073709551616)(hb:b<18446744073709551616)(hs0:s0<18446744073709551616)(hs1:s1<18446744073709551616)(e:∃l:List kG,rows=l.map kG.cells∧∀x∈l,x.wf){k:cD}(hk:∀h',dC h h'->k (.bool true) h'):
  aT PG aAF #[vL a b,vL s0 s1,v,.int .i64 most,.int .i64 room] h k:=by
 obtain⟨l,rfl,w⟩:=e;exact aQV hK ha hb hs0 hs1 S w hk
end
end Go.Proofs.YtppgkeodaejgcaaGreatDoor
namespace Go.Proofs.YtppgkeodaejgcaaGreatDoor.scanSteps
open Go Go.ChangeShapes Go.WideShapes Go.ChangeAt Go.WideMaps Go.WideElems Go.RowKit
theorem own:ownKnob Tryz.prog.godebug=none:=by kernel_rfl
theorem lifted(os:Os)(started:os.Started)(H:Type)(enc:TypeId×Value->H):
  ReturnsInHanded {} Tryz.checked os 7 .any (λw args=>(Rows.scanStepsSpec.pre enc Tryz.prog Tryz.f7 [] false w args∧laidMetH Tryz.prog aN4 w)∧sizedMet enc Tryz.prog Tryz.f7 (OpenSpec.ofChange Rows.scanStepsSpec) false w args)
   (Rows.scanStepsSpec.post enc Tryz.prog Tryz.f7 false true false false):=by
 refine returnsInHanded_of_change_and (C:=Tryz.checked) (X:=λw _=>laidMetH Tryz.prog aN4 w) (λ_ _ _ hh h=>h.of_heap hh) own started (by kernel_rfl) Tryz.func7
  (ChangeSpec.witness_shaped (enc:=enc) (C:=Tryz.checked) (os:=os) (X:=λw _=>laidMetH Tryz.prog aN4 w) false (World.doorLaid Tryz.prog 400 os) #[.agg #[.int .u64 0,.int .u64 0],.agg #[.int .u64 0,.int .u64 0],.slice none 0 0,.int .i64 0,.int .i64 0] 8 rfl (World.shaped_of_RefB (by kernel_rfl) (by kernel_rfl)) (by kernel_rfl) (by kernel_rfl) (by kernel_rfl) (aVT os _)) ?_
 intro W base args ds gs before hval0 hW _ _ hL _;have hval:∀(j:Nat) t v,Tryz.f7.params[j]? =some t->args[j]? =some v->Value.okWide Tryz.prog W .any base t v:=hval0;have hW':=hW;obtain⟨p,q,hA0,hV,rfl,hfz,hnd⟩:=hW;have hA:DataW.TrodAll enc Tryz.prog W 0 (λ_=>true) true Tryz.f7.params.toList args.toList ds p:=hA0;rw[Tryz.params7] at hA hval;obtain⟨v0,vs0,d0,ds0,p0,q0,hargs,rfl,rfl,h0,r0⟩:=trodAll_cons hA;obtain⟨v1,vs1,d1,ds1,p1,q1,rfl,rfl,rfl,h1,r1⟩:=trodAll_cons r0;obtain⟨v2,vs2,d2,ds2,p2,q2,rfl,rfl,rfl,h2,r2⟩:=trodAll_cons r1;obtain⟨v3,vs3,d3,ds3,p3,q3,rfl,rfl,rfl,h3,r3⟩:=trodAll_cons r2;obtain⟨v4,vs4,d4,ds4,p4,q4,rfl,rfl,rfl,h4,r4⟩:=trodAll_cons r3;obtain⟨rfl,rfl,rfl⟩:=trodAll_nil r4;obtain rfl:args= #[v0,v1,v2,v3,v4]:=by cases args;simp_all
 obtain⟨rfl,rfl⟩:=trodVars_none hV;obtain⟨x0,y0,rfl,m0,n0⟩:=aSO (hval 0 23 v0 rfl rfl) h0;obtain⟨x1,y1,rfl,m1,n1⟩:=aSO (hval 1 23 v1 rfl rfl) h1;obtain⟨rows2,s2,o2⟩:=aXh iX.und (by rw[cG.cells];decide) (hval 2 _ v2 rfl rfl) h2;rw[cG.cells] at s2;have e2:=kG.rds o2;obtain⟨a3,rfl,rfl,rfl,w3⟩:=open_int Tryz.underlying3 (hval 3 3 v3 rfl rfl) h3;obtain⟨a4,rfl,rfl,rfl,w4⟩:=open_int Tryz.underlying3 (hval 4 3 v4 rfl rfl) h4;refine(aS0 (aQB (kOf hL) s2 a3 a4 m0 n0 m1 n1 e2 λh' hx=>⟨rfl,hx⟩)).mono λe W' ⟨he,hk⟩=>?_;subst he;exact⟨_,rfl,aQb aY2 aZN (by rw[Tryz.params7];decide +kernel) Tryz.underlying4 (by kernel_rfl) rfl hW' hk rfl rfl rfl⟩
theorem j0:(Rows.scanStepsRow.wf (OpenSpec.ofChange Rows.scanStepsSpec))=true:=by kernel_rfl
theorem j1:(laidOutB Tryz.pinned.checked.prog)=true:=by kernel_rfl
theorem j2:(mapsRowed Tryz.pinned.checked.prog)=true:=by kernel_rfl
theorem j3:(Tryz.f7.params.all (Tryz.pinned.checked.prog.readableRec ·))=true:=by kernel_rfl
theorem j4:(namedTie Tryz.pinned.checked.prog Rows.scanStepsRow.named Rows.scanStepsSpec.vars)=true:=by kernel_rfl
theorem j5:((Rows.scanStepsRow.stops==[]))=true:=by kernel_rfl
theorem j6:((Tryz.pinned.checked.prog.stops==[]))=true:=by kernel_rfl
theorem j7:((Rows.scanStepsRow.knobs==[]))=true:=by kernel_rfl
theorem j8:((Tryz.pinned.checked.prog.stopKnobs==[]))=true:=by kernel_rfl
theorem j9:((Rows.scanStepsRow.inPlace==Tryz.pinned.checked.prog.inPlace 7))=true:=by kernel_rfl
theorem j10:((Rows.scanStepsRow.unfollowed==Tryz.pinned.checked.prog.unfollowed 7))=true:=by kernel_rfl
theorem j11:((Rows.scanStepsRow.recurses==Tryz.pinned.checked.prog.recurses 7))=true:=by kernel_rfl
theorem j12:((Rows.scanStepsRow.named==Tryz.pinned.checked.prog.varsNamed 7))=true:=by kernel_rfl
theorem j13:((Rows.scanStepsRow.maps==(Tryz.f7.params.toList++Rows.scanStepsSpec.plain.varTypes Tryz.pinned.checked.prog).any (Tryz.pinned.checked.prog.mapsRec ·)))=true:=by kernel_rfl
theorem j14:((Rows.scanStepsRow.ifaces==(Tryz.f7.params.toList++Rows.scanStepsSpec.plain.varTypes Tryz.pinned.checked.prog).any (Tryz.pinned.checked.prog.ifacesRec ·)))=true:=by kernel_rfl
theorem j15:((Rows.scanStepsRow.mapsOut==Tryz.pinned.checked.prog.mapsAmong Tryz.f7.resultTypes.toList))=true:=by kernel_rfl
theorem j16:((Rows.scanStepsRow.loops==(Tryz.f7.params.toList++Rows.scanStepsSpec.plain.varTypes Tryz.pinned.checked.prog).any (Tryz.pinned.checked.prog.loopsFrom ·)))=true:=by kernel_rfl
theorem j17:((Rows.scanStepsRow.wideKeys==(Tryz.f7.params.toList++Rows.scanStepsSpec.plain.varTypes Tryz.pinned.checked.prog++Tryz.f7.resultTypes.toList).any (Tryz.pinned.checked.prog.wideKeysFrom ·)))=true:=by kernel_rfl
theorem j18:(Rows.scanStepsSpec.vars.all (Tryz.pinned.checked.prog.varReadable ·))=true:=by kernel_rfl
theorem j19:(Tryz.f7.resultTypes.all (λt=>Tryz.pinned.checked.prog.readableRec t&&decide (t<Tryz.pinned.checked.prog.types.size)))=true:=by kernel_rfl
theorem j20:((Rows.scanStepsRow.ifacesOut==Tryz.f7.resultTypes.toList.any (Tryz.pinned.checked.prog.ifacesRec ·)))=true:=by kernel_rfl
theorem j21:((Rows.scanStepsRow.loopsOut==Tryz.f7.resultTypes.toList.any (Tryz.pinned.checked.prog.loopsFrom ·)))=true:=by kernel_rfl
theorem j22:((Rows.scanStepsRow.plainKeys==Tryz.pinned.checked.prog.plainKeys))=true:=by kernel_rfl
theorem j23:(Rows.scanStepsRow.shortTexts.isNone)=true:=by kernel_rfl
theorem j24:(Tryz.pinned.checked.prog.stopsHeard)=true:=by kernel_rfl
theorem j25:(Tryz.pinned.checked.prog.mayEnter)=true:=by kernel_rfl
theorem j26:((Rows.scanStepsRow.lifted==Tryz.pinned.checked.prog.liftsFinal))=true:=by kernel_rfl
theorem j27:((Tryz.pinned.checked.prog.make==some Rows.scanStepsRow.make))=true:=by kernel_rfl
theorem j28:((Rows.scanStepsRow.kinds==(if Rows.scanStepsRow.domain.isEmpty then [] else Tryz.f7.params.toList.map λt=>match Tryz.pinned.checked.prog.underlying t with|some (.int k)=>some k|_=>none)))=true:=by kernel_rfl
theorem j29:((Rows.scanStepsRow.pinned==Rows.scanStepsRow.pinnedBy))=true:=by kernel_rfl
theorem j30:((Rows.scanStepsRow.veiled==(Tryz.f7.params.toList++Rows.scanStepsSpec.plain.varTypes Tryz.pinned.checked.prog++Tryz.f7.resultTypes.toList).any (Tryz.pinned.checked.prog.veiledRec ·)))=true:=by kernel_rfl
theorem j31:(Rows.scanStepsRow.veiledFits Tryz.pinned.checked.prog Tryz.f7.params.toList (Tryz.f7.params.toList++Rows.scanStepsSpec.plain.varTypes Tryz.pinned.checked.prog++Tryz.f7.resultTypes.toList))=true:=by kernel_rfl
theorem closed:joinedFacts Tryz.pinned.checked.prog 7 Tryz.f7 Rows.scanStepsSpec Rows.scanStepsRow=true:=by
 unfold joinedFacts;simp only[zI];exact⟨⟨⟨⟨⟨⟨⟨⟨⟨⟨⟨⟨⟨⟨⟨⟨⟨⟨⟨⟨⟨⟨⟨⟨⟨⟨⟨⟨⟨⟨⟨j0,j1⟩,j2⟩,j3⟩,j4⟩,j5⟩,j6⟩,j7⟩,j8⟩,j9⟩,j10⟩,j11⟩,j12⟩,j13⟩,j14⟩,j15⟩,j16⟩,j17⟩,j18⟩,j19⟩,j20⟩,j21⟩,j22⟩,j23⟩,j24⟩,j25⟩,j26⟩,j27⟩,j28⟩,j29⟩,j30⟩,j31⟩
theorem over:Rows.scanStepsRow.holds Tryz.pinned (OpenSpec.ofChange Rows.scanStepsSpec):=
 OpenClaim.holds_of_wide 7 Tryz.f7 rfl rfl rfl rfl rfl rfl rfl ⟨rfl,rfl,rfl,rfl,rfl⟩ rfl rfl rfl rfl rfl (by kernel_rfl) Tryz.func7 closed
  (of_decide_eq_true (by kernel_rfl)) (by unfold Func.isWrapper;first|(rw[if_pos (by decide +kernel)];kernel_rfl)|(rw[if_neg (by decide +kernel)];exact⟨rfl,rfl⟩))
  (λos started H enc _=>lifted os started H enc)
theorem proved:Rows.ScanStepsCardSaid:=
 Claim7.holds_tied_plain_at .later [] [.data] true (true,"12e170d1944b94b951b0328fcf00c140d74f7b04ee2d5a4f0f8bea72198918bd") true
  over (λ_ h=>by cases h) (by kernel_rfl) (λ_ h=>by cases h) scanSteps_row_tie rfl ⟨rfl,rfl⟩ (by kernel_rfl) rfl
  (λf fn hf hfn=>by
   obtain rfl:f=7:=aKu ((show Tryz.prog.funcNamed Rows.scanStepsRow.func=some 7 by kernel_rfl).symm.trans hf) |>.symm;obtain rfl:fn=Tryz.f7:=(aKu (Tryz.func7.symm.trans hfn)).symm;exact⟨by kernel_rfl,λj t ht=>by
    have hall:(Tryz.f7.params.toList.all λu=>!Tryz.prog.wantsStandIn u)=true:=by kernel_rfl
    have hm:t∈Tryz.f7.params.toList:=by simpa using Array.mem_of_getElem? ht
    exact(show Tryz.prog.wantsStandIn t=false by simpa using aEw.1 hall t hm)⟩)
  (by kernel_rfl)
#print axioms proved
end Go.Proofs.YtppgkeodaejgcaaGreatDoor.scanSteps
