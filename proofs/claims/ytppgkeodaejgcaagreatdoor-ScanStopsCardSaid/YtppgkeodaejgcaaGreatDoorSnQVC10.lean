/- scan: the card of ScanStops: a scan stops right ahead of what has no room, and goes on from there. -/
import Derived.Test.YtppgkeodaejgcaaGreatDoorSnQVC9
set_option linter.all false
set_option maxRecDepth 100000
open Go.Instr (loadAt fieldAt indexAt extract buildSlice build)
namespace Go.Proofs.YtppgkeodaejgcaaGreatDoor
section
open Go
def aYe(a b:It):ltI a b=decide (kl a.key b.key):=by
 unfold ltI;rw[zLm];simp only[Bool.or_eq_true,yR,decide_eq_true_eq];rfl
def aY7{l L:List It}(hp:l.Perm L)(hs:Srt L)(ho:l.Pairwise λa b=>ltI b a=false):l=L:=by
 have hn:(l.map It.key).Nodup:=(hp.map It.key).nodup_iff.2 hs.nodup;refine Srt.unique ?_ hs hp;unfold List.Nodup at hn;rw[List.pairwise_map] at hn;refine ho.imp₂ (λa b h1 h2=>?_) hn;rw[aYe] at h1;have h1:=of_decide_eq_false h1;rcases aRB h2 with h3|h3
 ·exact h3
 ·exact absurd h3 h1
def aV0{h:PH}{a:Nat}{L:List It}{room:Int}{F:List Nat}(H:rI h a L room F)(hL:L.length≤1000000){k:cD}
  (hk:∀v h' G,eN h' dW 5 v (L.map It.cells) G->eM h G->dD h h'->k v h'):aT PG aDF #[pT a 0] h k:=by
 apply aCK.call;unfold aCK;have hs:=H.srt;obtain⟨m,l,ha,hm,hp,rfl,ham⟩:=H.here;have hll:l.length≤1000000:=by rw[hp.length_eq];exact hL
 have c0:dC h ⟨a,0,none⟩=some (.map (some m)):=by simp[dC,ha]
 simp only[gH.f0,dL.load,c0,cE,reduceIte];refine aT8 λbx h1 hbx hb u1=>?_;refine aTO hb (jL.ext hm u1) hll λv l1 h2 F2 hp2 hO f2 u2=>?_;refine aX3 hO (by rw[hp2.length_eq];exact hll) λl2 h3 hp3 ho hO3 u3=>?_;have hl2:l2=L:=aY7 ((hp3.trans hp2).trans hp) hs ho;subst hl2;have uu:=(u1.trans u2).fresh u3 (f2.of u1);have lv:=hO3.slR.len (t':=bT) fN.und;rw[iY] at lv;obtain⟨zs,hz1,hz2⟩:=aCZ (P:=PG) (n:=l2.length) fN.und dW.info dW.size dW.bytes dW.zero rfl (by decide) (by omega) (by omega);simp only[lv,hz1,cE,reduceIte];intro r hr;refine fT ?_
 try rw[cW]
 have u4:dD h3 (h3.set r (.cells zs dW)):=cT.new hr;have hR:eN (h3.set r (.cells zs dW)) dW 5 (.slice (some ⟨r,0,none⟩) l2.length l2.length) (List.replicate l2.length [.int .i64 0,.int .u64 0,.int .u64 0,.string ⟨#[]⟩,.int .i64 0]) [r]:=
  eN.lit (λx hx=>by rw[List.eq_of_mem_replicate hx];rfl) dJ (by simp) (by simp[rC];omega) (by rw[hz2];rfl)
 have hO4:=hO3.ext u4;have fr:h r=none:=uu.none hr;generalize h3.set r (.cells zs dW)=h4 at *;have hsl:=aIr (P:=PG) (t:=fN) (a:=some ⟨r,0,none⟩) (len:=l2.length) (cap:=l2.length) (l:=0) (hh:=l2.length) (lo:=some (.int .i64 (0:Nat))) (hi:=some (.int .i64 l2.length)) fN.und dW.info (.inr ⟨.i64,rfl⟩) (.inr ⟨.i64,rfl⟩) (aGr _) (oF _);have e1:(if l2.length=0 then some (⟨r,0,none⟩:Addr) else(some (⟨r,0,none⟩:Addr)).map (·.add (0*Tryz.t40.size)))=some ⟨r,0,none⟩:=by
  split
  ·rfl
  ·simp[lL]
 rw[e1] at hsl;refine aVE (n:=l2.length) (l:=0) (m:=l2.length) fN.und dW.info dW.size hR ⟨.i64,.i64,by simpa using hsl⟩ (aGr _) (by simp) hO4.slR (It.isCell _) (by simp) ?_;intro h5 hR5 u5;have e2:List.take 0 (List.replicate l2.length ([.int .i64 0,.int .u64 0,.int .u64 0,.string ⟨#[]⟩,.int .i64 0]:List Value))++List.take l2.length (l2.map It.cells)++List.drop (0+l2.length) (List.replicate l2.length [.int .i64 0,.int .u64 0,.int .u64 0,.string ⟨#[]⟩,.int .i64 0])=l2.map It.cells:=by
  simp[mS]
 rw[e2] at hR5;exact hk _ h5 [r] hR5 (eM.one fr) ((uu.trans u4).fresh u5 (eM.one fr))
def gF.it{h:PH}{x:Value}{xs:List It}(H:gF h 5 x (xs.map It.cells)){k:IntKind}{j:Nat}{m:It}(hm:xs[j]? =some m):
  ∃a,dH PG (indexAt fN x (.int k j))=some (.pointer (some a))∧cH PG h (loadAt dW (.pointer (some a)))=some m.val:=
 H.loadAgg fN.und dW.info dW.size dW.und rfl (by omega) (by rw[vL,qN,hm];rfl)
def gF.nt{h:PH}{x:Value}{xs:List Nt}(H:gF h 5 x (xs.map Nt.cells)){k:IntKind}{j:Nat}{m:Nt}(hm:xs[j]? =some m):
  ∃a,dH PG (indexAt cV x (.int k j))=some (.pointer (some a))∧cH PG h (loadAt dK (.pointer (some a)))=some (.agg m.cells.toArray):=
 H.loadAgg cV.und dK.info dK.size dK.und rfl (by omega) (by rw[vL,qN,hm];rfl)
def aT7{h:PH}{r:Nat}(hr:h r=none)(n:Nt){k:cD}(hk:∀h',Bx h' r n.cells->h' r=some (.cells n.cells.toArray dK (0,0))->dD h h'->k undef h'):
  dA PG (dS dK (pT r 0) (.agg n.cells.toArray)) (h.set r (.cells (dR PG dK) dK)) k:=by
 refine qH dJ dK.info (by show 5=5;rfl) (by show 0<5;decide) (by rw[dK.zc];rfl) (by simp[Nt.cells,fW]) ?_;rw[rY];exact hk _ ⟨_,dJ⟩ dJ (cT.new hr)
def aUE{h:PH}{a:Nat}{L:List It}{room:Int}{F:List Nat}(H:rI h a L room F){x:Value}{ns:List Nt}(hx:gF h 5 x (ns.map Nt.cells))(hn:ns.length≤1000000){k:cD}
  (hk:∀h',dD h h'->k (.int .i64 (lD room L ns)) h'):aT PG aBI #[pT a 0,x] h k:=by
 have lx:=hx.len (t':=bT) cV.und;rw[iY] at lx;apply aEA.call;unfold aEA;refine aXk H λc h1 G H1 f1 u1=>?_;simp only[lx,cE,reduceIte];refine⟨λvs h'=>∃(i:Nat) (L':List It),i≤ns.length∧vs=[x,pT c 0,x,.int .i64 ns.length,.int .i64 i]∧rI h' c L' room G∧dD h h'∧lD room L ns=i+lD room L' (ns.drop i),gT ns.length 4,⟨0,L,by omega,rfl,H1,u1,by simp⟩,?_⟩;rintro ρ h' ⟨i,L',hi,hvs,HC,w,hf⟩;simp only[iG,iX,lN,and_true] at hvs;obtain⟨e0,e1,e2,e3,e4⟩:=hvs;rw[e0,e1,e2,e3,e4];unfold aII;by_cases hlt:i<ns.length
 ·have hd:((i:Int)<(ns.length:Int))=True:=by apply eq_true;omega
  obtain⟨n,hm⟩:∃m,ns[i]? =some m:=⟨_,lS hlt⟩;obtain⟨y,y1,y2⟩:=(hx.ext w).nt (k:=.i64) hm;have e5:=qZ (i:=i) (by omega);have hdrop:ns.drop i=n::ns.drop (i+1):=by
   rw[aIZ hlt];have:ns[i]=n:=by rw[lS hlt] at hm;simpa using hm
   rw[this]
  simp only[hd,y1,y2,cE,reduceIte];intro r hr
  try rw[cW]
  refine aT7 hr n λh2 b2 _ u2=>?_;simp only[b2.nt,cE,reduceIte];refine aRE (HC.ext u2) n λh3 H3 u3=>?_;have w3:dD h h3:=(w.trans u2).fresh u3 f1;by_cases hz:wZ L' room n=0
  ·have e6:(wZ L' room n !=0)=false:=by simp[hz]
   simp only[e6,e5,cE,reduceIte];refine⟨⟨i+1,zT L' room n,by omega,rfl,H3,w3,?_⟩,by simp[gT,e4];omega⟩;rw[hf,hdrop];show i+(if wZ L' room n=0 then _ else _)=_;rw[if_pos hz];omega
  ·have e6:(wZ L' room n !=0)=true:=by simp[hz]
   simp only[e6,cE,reduceIte];have:lD room L ns=i:=by
    rw[hf,hdrop];show i+(if wZ L' room n=0 then _ else _)=_;rw[if_neg hz];rfl
   rw[this] at hk;exact hk h3 w3
 ·have hd:((i:Int)<(ns.length:Int))=False:=by apply eq_false;omega
  simp only[hd,lx,cE,reduceIte];have hil:i=ns.length:=by omega
  rw[hil] at hf;rw[List.drop_length] at hf;have:lD room L ns=ns.length:=hf;rw[this] at hk;exact hk h' w
def chI(c:Nat):Value:=.iface dB (pT c 0)
def mkI(c:Nat):dH PG (Instr.makeInterface dB (pT c 0))=some (chI c):=by kernel_rfl
def aVU{h:PH}{c:Nat}:cH PG h (do let p ←program;method (p.types.size+Made.depth) dB (pT c 0) "Log")=some (rN,pT c 0):=by kernel_rfl
def aQ8{h:PH}{c:Nat}{args:Array Value}{R:cD}(H:aT PG rN (#[pT c 0]++args) h R):aQD PG (chI c) "Log" args h R:=by
 unfold aQD chI;have e:callMethod (.iface dB (pT c 0)) "Log" args=((do let p ←program;method (p.types.size+Made.depth) dB (pT c 0) "Log") >>= λx=>callFunc x.1 (#[x.2]++args)):=rfl;rw[e];exact iB aVU (aLo H)
def aXJ{L:List It}{room:Int}{n:Nt}(h:wZ L room n≠0):zT L room n=L:=by
 unfold wZ at h;unfold zT;by_cases hr:n.right=false
 ·rw[if_pos hr]
 rw[if_neg hr] at h ⊢;by_cases h1:n.k=1
 ·rw[if_pos h1] at h ⊢;by_cases hg:(lU L n.p.key).isSome=true
  ·rw[if_pos hg] at h;exact absurd rfl h
  ·rw[if_neg hg] at h ⊢;unfold aC9 at h;unfold aC2;split at h
   ·rename_i hc;rw[if_pos hc]
   ·exact absurd rfl h
 ·rw[if_neg h1] at h ⊢;by_cases h2:n.k=2
  ·rw[if_pos h2] at h ⊢;by_cases hg:(lU L n.p.key).isSome=true
   ·rw[if_pos hg] at h;exact absurd rfl h
   ·rw[if_neg hg] at h;have:lU L n.p.key=none:=by cases hx:lU L n.p.key<;>simp_all
    rw[this];unfold aC9 at h;unfold aC2;split at h
    ·rename_i hc;simp only;rw[if_pos hc]
    ·exact absurd rfl h
  ·rw[if_neg h2] at h;exact absurd rfl h
def aQl{h:PH}{c:Nat}{s:Ch}{F:List Nat}(H:iW c s h F){q:Pl}(wq1:0≤q.h)(wq2:q.h<18446744073709551616)(wq3: -9223372036854775808≤q.i)(wq4:q.i<9223372036854775808){a:Nat}{L:List It}{room:Int}{G:List Nat}(T:rI h a L room G){most:Nat}(hm:most≤1000000)(hl:(mT s q (most:Int)).1.length≤1000000){kk:cD}
  (hk:∀h' v Fl,eN h' dK 5 v ((aDH s q most room L).1.map Nt.cells) Fl->eM h Fl->dD h h'->kk (.tuple #[v,(aDH s q most room L).2.v]) h'):aT PG aG9 #[chI c,q.v,.int .i64 (most:Int),pT a 0] h kk:=by
 apply aGa.call;unfold aGa;intro r1 hr1
 try rw[cW]
 have u1:dD h (h.set r1 (.cells (Value.cells q.v) cZ)):=cT.new hr1;have B1:Bx (h.set r1 (.cells (Value.cells q.v) cZ)) r1 q.cells:=Bx.new;generalize h.set r1 (.cells (Value.cells q.v) cZ)=h1 at *;intro r3 hr3
 try rw[cW]
 have u3:dD h1 (h1.set r3 (.cells (dR PG cZ) cZ)):=cT.new hr3;have B3:Bx (h1.set r3 (.cells (dR PG cZ) cZ)) r3 (Pl.cells ⟨0,0⟩):=cZ.zbox;have C1:=B1.ext u3;generalize h1.set r3 (.cells (dR PG cZ) cZ)=h3 at *;have e3:=u1.trans u3;have k3:h r3=none:=u1.none hr3;simp only[C1.place,cE,reduceIte,cU,Nat.reduceAdd];refine aQ8 ?_;refine aMw ((iW.good _ _).ext H e3) wq1 wq2 wq3 wq4 (by omega) (by omega) λh4 v Fl O f4 u4=>?_;simp only[cE,reduceIte,cU,Nat.reduceAdd];intro r10 hr10
 try rw[cW]
 refine cZ.fill (vs:=(mT s q (most:Int)).2.cells) hr10 rfl (Pl.isC _) λh5 B10 u5=>?_;have e5:=(e3.trans u4).trans u5;refine aUE (T.ext e5) (O.ext u5).slR hl λh6 u6=>?_;have e6:=e5.trans u6;have B3k:=B3.known;have B3:=((B3.ext u4).ext u5).ext u6;have O6:=(O.ext u5).ext u6;have f6:eM h Fl:=λy hy=>e3.none (f4 y hy);have lv:dH PG (Builtin.len_ #[cV] bT #[v])=some (.int .i64 ((mT s q (most:Int)).1.length:Int)):=by
  have:=O.slR.len (t':=bT) cV.und;rw[iY] at this;exact this
 by_cases hc:lD room L (mT s q (most:Int)).1<(mT s q (most:Int)).1.length
 ·have g:((lD room L (mT s q (most:Int)).1:Int)<((mT s q (most:Int)).1.length:Int))=True:=eq_true (by omega);have en:aDH s q most room L=mT s q ((lD room L (mT s q (most:Int)).1:Nat):Int):=by unfold aDH;rw[if_pos hc]
  rw[en] at hk;simp only[lv,g,(((C1.ext u4).ext u5).ext u6).place,cE,reduceIte,cU,Nat.reduceAdd];refine aQ8 ?_;refine aMw ((iW.good _ _).ext H e6) wq1 wq2 wq3 wq4 (by omega) (by omega) λh7 v2 Fl2 O2 f7 u7=>?_;simp only[cE,reduceIte,cU,Nat.reduceAdd];refine cZ.put (vs:=(mT s q ((lD room L (mT s q (most:Int)).1:Nat):Int)).2.cells) (B3.ext u7) (o:=0) rfl (by show 0+2≤2;decide) (Pl.isC _) λh8 B8 u8=>?_;have B8:Bx h8 r3 (mT s q ((lD room L (mT s q (most:Int)).1:Nat):Int)).2.cells:=B8;have e8:dD h h8:=(e6.trans u7).fresh u8 (eM.one k3);simp only[B8.place,cE,reduceIte,cU,Nat.reduceAdd];refine hk h8 v2 Fl2 (O2.upd u8 (λy hy hm=>?_)) (λy hy=>e6.none (f7 y hy)) e8;simp only[gA] at hm;exact B3.known (hm▸f7 y hy)
 ·have g:((lD room L (mT s q (most:Int)).1:Int)<((mT s q (most:Int)).1.length:Int))=False:=eq_false (by omega);have en:aDH s q most room L=mT s q (most:Int):=by unfold aDH;rw[if_neg hc]
  rw[en] at hk;simp only[lv,g,(B10.ext u6).place,cE,reduceIte,cU,Nat.reduceAdd];refine cZ.put (vs:=(mT s q (most:Int)).2.cells) B3 (o:=0) rfl (by show 0+2≤2;decide) (Pl.isC _) λh8 B8 u8=>?_;have B8:Bx h8 r3 (mT s q (most:Int)).2.cells:=B8;have e8:dD h h8:=e6.fresh u8 (eM.one k3);simp only[B8.place,cE,reduceIte,cU,Nat.reduceAdd];refine hk h8 v Fl (O6.upd u8 (λy hy hm=>?_)) f6 e8;simp only[gA] at hm;exact B3k (hm▸f4 y hy)
def aUo(room:Int)(L:List It)(n:Nt)(ns:List Nt):lD room L (n::ns)=if wZ L room n=0 then lD room (zT L room n) ns+1 else 0:=rfl
def aYs{room:Int}:∀{L:List It} (ns:List Nt) (i:Nat),i≤lD room L ns->lD room L ns=i+lD room (aAF room L (ns.take i)) (ns.drop i):=fun {L} ns i hi=>by
 have h:=aK2 (room:=room) (L:=L) ns i hi;omega
def aUy{room:Int}{L:List It}{ns:List Nt}{i:Nat}{n:Nt}(h:ns[i]? =some n):aAF room L (ns.take (i+1))=zT (aAF room L (ns.take i)) room n:=by
 rw[zLV,h,aQX];rfl
def aTw{h:PH}{a:Nat}{L:List It}{room:Int}{F:List Nat}(T:rI h a L room F){v:Value}{ns:List Nt}{G:List Nat}(O:eN h dK 5 v (ns.map Nt.cells) G)(hd:∀y∈G,y∉F)(hn:ns.length≤1000000){kk:cD}
  (hk:∀h' e,rI h' a (aAF room L (ns.take (lD room L ns))) room F->cT F h h'->(lD room L ns=ns.length->e=0)->kk (.tuple #[.int .i64 (lD room L ns:Int),.int .i64 e]) h'):aT PG aIU #[pT a 0,v] h kk:=by
 apply aIl.call;unfold aIl;have lv:dH PG (Builtin.len_ #[cV] bT #[v])=some (.int .i64 (ns.length:Int)):=by
  have:=O.slR.len (t':=bT) cV.und;rw[iY] at this;exact this
 have fle:=aMD (room:=room) (L:=L) ns;simp only[lv,cE,reduceIte,cU,Nat.reduceAdd];refine⟨λvs h'=>∃i:Nat,i≤lD room L ns∧vs=[pT a 0,v,v,.int .i64 ns.length,.int .i64 i]∧rI h' a (aAF room L (ns.take i)) room F∧cT F h h',gT ns.length 4,⟨0,by omega,rfl,T,cT.refl⟩,?_⟩;rintro ρ h' ⟨i,hi,hvs,T',u⟩;simp only[iG,iX,lN,and_true] at hvs;obtain⟨e0,e1,e2,e3,e4⟩:=hvs;rw[e0,e1,e2,e3,e4];unfold aLe;have hat:=aYs (room:=room) (L:=L) ns i hi;by_cases hlt:i<ns.length
 ·have g:((i:Int)<(ns.length:Int))=True:=eq_true (by omega);have gi:=qZ (i:=i) (by omega);obtain⟨n,hm⟩:∃m,ns[i]? =some m:=⟨_,lS hlt⟩;obtain⟨y,y1,y2⟩:=(O.upd u hd).slR.nt (k:=.i64) hm;have hdrop:ns.drop i=n::ns.drop (i+1):=by
   rw[aIZ hlt];have:ns[i]=n:=by rw[lS hlt] at hm;simpa using hm
   rw[this]
  rw[hdrop,aUo] at hat;simp only[g,y1,y2,cE,reduceIte,cU,Nat.reduceAdd];intro r hr
  try rw[cW]
  refine aT7 hr n λh2 b2 _ u2=>?_;simp only[b2.nt,cE,reduceIte,cU,Nat.reduceAdd];refine aRE (T'.ext u2) n λh3 T3 u3=>?_;have w3:cT F h h3:=(u.trans u2.upd).trans u3;by_cases hz:wZ (aAF room L (ns.take i)) room n=0
  ·rw[if_pos hz] at hat;have e6:(wZ (aAF room L (ns.take i)) room n !=0)=false:=by simp[hz]
   simp only[kN,e6,gi,cE,reduceIte,cU,Nat.reduceAdd];rw[←aUy hm] at T3;exact⟨⟨i+1,by omega,rfl,T3,w3⟩,by simp[gT,e4];omega⟩
  ·rw[if_neg hz] at hat;have e6:(wZ (aAF room L (ns.take i)) room n !=0)=true:=by simp[hz]
   simp only[kN,e6,cE,reduceIte,cU,Nat.reduceAdd];rw[aXJ hz] at T3;have ei:lD room L ns=i:=by omega
   rw[ei] at hk;exact hk h3 _ T3 w3 (by omega)
 ·have g:((i:Int)<(ns.length:Int))=False:=eq_false (by omega);simp only[g,lv,cE,reduceIte,cU,Nat.reduceAdd];have ei:lD room L ns=i:=by omega
  have en:i=ns.length:=by omega
  rw[ei] at hk;have:=hk h' 0 T' u (λ_=>rfl);rw[en] at this;exact this
def aPI{h:PH}{x y:Operand}{a:Nat}:cH PG h (jY .eql uF x y (pT a 0) (.pointer none))=some (.bool false):=aCu uF.und
def aSY{h:PH}{room:Int}(h1:1≤room)(h2:room≤40){kk:cD}
  (hk:∀h' a r F,rI h' a [] room F->eM h F->dD h h'->kk (.tuple #[pT a 0,pT r 0]) h'):aT PG aBt #[.int .i64 room,.slice none 0 0] h kk:=by
 apply aAs.call;unfold aAs;refine aUc room (λhbad=>by omega) λ_ _ a h3 F3 H3 f3 u3=>?_;have z0:((0:Int) !=0)=false:=by decide
 have rb:dH PG (build uQ #[(1,.int .i64 room)])=some (.agg #[.slice none 0 0,.int .i64 room]):=by kernel_rfl
 have l0:dH PG (Builtin.len_ #[cV] bT #[.slice none 0 0])=some (.int .i64 0):=by kernel_rfl
 simp only[kN,z0,aPI,rb,cE,reduceIte,cU,Nat.reduceAdd];intro r hr
 try rw[cW]
 have u4:dD h3 (h3.set r (.cells (Value.cells (.agg #[.slice none 0 0,.int .i64 room])) uQ)):=cT.new hr;generalize h3.set r (.cells (Value.cells (.agg #[.slice none 0 0,.int .i64 room])) uQ)=h4 at *;refine⟨λvs h'=>vs=[.slice none 0 0,pT a 0,pT r 0,.int .i64 0]∧h'=h4,λ_ _=>0,⟨rfl,rfl⟩,?_⟩;rintro ρ h' ⟨hvs,rfl⟩;simp only[iG,iX,lN,and_true] at hvs;obtain⟨e0,e1,e2,e3⟩:=hvs;rw[e0,e1,e2,e3];unfold aFM;have g:((0:Int)<0)=False:=eq_false (by decide);simp only[l0,g,cE,reduceIte,cU,Nat.reduceAdd];exact hk h' a r F3 (H3.ext u4) f3 (u3.trans u4)
def aWP{h:PH}{s0 s1:Nat}{v:Value}{l:List kD}(S:gF h 9 v (l.map kD.cells)){k:cD}(hk:∀h' b,(b=true->s0≠0∧s1≠0∧l.length≤50∧∀x∈l,x.d.length≤2000)->dD h h'->k (.bool b) h'):aT PG aDx #[vM s0 s1,v] h k:=by
 apply aCz.call;unfold aCz;intro r1 hr1
 try rw[cW]
 have u1:dD h (h.set r1 (.cells (Value.cells (vM s0 s1)) eV)):=cT.new hr1;have B1:Bx (h.set r1 (.cells (Value.cells (vM s0 s1)) eV)) r1 (u2c s0 s1):=Bx.new;generalize h.set r1 (.cells (Value.cells (vM s0 s1)) eV)=h1 at *;have i0:dH PG (indexAt eV (pT r1 0) (.int .i64 0))=some (pT r1 0):=aO5 (i:=0) (by decide);have i1:dH PG (indexAt eV (pT r1 0) (.int .i64 1))=some (pT r1 1):=by have:=aO5 (r:=r1) (o:=0) (i:=1) (by decide);rw[fP] at this;exact this
 have l0:cH PG h1 (loadAt cA (pT r1 0))=some (.int .u64 (s0:Int)):=by rw[cA.load,B1.cell];rfl
 have l1:cH PG h1 (loadAt cA (pT r1 1))=some (.int .u64 (s1:Int)):=by rw[cA.load,B1.cell];rfl
 have ll:=aPN S;have no:k (.bool false) h1:=hk h1 false (λe=>by cases e) u1;by_cases z0:s0=0
 ·have q:((s0:Int)==0)=true:=by rw[z0];rfl
  simp only[i0,l0,iD,q,cE,reduceIte,cU,Nat.reduceAdd];exact no
 have q0:((s0:Int)==0)=false:=by rw[beq_eq_false_iff_ne];omega
 by_cases z1:s1=0
 ·have q:((s1:Int)==0)=true:=by rw[z1];rfl
  simp only[i0,l0,i1,l1,iD,q0,q,cE,reduceIte,cU,Nat.reduceAdd];exact no
 have q1:((s1:Int)==0)=false:=by rw[beq_eq_false_iff_ne];omega
 by_cases z2:50<l.length
 ·have g:((50:Int)<(l.length:Int))=True:=eq_true (by omega);simp only[i0,l0,i1,l1,iD,q0,q1,ll,g,cE,reduceIte,cU,Nat.reduceAdd];exact no
 have g:((50:Int)<(l.length:Int))=False:=eq_false (by omega);simp only[i0,l0,i1,l1,iD,q0,q1,ll,g,cE,reduceIte,cU,Nat.reduceAdd];refine⟨λvs h'=>∃i:Nat,i≤l.length∧vs=[v,.int .i64 (i:Int)]∧h'=h1∧∀x∈l.take i,x.d.length≤2000,gT l.length 1,⟨0,by omega,rfl,rfl,by simp⟩,?_⟩;rintro ρ h' ⟨i,hi,hvs,rfl,hall⟩;simp only[iG,iX,lN,and_true] at hvs;obtain⟨v0,v1⟩:=hvs;unfold aG6;rw[v0,v1];by_cases hlt:i<l.length
 ·have g1:((i:Int)<(l.length:Int))=True:=eq_true (by omega);have gi:=qZ (i:=i) (by omega);obtain⟨y,hx⟩:∃y,l[i]? =some y:=⟨_,lS hlt⟩;obtain⟨b,o,a1,a2,a3,-⟩:=(S.ext u1).tac hx;have ld:dH PG (Builtin.len_ #[bR] bT #[.string (tx y.d)])=some (.int .i64 (y.d.length:Int)):=by rw[mI bR.und,iC]
  have lp:dH PG (Builtin.len_ #[bR] bT #[.string y.p.d])=some (.int .i64 (y.p.d.size:Int)):=mI bR.und;by_cases y1:2000<y.d.length
  ·have g2:((2000:Int)<(y.d.length:Int))=True:=eq_true (by omega);simp only[ll,g1,a1,cG.f3,bR.load,a2,ld,g2,cE,reduceIte,cU,Nat.reduceAdd];exact no
  have g2:((2000:Int)<(y.d.length:Int))=False:=eq_false (by omega);by_cases y2:300<y.p.d.size
  ·have g3:((300:Int)<(y.p.d.size:Int))=True:=eq_true (by omega);simp only[ll,g1,a1,cG.f3,cG.f4,aR.f3,Nat.add_assoc,Nat.reduceAdd,bR.load,a2,a3,ld,lp,g2,g3,cE,reduceIte,cU,Nat.reduceAdd];exact no
  have g3:((300:Int)<(y.p.d.size:Int))=False:=eq_false (by omega);simp only[ll,g1,a1,cG.f3,cG.f4,aR.f3,Nat.add_assoc,Nat.reduceAdd,bR.load,a2,a3,ld,lp,g2,g3,gi,cE,reduceIte,cU,Nat.reduceAdd];refine⟨⟨i+1,by omega,rfl,by first|rfl|trivial,λz hz=>?_⟩,by simp[gT,v1];omega⟩;rw[zLV,hx] at hz;rcases jX.1 hz with hz|hz
  ·exact hall z hz
  ·simp only[Option.toList_some,gA] at hz;subst hz;omega
 ·have g1:((i:Int)<(l.length:Int))=False:=eq_false (by omega);rw[mS (by omega)] at hall;simp only[ll,g1,cE,reduceIte,cU,Nat.reduceAdd];exact hk h' true (λ_=>⟨z0,z1,by omega,hall⟩) u1
def ya:Ch:=Ch.new 0 5 1
def yb:Ch:=Ch.new 1 5 1
def yp:Pk:=kA ya [] 9
def ya1:Ch:=ya.sent yp
def y1:kD:=⟨0,0,9,[],default,false⟩
def y2:kD:=⟨5,0,0,[],default,false⟩
def aVp:yp.right=true:=by decide
def aYr:qC ya [] 9=0:=by
 have h1:decide (aJT ya.cl<((9:Nat):Int))=true:=by
  rw[show ya.cl=[] from rfl,aRA];decide
 have h2:(kA ya [] 9).right=true:=aVp;unfold qC qT;rw[if_neg (by decide),h1,h2];rfl
def aYR:aD7 (ya,yb) y1=(ya1,yb):=by
 unfold aD7 kU;rw[if_neg (show ¬y1.clean.id=1 by decide)];have:nT ya yb y1.clean=(ya1,(yp,0,0)):=by
  unfold nT;rw[if_pos (show y1.clean.kind=0 from rfl),show y1.clean.d=[] from rfl,show y1.clean.h=9 from rfl,if_pos aYr];rfl
 show((nT ya yb y1.clean).1,yb)=_;rw[this]
def b55:dH PG (build eV #[(0,(Value.int IntKind.u64 5)),(1,(Value.int IntKind.u64 5))])=some (vM 5 5):=by kernel_rfl
def b11:dH PG (build eV #[(0,(Value.int IntKind.u64 1)),(1,(Value.int IntKind.u64 1))])=some (vM 1 1):=by kernel_rfl
def bAN:dH PG (build cG #[(2,(Value.int IntKind.u64 9))])=some y1.v:=by kernel_rfl
def aZ7:dH PG (build cG #[(0,(Value.int IntKind.i64 5))])=some y2.v:=by kernel_rfl
def za:Ch:=ya1.sent (kA ya1 [] 9)
def zb:Ch:=za.committed
def aYg:qC ya1 [] 9=0:=by
 have h1:decide (aJT ya1.cl<((9:Nat):Int))=true:=by
  rw[show ya1.cl=[] from rfl,aRA];decide
 have h2:(kA ya1 [] 9).right=true:=by decide
 unfold qC qT;rw[if_neg (by decide),h1,h2];rfl
def aY9:aD7 (ya1,yb) y1=(za,yb):=by
 unfold aD7 kU;rw[if_neg (show ¬y1.clean.id=1 by decide)];have:nT ya1 yb y1.clean=(za,(kA ya1 [] 9,0,0)):=by
  unfold nT;rw[if_pos (show y1.clean.kind=0 from rfl),show y1.clean.d=[] from rfl,show y1.clean.h=9 from rfl,if_pos aYg];rfl
 show((nT ya1 yb y1.clean).1,yb)=_;rw[this]
def aYi:aD7 (za,yb) y2=(zb,yb):=by
 unfold aD7 kU;rw[if_neg (show ¬y2.clean.id=1 by decide)];rfl
def aZP:aIV (ya,yb) [y1,y1,y2]=(zb,yb):=by
 show aD7 (aD7 (aD7 (ya,yb) y1) y1) y2=_;rw[aYR,aY9,aYi]
def aZH:aDH zb ⟨5,0⟩ 9 1 []=([⟨1,yp⟩],⟨6,1⟩):=by rfl
def aZx:(mT zb ⟨5,0⟩ 9).1.length=2:=by rfl
def aXD:zb.first=5:=by rfl
def bAP{h:PH}{d:Nat}(q q':Pl):cH PG h (Op.equalIn (d+1+1) cZ q.v q'.v)=some (decide (q=q')):=by
 unfold Pl.v;rw[aFb cZ.und (by kernel_rfl) (λf=>match f.offset with|0=>q.h==q'.h|_=>q.i==q'.i)]
 ·congr 1;rw[zLm];obtain⟨a,b⟩:=q;obtain⟨a',b'⟩:=q';simp
 ·intro f hf;simp only[gU,lJ,or_false] at hf;rcases hf with rfl|rfl
  ·exact⟨by decide,_,_,mD cA.und rfl rfl,mD cA.und rfl rfl,aC5 cA.und⟩
  ·exact⟨by decide,_,_,mD bT.und rfl rfl,mD bT.und rfl rfl,aC5 bT.und⟩
def aZs{h:PH}{x y:Operand}(q q':Pl):cH PG h (jY .eql cZ x y q.v q'.v)=some (.bool (decide (q=q'))):=aMH (by kernel_rfl) (bAP (d:=9998) q q')
def aWa{h:PH}{x y:Operand}{c:Nat}:cH PG h (jY .eql dB x y (pT c 0) (.pointer none))=some (.bool false):=aCu dB.und
def aWE(x y z:kD):jU PG (buildSlice iS 3 #[(0,x.v),(1,y.v),(2,z.v)])=some (.cells (x.cells++y.cells++z.cells).toArray cG,λr=>pure (.slice (some ⟨r,0,none⟩) 3 3)):=by kernel_rfl
def aYz:dH PG (build cZ #[(0,(Value.int IntKind.u64 6)),(1,(Value.int IntKind.i64 1))])=some (Pl.v ⟨6,1⟩):=by kernel_rfl
def aTD{h:PH}(hK:oM h){k:cD}(hk:∀h',dD h h'->k (.bool true) h'):aT PG aCh #[] h k:=by
 apply tD.call;unfold tD;simp only[b55,b11,bAN,aZ7,aWE,cE,reduceIte,cU,Nat.reduceAdd];intro r5 hr5;refine fT ?_
 try rw[cW]
 have u1:dD h (h.set r5 (.cells (y1.cells++y1.cells++y2.cells).toArray cG)):=cT.new hr5;have S1:gF (h.set r5 (.cells (y1.cells++y1.cells++y2.cells).toArray cG)) 9 (.slice (some ⟨r5,0,none⟩) 3 3) ([y1,y1,y2].map kD.cells):=(eN.lit (n:=3) (kD.rows _) dJ (by simp) (by decide) (by simp)).slR;generalize h.set r5 (.cells (y1.cells++y1.cells++y2.cells).toArray cG)=h1 at *;refine aP0 (a:=5) (b:=5) (s0:=1) (s1:=1) (hK.ext u1) (by decide) (by decide) (by decide) (by decide) (by decide) (by decide) S1 (λx hx=>?_) (by decide) (λx hx=>?_) λh2 c0 c1 m d0 d1 bk mm K A n F W f2 u2 M=>?_
 ·simp only[gU,lJ,or_false] at hx;rcases hx with rfl|rfl|rfl<;>exact⟨by decide,⟨by decide,by decide,by decide,by decide⟩⟩
 ·simp only[gU,lJ,or_false] at hx;rcases hx with rfl|rfl|rfl<;>decide
 have er:aIV (Ch.new 0 5 1,Ch.new 1 5 1) [y1,y1,y2]=(zb,yb):=aZP;rw[er] at W M;have e2:=u1.trans u2;simp only[cE,reduceIte,cU,Nat.reduceAdd];intro r14 hr14
 try rw[cW]
 refine dO.fill (vs:=arC c0 c1) hr14 rfl (aPE c0 c1) λh3 B3 u3=>?_;refine aUc 1 (λhbad=>by omega) λ_ _ a h4 F4 T4 f4 u4=>?_;have e24:=u3.trans u4;obtain⟨Fa,HT,-,-⟩:=eQ.left (DTw.good _ _ _ _ _ _ _ _ _ _) W;obtain⟨F0,F1,-,H0,-,-⟩:=HT;have H4:=(iW.good _ _).ext H0 e24;have j0:dH PG (indexAt dO (pT r14 0) (.int .i64 0))=some (pT r14 0):=aK7 (i:=0) (by decide);have l0:∀{h':PH},dD h4 h'->cH PG h' (loadAt dB (pT r14 0))=some (pT c0 0):=λu=>by rw[dB.load,((B3.ext u4).ext u).cell];rfl
 have z0:((0:Int) !=0)=false:=by decide
 simp only[j0,l0 cT.refl,aWa,aPI,kN,z0,mkI,eI.f0,fP,cE,reduceIte,cU,Nat.reduceAdd];refine aMh H4 λh5 u5=>?_;refine⟨l0 u5,?_⟩;rw[aXD];have hl:(mT zb ⟨(5:Nat),0⟩ ((9:Nat):Int)).1.length≤1000000:=by
  have:(mT zb ⟨(5:Nat),0⟩ ((9:Nat):Int)).1.length=2:=aZx;omega
 refine aQl (most:=9) ((iW.good _ _).ext H4 u5) (q:=⟨(5:Nat),0⟩) (by decide) (by decide) (by decide) (by decide) (T4.ext u5) (by decide) hl λh6 v Fl O f6 u6=>?_;have zn:aDH zb ⟨(5:Nat),0⟩ 9 1 []=([⟨1,yp⟩],⟨6,1⟩):=aZH;rw[zn] at O ⊢;simp only[cE,reduceIte,cU,Nat.reduceAdd];intro r54 hr54
 try rw[cW]
 refine cZ.fill (vs:=Pl.cells ⟨6,1⟩) hr54 rfl (Pl.isC _) λh7 B7 u7=>?_;have lv:dH PG (Builtin.len_ #[cV] bT #[v])=some (.int .i64 1):=by
  have:=O.slR.len (t':=bT) cV.und;exact this
 have q1:((1:Int)==1)=true:=rfl;have q2:((0:Int)==0)=true:=rfl;simp only[lv,iD,q1,B7.place,aYz,aZs,decide_true,cE,reduceIte,cU,Nat.reduceAdd];refine aUT (((T4.ext u5).ext u6).ext u7) ?_;have q3:(((([]:List It).length:Nat):Int)==0)=true:=rfl;simp only[iD,q3,cE,reduceIte,cU,Nat.reduceAdd];exact hk h7 ((((e2.trans e24).trans u5).trans u6).trans u7)
def aKN(a:Nat)(L:List It)(room:Int):mR:=λh F=>rI h a L room F
def aKN.good(a:Nat)(L:List It)(room:Int):mL (aKN a L room):=⟨λH=>rI.known H,λH u hK=>rI.upd H u hK⟩
def nsA(v:Value)(ns:List Nt):mR:=λh F=>eN h dK 5 v (ns.map Nt.cells) F
def nsA.good(v:Value)(ns:List Nt):mL (nsA v ns):=⟨λO=>O.known,λO u hK=>O.upd u hK⟩
def scW(a:Nat)(L:List It)(room:Int)(r:Nat)(q:Pl)(gv:Value)(got:List Nt)(v:Value)(all:List Nt)(re:Nat)(e:Pl):mR:=eQ (aKN a L room) (eQ (uA r q.cells) (eQ (nsA gv got) (eQ (nsA v all) (uA re e.cells))))
section
variable{a:Nat}{L:List It}{room:Int}{r:Nat}{q:Pl}{gv:Value}{got:List Nt}{v:Value}{all:List Nt}{re:Nat}{e:Pl}{h:PH}{F:List Nat}(H:scW a L room r q gv got v all re e h F)
include H
end
def aO0{α:Type}(l:List α)(n k:Nat):l.take n++(l.drop n).take k=l.take (n+k):=List.take_add.symm
def aXw{h:PH}{c:Nat}{s:Ch}{Fc:List Nat}(Hc:iW c s h Fc){q:Pl}{p:Nat}(A:aGA s q p)(hp:p≤s.blk.flatten.length)(htot:s.blk.flatten.length≤50){a:Nat}{L:List It}{room:Int}{G:List Nat}(T:rI h a L room G)(dG:∀b∈Fc,b∉G){kk:cD}
  (hk:∀h' q',rI h' a (aAF room L ((s.blk.flatten.drop p).take (lD room L (s.blk.flatten.drop p)))) room G->cT G h h'->aPM s q' (p+lD room L (s.blk.flatten.drop p))->kk (.tuple #[.int .i64 (lD room L (s.blk.flatten.drop p):Int),q'.v]) h'):aT PG aKS #[chI c,q.v,pT a 0] h kk:=by
 apply aHf.call;unfold aHf;intro r1 hr1
 try rw[cW]
 have u1:dD h (h.set r1 (.cells (Value.cells q.v) cZ)):=cT.new hr1;have B1:Bx (h.set r1 (.cells (Value.cells q.v) cZ)) r1 q.cells:=Bx.new;generalize h.set r1 (.cells (Value.cells q.v) cZ)=h1 at *;intro r3 hr3
 try rw[cW]
 have n13:r1≠r3:=B1.apart hr3;have u3:dD h1 (h1.set r3 (.cells (dR PG cZ) cZ)):=cT.new hr3;have B3:Bx (h1.set r3 (.cells (dR PG cZ) cZ)) r3 (Pl.cells ⟨0,0⟩):=cZ.zbox;have C1:=B1.ext u3;generalize h1.set r3 (.cells (dR PG cZ) cZ)=h3 at *;have e3:=u1.trans u3;have kG:=T.known;have k3:h r3=none:=u1.none hr3;have g1:r1∉G:=λhm=>kG _ hm hr1;have g3:r3∉G:=λhm=>kG _ hm k3;obtain⟨_,_,_,_,_,_,P,_,cok⟩:=id Hc;have hst:=P.okst;have hpos:=cok.pos hst.h1;have hb1:=hst.h1;have hb4:=hst.h4;have hlen:=cok.len;have hfl:=aMD (room:=room) (L:=L) (s.blk.flatten.drop p);rw[nJ] at hfl;generalize hK:lD room L (s.blk.flatten.drop p)=K at *;refine⟨λvs h'=>∃(n:Nat) (q':Pl),n≤K∧vs=[chI c,pT a 0,pT r1 0,pT r3 0,.int .i64 (n:Int)]∧rI h' a (aAF room L ((s.blk.flatten.drop p).take n)) room G∧Bx h' r1 q'.cells∧Bx h' r3 (Pl.cells ⟨0,0⟩)∧cT G h h'∧aGA s q' (p+n),gT K 4,⟨0,q,by omega,rfl,T.ext e3,C1,B3,e3.upd,A⟩,?_⟩;rintro ρ h' ⟨n,q',hn,hvs,T',B1',B3',U,A'⟩;simp only[iG,iX,lN,and_true] at hvs;obtain⟨x0,x1,x2,x3,x4⟩:=hvs;unfold aM5;rw[x0,x1,x2,x3,x4];have Hc':=(iW.good _ _).upd Hc U dG;have hdd:(s.blk.flatten.drop p).drop n=s.blk.flatten.drop (p+n):=by rw[aGG]
 have hrest:lD room (aAF room L ((s.blk.flatten.drop p).take n)) (s.blk.flatten.drop (p+n))=K-n:=by
  rw[←hdd,aK2 _ _ (by omega),hK]
 obtain⟨d,ii,eq,hd1,hd2,hd3⟩:=id A'.here;have hbi:ii≤p+n:=by omega
 obtain⟨L1,-⟩:=A'.log cok.first 1;obtain⟨M1,M2,M3,M4⟩:=aXp cok.first A' 1 room (aAF room L ((s.blk.flatten.drop p).take n));have hnN:aAH s (p+n) 1 room (aAF room L ((s.blk.flatten.drop p).take n))=min 1 (K-n):=by unfold aAH;rw[hrest]
 have hpn:p+n≤50:=by omega
 simp only[B1'.place,cE,reduceIte,cU,Nat.reduceAdd];refine aQl Hc' (by rw[eq];simp only;omega) (by rw[eq];simp only;omega) (by rw[eq];simp only;omega) (by rw[eq];simp only;omega) T' (most:=1) (by omega) (by rw[L1,nW];omega) λh2 mv Fm Om fm u2=>?_;generalize hN:aAH s (p+n) 1 room (aAF room L ((s.blk.flatten.drop p).take n))=k at *;rw[M1] at Om M4;generalize aDH s q' 1 room (aAF room L ((s.blk.flatten.drop p).take n))=np at *;simp only[cE,reduceIte,cU,Nat.reduceAdd];intro r12 hr12
 try rw[cW]
 refine cZ.fill (vs:=np.2.cells) hr12 rfl (Pl.isC _) λh4 B12 u4=>?_;simp only[B12.place,cE,reduceIte,cU,Nat.reduceAdd];have e4:=u2.trans u4;refine cZ.put (vs:=np.2.cells) (B1'.ext e4) (o:=0) rfl (by show 0+2≤2;decide) (Pl.isC _) λh5 B5 u5=>?_;have B5:Bx h5 r1 np.2.cells:=B5;have T5:=(T'.ext e4).upd u5 (λb hb hm=>by simp only[gA] at hm;exact g1 (hm▸hb));have n1m:r1∉Fm:=λhm=>B1'.known (fm _ hm);have Om5:=(Om.ext u4).upd u5 (λb hb hm=>by simp only[gA] at hm;exact n1m (hm▸hb));have dm:∀y∈Fm,y∉G:=λy hy hm=>T'.known y hm (fm y hy);refine aTw T5 Om5 dm (by rw[M2];omega) λh6 e T6 u6 he=>?_;have ek:((s.blk.flatten.drop (p+n)).take k).take k=(s.blk.flatten.drop (p+n)).take k:=mS (by rw[M2];exact oF _);rw[M4,ek,←aQX,←hdd,aO0] at T6;have B6:=B5.upd u6 g1;have B36:=((B3'.ext e4).upd u5 (λhm=>by simp only[gA] at hm;exact n13 hm.symm)).upd u6 g3;have U6:cT G h h6:=(((U.then e4.upd (λb hb=>.inl hb)).then u5 (λb hb=>by simp only[gA] at hb;subst hb;exact .inr hr1)).then u6 (λb hb=>.inl hb));simp only[M4,iD,cE,reduceIte,cU,Nat.reduceAdd];by_cases hz:k=0
 ·have q0:((k:Int)==0)=true:=by rw[hz];rfl
  have en:n=K:=by omega
  simp only[q0,B6.place,cE,reduceIte,cU,Nat.reduceAdd];refine cZ.put (vs:=np.2.cells) B36 (o:=0) rfl (by show 0+2≤2;decide) (Pl.isC _) λh7 B7 u7=>?_;have B7:Bx h7 r3 np.2.cells:=B7;simp only[B7.place,cE,reduceIte,cU,Nat.reduceAdd];rw[hz,zLQ,en] at T6 M3;rw[en];exact hk h7 np.2 (T6.upd u7 (λb hb hm=>by simp only[gA] at hm;exact g3 (hm▸hb))) (U6.then u7 (λb hb=>by simp only[gA] at hb;subst hb;exact .inr k3)) M3
 ·have q0:((k:Int)==0)=false:=by rw[beq_eq_false_iff_ne];omega
  have gi:IntKind.i64.wrap ((n:Int)+(k:Int))=((n+k:Nat):Int):=by rw[fE (by omega) (by omega)];omega
  simp only[q0,gi,cE,reduceIte,cU,Nat.reduceAdd];exact⟨⟨n+k,np.2,by omega,rfl,T6,B6,B36,U6,by rw[←Nat.add_assoc];exact M3.at⟩,by simp[gT,x4];omega⟩
def stW(a:Nat)(L:List It)(room:Int)(r:Nat)(q:Pl)(v:Value)(all:List Nt):mR:=eQ (aKN a L room) (eQ (uA r q.cells) (nsA v all))
def stW.g1(r:Nat)(q:Pl)(v:Value)(all:List Nt):mL (eQ (uA r q.cells) (nsA v all)):=(uA.good _ _).star (nsA.good _ _)
def stW.good(a:Nat)(L:List It)(room:Int)(r:Nat)(q:Pl)(v:Value)(all:List Nt):mL (stW a L room r q v all):=(aKN.good _ _ _).star (stW.g1 _ _ _ _)
section
variable{a:Nat}{L:List It}{room:Int}{r:Nat}{q:Pl}{v:Value}{all:List Nt}{h:PH}{F:List Nat}(H:stW a L room r q v all h F)
include H
def stW.fTab:zU h F (aKN a L room) (λX=>eQ X (eQ (uA r q.cells) (nsA v all))):=eQ.left (stW.g1 _ _ _ _) H
def stW.fPl:zU h F (uA r q.cells) (λX=>eQ (aKN a L room) (eQ X (nsA v all))):=(eQ.right (aKN.good _ _ _) H).comp λ_ H=>eQ.left (nsA.good _ _) H
def stW.here:Bx h r q.cells∧r∈F∧∃Fv,eN h dK 5 v (all.map Nt.cells) Fv∧∀b∈Fv,b∈F:=by
 obtain⟨Fa,Fb,rfl,hT,⟨Fc,Fd,rfl,⟨rfl,hB⟩,hV,-⟩,-⟩:=H;exact⟨hB,by simp,⟨Fd,hV,λb hb=>by simp[hb]⟩⟩
end
def aS0{hb h:PH}{F:List Nat}(N:Now hb h F){c j r34:Nat}{s:Ch}{Fc:List Nat}(Hc:iW c s hb Fc)(lcj:∀h',dD hb h'->cH PG h' (loadAt dB (pT r34 j))=some (pT c 0))(hj:j<2)
  (ok:rG s) (htot:s.blk.flatten.length≤50) {room:Int} (hr1:1≤room) (hr2:room≤40) {a r80:Nat} {v:Value}
  (W:stW a [] room r80 ⟨(s.first:Int),0⟩ v s.blk.flatten h F) {R:cD} {n38:gJ}
  (hk:∀h',dD hb h'->n38 [.int .i64 room,pT r34 0,.int .i64 ((j+1:Nat):Int)] h'):
  iO [3,9,11,12,14,16,17,18] (λn84 ρ h=>zH R n38 n84 (ρ 3) (ρ 9) (ρ 11) (ρ 12) (ρ 14) (ρ 16) (ρ 17) (ρ 18) h) [.int .i64 room,pT r34 0,.int .i64 (j:Int),pT a 0,v,.int .i64 0,pT r80 0,.int .i64 0] h:=by
 obtain⟨_,_,_,_,_,_,P,_,cok⟩:=id Hc;have hst:=P.okst;have hpos:=cok.pos hst.h1;have hb1:=hst.h1;have hb4:=hst.h4;have hlen:=cok.len;have hne:s.blk≠[]:=by
  intro e;rw[e,zLN] at hlen;omega
 have rights:∀n∈s.blk.flatten,n.right=true:=λn hn=>by
  obtain⟨b,hb,hn⟩:=List.mem_flatten.1 hn;exact ok.blk b hb n hn
 refine⟨λvs h'=>∃(n p:Nat) (q:Pl) (L:List It) (F':List Nat),n≤p∧vs=[.int .i64 room,pT r34 0,.int .i64 (j:Int),pT a 0,v,.int .i64 (p:Int),pT r80 0,.int .i64 (n:Int)]∧Now hb h' F'∧stW a L room r80 q v s.blk.flatten h' F'∧aGA s q p∧p≤s.blk.flatten.length∧(L.length:Int)≤room∧(p<s.blk.flatten.length->(L.length:Int)<room),gT 60 7,⟨0,0,_,[],F,by omega,rfl,N,W,aGA.first hne,by omega,by show(0:Int)≤room;omega,λ_=>by show(0:Int)<room;omega⟩,?_⟩;rintro ρ h' ⟨n,p,q,L,F',hn,hvs,N',W',A,hp,hL1,hL2⟩;simp only[iG,iX,lN,and_true] at hvs;obtain⟨x0,x1,x2,x3,x4,x5,x6,x7⟩:=hvs;unfold zH;rw[x0,x1,x2,x3,x4,x5,x6,x7];have Hc':=(iW.good _ _).ext Hc N'.ext;have gW:=λL q=>stW.good a L room r80 q v s.blk.flatten;obtain⟨B80,r80F,Fv,Ov,vF⟩:=stW.here W';have g60:((n:Int)<60)=True:=eq_true (by omega);have lv:dH PG (Builtin.len_ #[cV] bT #[v])=some (.int .i64 (s.blk.flatten.length:Int)):=by
  have:=Ov.slR.len (t':=bT) cV.und;rw[iY] at this;exact this
 have ix1:=aK7 (r:=r34) (o:=0) hj;rw[fP] at ix1;by_cases hlt:p<s.blk.flatten.length
 ·have gd:((p:Int)<(s.blk.flatten.length:Int))=True:=eq_true (by omega);have gi:=qZ (i:=n) (by omega);obtain⟨Ft,T,tF,back1⟩:=stW.fTab W';have hsrt:=rI.srt T;have dne:s.blk.flatten.drop p≠[]:=λe=>by
   have:=congrArg List.length e;rw[nJ,zLN] at this;omega
  have drights:∀n∈s.blk.flatten.drop p,n.right=true:=λn hn=>rights n (aMc hn);have hfl:=aMD (room:=room) (L:=L) (s.blk.flatten.drop p);have hfp:=aW3 (hL2 hlt) dne drights;have hfull:=aQE (s.blk.flatten.drop p) hsrt hL1 drights;have hdrop:=aK2 (room:=room) (L:=L) (s.blk.flatten.drop p) _ (oF _);have hrl:=aRO (room:=room) ((s.blk.flatten.drop p).take (lD room L (s.blk.flatten.drop p))) hsrt hL1;rw[aGG] at hdrop;rw[nJ] at hfl hfull;simp only[g60,lv,gd,ix1,lcj h' N'.ext,mkI,B80.place,cE,reduceIte,cU,Nat.reduceAdd];refine aXw Hc' A hp htot T (λb hb hm=>by
   have k1:=(iW.good _ _).known Hc b hb;exact k1 (N'.fr b (tF b hm))) λh2 q' T2 u2 C2=>?_
  generalize hK:lD room L (s.blk.flatten.drop p)=K at *;generalize hL':aAF room L ((s.blk.flatten.drop p).take K)=L' at *;obtain⟨F2,W2,st2⟩:=back1 (aKN a L' room) h2 Ft T2 ⟨u2,λb hb=>.inl hb⟩;have N2:=N'.step st2;simp only[cE,reduceIte,cU,Nat.reduceAdd];intro r110 hr110
  try rw[cW]
  refine cZ.fill (vs:=q'.cells) hr110 rfl (Pl.isC _) λh3 B110 u3=>?_;have N3:=N2.more u3;have W3:=(gW _ _).ext W2 u3;have ga:IntKind.i64.wrap ((p:Int)+(K:Int))=((p+K:Nat):Int):=by rw[fE (by omega) (by omega)];omega
  obtain⟨Fp3,⟨rfl,B80'⟩,pF3,back3⟩:=stW.fPl W3;simp only[B110.place,ga,cE,reduceIte,cU,Nat.reduceAdd];refine cZ.put (vs:=q'.cells) B80' (o:=0) rfl (by show 0+2≤2;decide) (Pl.isC _) λh4 B4 u4=>?_;have B4:Bx h4 r80 q'.cells:=B4;obtain⟨F4,W4,st4⟩:=back3 (uA r80 q'.cells) h4 [r80] ⟨rfl,B4⟩ ⟨u4,λb hb=>.inl hb⟩;have N4:=N3.step st4;have A2:=C2.at;obtain⟨d,ii,eq,hd1,hd2,hd3⟩:=id A2.here;have hbi:ii≤s.blk.flatten.length:=by omega
  simp only[ix1,lcj h4 N4.ext,eI.f0,fP,B4.place,cE,reduceIte,cU,Nat.reduceAdd];refine aMw ((iW.good _ _).ext Hc N4.ext) (q:=q') (most:=1000) (by rw[eq];simp only;omega) (by rw[eq];simp only;omega) (by rw[eq];simp only;omega) (by rw[eq];simp only;omega) (by decide) (by decide) λh5 vr Fr Or fr u5=>?_;have hall:(mT s q' 1000).1=s.blk.flatten.drop (p+K):=by
   have:=(A2.log cok.first 1000).1;rw[mS (by rw[nJ];omega)] at this;exact this
  rw[hall] at Or;simp only[cE,reduceIte,cU,Nat.reduceAdd];intro r127 hr127
  try rw[cW]
  refine cZ.fill (vs:=(mT s q' 1000).2.cells) hr127 rfl (Pl.isC _) λh6 B127 u6=>?_;have N6:=(N4.more u5).more u6;have W6:=(gW _ _).ext ((gW _ _).ext W4 u5) u6;have Or6:=Or.ext u6;obtain⟨B80'',-,Fv6,Ov6,vF6⟩:=stW.here W6;obtain⟨Ft6,T6,tF6,back6⟩:=stW.fTab W6;have gg:((s.blk.flatten.length:Int)<((p+K:Nat):Int))=False:=eq_false (by omega);obtain⟨vc,ec,Sc,-⟩:=Ov6.slR.cut (l:=p+K) (m:=s.blk.flatten.length) cV.und dK.info dK.size (.inr ⟨.i64,rfl⟩) (.inl ⟨rfl,by rw[iY]⟩) (by omega) (by rw[iY];exact oF _);rw[mS (by rw[iY];exact oF _),←aLC] at Sc;simp only[lv,gg,ec,cE,reduceIte,cU,Nat.reduceAdd];refine aSe Or6.slR Sc (by rw[nJ];omega) ?_;simp only[cE,reduceIte,cU,Nat.reduceAdd];refine aUT T6 ?_;have gl:(room<(L'.length:Int))=False:=eq_false (by omega);by_cases hlt2:p+K<s.blk.flatten.length
  ·have gd2:(((p+K:Nat):Int)<(s.blk.flatten.length:Int))=True:=eq_true (by omega);simp only[gl,lv,gd2,cE,reduceIte,cU,Nat.reduceAdd];have hroom:(L'.length:Int)=room:=hfull (by omega);refine aV0 T6 (by omega) λvi h7 Gi Oi fi u7=>?_;have li:dH PG (Builtin.len_ #[fN] bT #[vi])=some (.int .i64 (L'.length:Int)):=by
    have:=Oi.slR.len (t':=bT) fN.und;rw[iY] at this;exact this
   have q0:((L'.length:Int) !=room)=false:=by simp[hroom]
   have z0:((0:Int) !=0)=false:=by decide
   have T7:rI h7 a L' room Ft6:=rI.ext T6 u7;simp only[li,kN,q0,cE,reduceIte,cU,Nat.reduceAdd];refine aUE T7 (Or6.ext u7).slR (by rw[nJ];omega) λh8 u8=>?_;have hz:lD room L' (s.blk.flatten.drop (p+K))=0:=by rw[hdrop];omega
   obtain⟨x,hx⟩:∃x,L'[0]? =some x:=⟨_,lS (show 0<L'.length by omega)⟩;have hxm:x∈L':=uW hx;obtain⟨b0,o0,i1,i2,-⟩:=(Oi.ext u8).slR.fields fN.und dW.info dW.size (k:=.i64) (j:=0) (r:=x.cells) (by rw[vL,hx];rfl);have i1:dH PG (indexAt fN vi (.int .i64 0))=some (pT b0 o0):=i1;have j0:dC h8 ⟨b0,o0,none⟩=some (.int .i64 x.p.f):=i2 0 _ rfl;have j1:dC h8 ⟨b0,o0+1,none⟩=some (.int .u64 x.p.s):=i2 1 _ rfl;simp only[hz,Int.natCast_zero,z0,i1,dW.f0,aR.f0,aR.f1,bT.load,cA.load,zLQ,j0,j1,cE,reduceIte,cU,Nat.reduceAdd];refine aXF (rI.ext T7 u8) x.key λh9 T9 u9=>?_;obtain⟨F8,W8,st8⟩:=back6 (aKN a (zJ L' x.key) room) h9 Ft6 T9 ⟨((cT.refl.then (u7.trans u8).upd λb hb=>.inl hb).trans u9),λb hb=>.inl hb⟩;have hdel:=aZO hxm;unfold rL xU;simp only[gi,cE,reduceIte,cU,Nat.reduceAdd];exact⟨⟨n+1,p+K,q',_,F8,by omega,rfl,N6.step st8,W8,A2,by omega,by omega,λ_=>by omega⟩,by simp[gT,x7];omega⟩
  ·have gd2:(((p+K:Nat):Int)<(s.blk.flatten.length:Int))=False:=eq_false (by omega);simp only[gl,lv,gd2,cE,reduceIte,cU,Nat.reduceAdd];unfold rL xU;simp only[gi,cE,reduceIte,cU,Nat.reduceAdd];exact⟨⟨n+1,p+K,q',_,_,by omega,rfl,N6,W6,A2,by omega,by omega,λhc=>absurd hc hlt2⟩,by simp[gT,x7];omega⟩
 ·have gd:((p:Int)<(s.blk.flatten.length:Int))=False:=eq_false (by omega);have ep:p=s.blk.flatten.length:=by omega
  have q0:((p:Int) !=(s.blk.flatten.length:Int))=false:=by simp[ep]
  have gj:=qZ (i:=j) (by omega);simp only[g60,lv,gd,kN,q0,gj,cE,reduceIte,cU,Nat.reduceAdd];exact hk h' N'.ext
def aNz{hb:PH}{c j r34:Nat}{s:Ch}{Fc:List Nat}(Hc:iW c s hb Fc)(lcj:∀h',dD hb h'->cH PG h' (loadAt dB (pT r34 j))=some (pT c 0))(hj:j<2)
  (ok:rG s) (ht:s.tot≤50) {room:Int} (hr1:1≤room) (hr2:room≤40) {R:cD} {n38:gJ}
  (hk:∀h',dD hb h'->n38 [.int .i64 room,pT r34 0,.int .i64 ((j+1:Nat):Int)] h'):
  sE R n38 (.int .i64 room) (pT r34 0) (.int .i64 (j:Int)) hb:=by
 unfold sE;have g:((j:Int)<2)=True:=eq_true (by omega);have ix1:=aK7 (r:=r34) (o:=0) hj;rw[fP] at ix1;obtain⟨_,_,_,_,_,_,P,_,cok⟩:=id Hc;have hst:=P.okst;have hpos:=cok.pos hst.h1;have hb1:=hst.h1;have hb4:=hst.h4;have hlen:=cok.len;have hne:s.blk≠[]:=by
  intro e;rw[e,zLN] at hlen;omega
 have htot:s.blk.flatten.length≤50:=by
  have:s.tot=s.blk.flatten.length+s.nts.length:=rfl;omega
 simp only[g,cE,reduceIte,cU,Nat.reduceAdd];refine aSY hr1 hr2 λh2 a ra Fa T2 fa u2=>?_;simp only[ix1,lcj h2 u2,aWa,aPI,eI.f0,fP,cE,reduceIte,cU,Nat.reduceAdd];refine aMh ((iW.good _ _).ext Hc u2) λh3 u3=>?_;have e3:=u2.trans u3;refine⟨lcj h3 e3,?_⟩;refine aMw ((iW.good _ _).ext Hc e3) (q:=⟨(s.first:Int),0⟩) (most:=1000) (by show(0:Int)≤(s.first:Int);omega) (by show(s.first:Int)<_;omega) (by show _≤(0:Int);decide) (by show(0:Int)<_;decide) (by decide) (by decide) λh4 v Fv Ov fv u4=>?_;have hall:(mT s ⟨(s.first:Int),0⟩ 1000).1=s.blk.flatten:=by
  have:=(aGA.log cok.first (aGA.first hne) 1000).1;rw[zLb,mS (by omega)] at this;exact this
 rw[hall] at Ov;have e4:=e3.trans u4;simp only[cE,reduceIte,cU,Nat.reduceAdd];intro r54 hr54
 try rw[cW]
 refine cZ.fill (vs:=(mT s ⟨(s.first:Int),0⟩ 1000).2.cells) hr54 rfl (Pl.isC _) λh5 B54 u5=>?_;have e5:=e4.trans u5;simp only[ix1,lcj h5 e5,eI.f0,fP,cE,reduceIte,cU,Nat.reduceAdd];refine aMh ((iW.good _ _).ext Hc e5) λh6 u6=>?_;have e6:=e5.trans u6;intro r66 hr66
 try rw[cW]
 refine cZ.fill (vs:=Pl.cells ⟨(s.first:Int),0⟩) hr66 rfl (Pl.isC _) λh7 B66 u7=>?_;have e7:=e6.trans u7;have T24:rI h4 a [] room Fa:=(T2.ext u3).ext u4;have T27:rI h7 a [] room Fa:=((T24.ext u5).ext u6).ext u7;have O7:=Ov.ext ((u5.trans u6).trans u7);have d1:∀b∈Fa,b∉Fv:=λb hb1 hb2=>(T2.ext u3).known b hb1 (fv b hb2);have d3:∀b∈Fa,b≠r66:=λb hb1 e=>((T24.ext u5).ext u6).known b hb1 (e▸hr66);have d5:∀b∈Fv,b≠r66:=λb hb1 e=>((Ov.ext u5).ext u6).known b hb1 (e▸hr66);have W7:stW a [] room r66 ⟨(s.first:Int),0⟩ v s.blk.flatten h7 (Fa++([r66]++Fv)):=by
  refine⟨Fa,_,rfl,T27,⟨[r66],_,rfl,⟨rfl,B66⟩,O7,?_⟩,?_⟩
  ·intro b hb hm;simp only[gA] at hb;subst hb;exact d5 _ hm rfl
  ·intro b hb hm;simp only[jX,gA] at hm;rcases hm with hm|hm
   ·exact d3 b hb hm
   ·exact d1 b hb hm
 have N7:Now hb h7 (Fa++([r66]++Fv)):=⟨e7,λy hy=>by
  simp only[jX,gA] at hy;rcases hy with hy|rfl|hy
  ·exact fa y hy
  ·exact e6.none hr66
  ·exact e3.none (fv y hy)⟩
 exact aS0 N7 Hc lcj hj ok htot hr1 hr2 W7 hk
def aQr{h:PH}(hK:oM h){a b s0 s1:Nat}(ha:a<18446744073709551616)(hb:b<18446744073709551616)(hs0:s0<18446744073709551616)(hs1:s1<18446744073709551616){v:Value}{l:List kD}(S:gF h 9 v (l.map kD.cells))(w:∀x∈l,x.wf){room:Int}{k:cD}(hk:∀h',dD h h'->k (.bool true) h'):
  aT PG aAA #[vM a b,vM s0 s1,v,.int .i64 room] h k:=by
 apply pJ.call;unfold pJ;intro r1 hr1
 try rw[cW]
 have u1:dD h (h.set r1 (.cells (Value.cells (vM a b)) eV)):=cT.new hr1;have B1:Bx (h.set r1 (.cells (Value.cells (vM a b)) eV)) r1 (u2c a b):=Bx.new;generalize h.set r1 (.cells (Value.cells (vM a b)) eV)=h1 at *;intro r3 hr3
 try rw[cW]
 have u3:dD h1 (h1.set r3 (.cells (Value.cells (vM s0 s1)) eV)):=cT.new hr3;have B3:Bx (h1.set r3 (.cells (Value.cells (vM s0 s1)) eV)) r3 (u2c s0 s1):=Bx.new;have C1:=B1.ext u3;generalize h1.set r3 (.cells (Value.cells (vM s0 s1)) eV)=h3 at *;have e3:=u1.trans u3;have la:∀{h'':PH},dD h3 h''->cH PG h'' (loadAt eV (pT r1 0))=some (vM a b):=λv=>eV.agg (C1.ext v) (by show 0+2≤2;decide);have ls:∀{h'':PH},dD h3 h''->cH PG h'' (loadAt eV (pT r3 0))=some (vM s0 s1):=λv=>eV.agg (B3.ext v) (by show 0+2≤2;decide);refine aTD (hK.ext e3) λh4 u4=>?_;simp only[ls u4,cE,reduceIte,cU,Nat.reduceAdd];refine aWP (S.ext (e3.trans u4)) λh5 bb hbb u5=>?_;have e35:=u4.trans u5;have e5:=e3.trans e35;cases bb with
 | false=>
  simp only[cE,reduceIte,cU,Nat.reduceAdd];exact hk h5 e5
 | true=>
  obtain⟨z0,z1,hl,hdat⟩:=hbb rfl;by_cases m2:room<1
  ·simp only[eq_true m2,cE,reduceIte,cU,Nat.reduceAdd];exact hk h5 e5
  by_cases m3:40<room
  ·simp only[eq_false m2,eq_true m3,cE,reduceIte,cU,Nat.reduceAdd];exact hk h5 e5
  simp only[eq_false m2,eq_false m3,la e35,ls e35,cE,reduceIte,cU,Nat.reduceAdd];refine aP0 (hK.ext e5) ha hb hs0 hs1 z0 z1 (S.ext e5) w hl hdat λh6 c0 c1 m d0 d1 bk mm K A nn F W f6 u6 M=>?_;generalize hs:aIV (Ch.new 0 a s0,Ch.new 1 b s1) l=s at *;simp only[cE,reduceIte,cU,Nat.reduceAdd];intro r34 hr34
  try rw[cW]
  refine dO.fill (vs:=arC c0 c1) hr34 rfl (aPE c0 c1) λh7 B7 u7=>?_;have e7:=(e5.trans u6).trans u7;obtain⟨Fa,HT,-,-⟩:=eQ.left (DTw.good _ _ _ _ _ _ _ _ _ _) W;obtain⟨F0,F1,-,H0,H1,-⟩:=HT;refine⟨λvs h'=>∃j:Nat,j≤2∧vs=[.int .i64 room,pT r34 0,.int .i64 (j:Int)]∧dD h7 h',gT 2 2,⟨0,by omega,rfl,cT.refl⟩,?_⟩;rintro ρ h' ⟨j,hj,hvs,u⟩;simp only[iG,iX,lN,and_true] at hvs;obtain⟨x0,x1,x2⟩:=hvs;rw[x0,x1,x2];by_cases hlt:j<2
  ·have lcj:∀h'',dD h' h''->cH PG h'' (loadAt dB (pT r34 j))=some (pT (aIX c0 c1 j) 0):=λh'' v=>by rw[dB.load,((B7.ext u).ext v).cell,aQJ c0 c1 hlt]
   have fin:∀h'',dD h' h''->(∃j':Nat,j'≤2∧([.int .i64 room,pT r34 0,.int .i64 ((j+1:Nat):Int)]:List Value)=[.int .i64 room,pT r34 0,.int .i64 (j':Int)]∧dD h7 h'')∧gT 2 2 [.int .i64 room,pT r34 0,.int .i64 ((j+1:Nat):Int)] h''<gT 2 2 ([3,9,11].map ρ) h':=λh'' v=>⟨⟨j+1,by omega,rfl,u.trans v⟩,by simp[gT,x2];omega⟩;have hjj:j=0∨j=1:=by omega
   rcases hjj with rfl|rfl
   ·exact aNz (((iW.good _ _).ext H0 u7 |> λH=>(iW.good _ _).ext H u)) lcj hlt M.o0 (by have:=M.t0;omega) (by omega) (by omega) fin
   ·exact aNz (((iW.good _ _).ext H1 u7 |> λH=>(iW.good _ _).ext H u)) lcj hlt M.o1 (by have:=M.t1;omega) (by omega) (by omega) fin
  ·unfold sE;have g:((j:Int)<2)=False:=eq_false (by omega);simp only[g,cE,reduceIte,cU,Nat.reduceAdd];exact hk h' (e7.trans u)
end
section
open Go
def aP7{h:PH}(hK:oM h){v:Value}{rows:List (List Value)}(S:gF h 9 v rows)(room:Int){a b s0 s1:Nat}(ha:a<18446744073709551616)(hb:b<18446744073709551616)(hs0:s0<18446744073709551616)(hs1:s1<18446744073709551616)(e:∃l:List kD,rows=l.map kD.cells∧∀x∈l,x.wf){k:cD}(hk:∀h',dD h h'->k (.bool true) h'):
  aT PG aAA #[vM a b,vM s0 s1,v,.int .i64 room] h k:=by
 obtain⟨l,rfl,w⟩:=e;exact aQr hK ha hb hs0 hs1 S w hk
end
end Go.Proofs.YtppgkeodaejgcaaGreatDoor
namespace Go.Proofs.YtppgkeodaejgcaaGreatDoor.scanStops
open Go Go.ChangeShapes Go.WideShapes Go.ChangeAt Go.WideMaps Go.WideElems Go.RowKit
theorem own:ownKnob Tryz.prog.godebug=none:=by kernel_rfl
theorem lifted(os:Os)(started:os.Started)(H:Type)(enc:TypeId×Value->H):
  ReturnsInHanded {} Tryz.checked os 8 .any (λw args=>(Rows.scanStopsSpec.pre enc Tryz.prog Tryz.f8 [] false w args∧laidMetH Tryz.prog aOd w)∧sizedMet enc Tryz.prog Tryz.f8 (OpenSpec.ofChange Rows.scanStopsSpec) false w args)
   (Rows.scanStopsSpec.post enc Tryz.prog Tryz.f8 false true false false):=by
 refine returnsInHanded_of_change_and (C:=Tryz.checked) (X:=λw _=>laidMetH Tryz.prog aOd w) (λ_ _ _ hh h=>h.of_heap hh) own started (by kernel_rfl) Tryz.func8
  (ChangeSpec.witness_shaped (enc:=enc) (C:=Tryz.checked) (os:=os) (X:=λw _=>laidMetH Tryz.prog aOd w) false (World.doorLaid Tryz.prog 400 os) #[.agg #[.int .u64 0,.int .u64 0],.agg #[.int .u64 0,.int .u64 0],.slice none 0 0,.int .i64 0] 8 rfl (World.shaped_of_RefB (by kernel_rfl) (by kernel_rfl)) (by kernel_rfl) (by kernel_rfl) (by kernel_rfl) (aVe os _)) ?_
 intro W base args ds gs before hval0 hW _ _ hL _;have hval:∀(j:Nat) t v,Tryz.f8.params[j]? =some t->args[j]? =some v->Value.okWide Tryz.prog W .any base t v:=hval0;have hW':=hW;obtain⟨p,q,hA0,hV,rfl,hfz,hnd⟩:=hW;have hA:DataW.TrodAll enc Tryz.prog W 0 (λ_=>true) true Tryz.f8.params.toList args.toList ds p:=hA0;rw[Tryz.params8] at hA hval;obtain⟨v0,vs0,d0,ds0,p0,q0,hargs,rfl,rfl,h0,r0⟩:=trodAll_cons hA;obtain⟨v1,vs1,d1,ds1,p1,q1,rfl,rfl,rfl,h1,r1⟩:=trodAll_cons r0;obtain⟨v2,vs2,d2,ds2,p2,q2,rfl,rfl,rfl,h2,r2⟩:=trodAll_cons r1;obtain⟨v3,vs3,d3,ds3,p3,q3,rfl,rfl,rfl,h3,r3⟩:=trodAll_cons r2;obtain⟨rfl,rfl,rfl⟩:=trodAll_nil r3;obtain rfl:args= #[v0,v1,v2,v3]:=by cases args;simp_all
 obtain⟨rfl,rfl⟩:=trodVars_none hV;obtain⟨x0,y0,rfl,m0,n0⟩:=aSG (hval 0 23 v0 rfl rfl) h0;obtain⟨x1,y1,rfl,m1,n1⟩:=aSG (hval 1 23 v1 rfl rfl) h1;obtain⟨rows2,s2,o2⟩:=aXT iS.und (by rw[cG.cells];decide) (hval 2 _ v2 rfl rfl) h2;rw[cG.cells] at s2;have e2:=kD.rds o2;obtain⟨a3,rfl,rfl,rfl,w3⟩:=open_int Tryz.underlying3 (hval 3 3 v3 rfl rfl) h3;refine(aSj (aP7 (kOf hL) s2 a3 m0 n0 m1 n1 e2 λh' hx=>⟨rfl,hx⟩)).mono λe W' ⟨he,hk⟩=>?_;subst he;exact⟨_,rfl,aQt aYT aYB (by rw[Tryz.params8];decide +kernel) Tryz.underlying4 (by kernel_rfl) rfl hW' hk rfl rfl rfl⟩
theorem j0:(Rows.scanStopsRow.wf (OpenSpec.ofChange Rows.scanStopsSpec))=true:=by kernel_rfl
theorem j1:(laidOutB Tryz.pinned.checked.prog)=true:=by kernel_rfl
theorem j2:(mapsRowed Tryz.pinned.checked.prog)=true:=by kernel_rfl
theorem j3:(Tryz.f8.params.all (Tryz.pinned.checked.prog.readableRec ·))=true:=by kernel_rfl
theorem j4:(namedTie Tryz.pinned.checked.prog Rows.scanStopsRow.named Rows.scanStopsSpec.vars)=true:=by kernel_rfl
theorem j5:((Rows.scanStopsRow.stops==[]))=true:=by kernel_rfl
theorem j6:((Tryz.pinned.checked.prog.stops==[]))=true:=by kernel_rfl
theorem j7:((Rows.scanStopsRow.knobs==[]))=true:=by kernel_rfl
theorem j8:((Tryz.pinned.checked.prog.stopKnobs==[]))=true:=by kernel_rfl
theorem j9:((Rows.scanStopsRow.inPlace==Tryz.pinned.checked.prog.inPlace 8))=true:=by kernel_rfl
theorem j10:((Rows.scanStopsRow.unfollowed==Tryz.pinned.checked.prog.unfollowed 8))=true:=by kernel_rfl
theorem j11:((Rows.scanStopsRow.recurses==Tryz.pinned.checked.prog.recurses 8))=true:=by kernel_rfl
theorem j12:((Rows.scanStopsRow.named==Tryz.pinned.checked.prog.varsNamed 8))=true:=by kernel_rfl
theorem j13:((Rows.scanStopsRow.maps==(Tryz.f8.params.toList++Rows.scanStopsSpec.plain.varTypes Tryz.pinned.checked.prog).any (Tryz.pinned.checked.prog.mapsRec ·)))=true:=by kernel_rfl
theorem j14:((Rows.scanStopsRow.ifaces==(Tryz.f8.params.toList++Rows.scanStopsSpec.plain.varTypes Tryz.pinned.checked.prog).any (Tryz.pinned.checked.prog.ifacesRec ·)))=true:=by kernel_rfl
theorem j15:((Rows.scanStopsRow.mapsOut==Tryz.pinned.checked.prog.mapsAmong Tryz.f8.resultTypes.toList))=true:=by kernel_rfl
theorem j16:((Rows.scanStopsRow.loops==(Tryz.f8.params.toList++Rows.scanStopsSpec.plain.varTypes Tryz.pinned.checked.prog).any (Tryz.pinned.checked.prog.loopsFrom ·)))=true:=by kernel_rfl
theorem j17:((Rows.scanStopsRow.wideKeys==(Tryz.f8.params.toList++Rows.scanStopsSpec.plain.varTypes Tryz.pinned.checked.prog++Tryz.f8.resultTypes.toList).any (Tryz.pinned.checked.prog.wideKeysFrom ·)))=true:=by kernel_rfl
theorem j18:(Rows.scanStopsSpec.vars.all (Tryz.pinned.checked.prog.varReadable ·))=true:=by kernel_rfl
theorem j19:(Tryz.f8.resultTypes.all (λt=>Tryz.pinned.checked.prog.readableRec t&&decide (t<Tryz.pinned.checked.prog.types.size)))=true:=by kernel_rfl
theorem j20:((Rows.scanStopsRow.ifacesOut==Tryz.f8.resultTypes.toList.any (Tryz.pinned.checked.prog.ifacesRec ·)))=true:=by kernel_rfl
theorem j21:((Rows.scanStopsRow.loopsOut==Tryz.f8.resultTypes.toList.any (Tryz.pinned.checked.prog.loopsFrom ·)))=true:=by kernel_rfl
theorem j22:((Rows.scanStopsRow.plainKeys==Tryz.pinned.checked.prog.plainKeys))=true:=by kernel_rfl
theorem j23:(Rows.scanStopsRow.shortTexts.isNone)=true:=by kernel_rfl
theorem j24:(Tryz.pinned.checked.prog.stopsHeard)=true:=by kernel_rfl
theorem j25:(Tryz.pinned.checked.prog.mayEnter)=true:=by kernel_rfl
theorem j26:((Rows.scanStopsRow.lifted==Tryz.pinned.checked.prog.liftsFinal))=true:=by kernel_rfl
theorem j27:((Tryz.pinned.checked.prog.make==some Rows.scanStopsRow.make))=true:=by kernel_rfl
theorem j28:((Rows.scanStopsRow.kinds==(if Rows.scanStopsRow.domain.isEmpty then [] else Tryz.f8.params.toList.map λt=>match Tryz.pinned.checked.prog.underlying t with|some (.int k)=>some k|_=>none)))=true:=by kernel_rfl
theorem j29:((Rows.scanStopsRow.pinned==Rows.scanStopsRow.pinnedBy))=true:=by kernel_rfl
theorem j30:((Rows.scanStopsRow.veiled==(Tryz.f8.params.toList++Rows.scanStopsSpec.plain.varTypes Tryz.pinned.checked.prog++Tryz.f8.resultTypes.toList).any (Tryz.pinned.checked.prog.veiledRec ·)))=true:=by kernel_rfl
theorem j31:(Rows.scanStopsRow.veiledFits Tryz.pinned.checked.prog Tryz.f8.params.toList (Tryz.f8.params.toList++Rows.scanStopsSpec.plain.varTypes Tryz.pinned.checked.prog++Tryz.f8.resultTypes.toList))=true:=by kernel_rfl
theorem closed:joinedFacts Tryz.pinned.checked.prog 8 Tryz.f8 Rows.scanStopsSpec Rows.scanStopsRow=true:=by
 unfold joinedFacts;simp only[yR];exact⟨⟨⟨⟨⟨⟨⟨⟨⟨⟨⟨⟨⟨⟨⟨⟨⟨⟨⟨⟨⟨⟨⟨⟨⟨⟨⟨⟨⟨⟨⟨j0,j1⟩,j2⟩,j3⟩,j4⟩,j5⟩,j6⟩,j7⟩,j8⟩,j9⟩,j10⟩,j11⟩,j12⟩,j13⟩,j14⟩,j15⟩,j16⟩,j17⟩,j18⟩,j19⟩,j20⟩,j21⟩,j22⟩,j23⟩,j24⟩,j25⟩,j26⟩,j27⟩,j28⟩,j29⟩,j30⟩,j31⟩
theorem over:Rows.scanStopsRow.holds Tryz.pinned (OpenSpec.ofChange Rows.scanStopsSpec):=
 OpenClaim.holds_of_wide 8 Tryz.f8 rfl rfl rfl rfl rfl rfl rfl ⟨rfl,rfl,rfl,rfl,rfl⟩ rfl rfl rfl rfl rfl (by kernel_rfl) Tryz.func8 closed
  (of_decide_eq_true (by kernel_rfl)) (by unfold Func.isWrapper;first|(rw[if_pos (by decide +kernel)];kernel_rfl)|(rw[if_neg (by decide +kernel)];exact⟨rfl,rfl⟩))
  (λos started H enc _=>lifted os started H enc)
theorem proved:Rows.ScanStopsCardSaid:=
 Claim7.holds_tied_plain_at .later [] [.data] true (true,"12e170d1944b94b951b0328fcf00c140d74f7b04ee2d5a4f0f8bea72198918bd") true
  over (λ_ h=>by cases h) (by kernel_rfl) (λ_ h=>by cases h) scanStops_row_tie rfl ⟨rfl,rfl⟩ (by kernel_rfl) rfl
  (λf fn hf hfn=>by
   obtain rfl:f=8:=aLT ((show Tryz.prog.funcNamed Rows.scanStopsRow.func=some 8 by kernel_rfl).symm.trans hf) |>.symm;obtain rfl:fn=Tryz.f8:=(aLT (Tryz.func8.symm.trans hfn)).symm;exact⟨by kernel_rfl,λj t ht=>by
    have hall:(Tryz.f8.params.toList.all λu=>!Tryz.prog.wantsStandIn u)=true:=by kernel_rfl
    have hm:t∈Tryz.f8.params.toList:=by simpa using Array.mem_of_getElem? ht
    exact(show Tryz.prog.wantsStandIn t=false by simpa using aEk.1 hall t hm)⟩)
  (by kernel_rfl)
#print axioms proved
end Go.Proofs.YtppgkeodaejgcaaGreatDoor.scanStops
