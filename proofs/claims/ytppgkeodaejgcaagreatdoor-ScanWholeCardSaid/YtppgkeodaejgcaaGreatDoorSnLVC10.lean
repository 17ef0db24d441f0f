/- scan: the card of ScanWhole: a log that is taken bit by bit with room enough is taken whole. -/
import Derived.Test.YtppgkeodaejgcaaGreatDoorSnLVC9
set_option linter.all false
set_option maxRecDepth 100000
open Go.Instr (loadAt fieldAt indexAt extract buildSlice build)
namespace Go.Proofs.YtppgkeodaejgcaaGreatDoor
section
open Go
def aZM(a b:It):ltI a b=decide (kl a.key b.key):=by
 unfold ltI;rw[zLm];simp only[Bool.or_eq_true,yH,decide_eq_true_eq];rfl
def aZR{l L:List It}(hp:l.Perm L)(hs:qF L)(ho:l.Pairwise λa b=>ltI b a=false):l=L:=by
 have hn:(l.map It.key).Nodup:=(hp.map It.key).nodup_iff.2 hs.nodup;refine qF.unique ?_ hs hp;unfold List.Nodup at hn;rw[List.pairwise_map] at hn;refine ho.imp₂ (λa b h1 h2=>?_) hn;rw[aZM] at h1;have h1:=of_decide_eq_false h1;rcases aLt h2 with h3|h3
 ·exact h3
 ·exact absurd h3 h1
def aWx{h:PH}{a:Nat}{L:List It}{room:Int}{F:List Nat}(H:yO h a L room F)(hL:L.length≤1000000){k:cD}
  (hk:∀v h' G,eM h' dE 5 v (L.map It.cells) G->eK h G->dD h h'->k v h'):aT PG aDT #[pT a 0] h k:=by
 apply aCX.call;unfold aCX;have hs:=H.srt;obtain⟨m,l,ha,hm,hp,rfl,ham⟩:=H.here;have hll:l.length≤1000000:=by rw[hp.length_eq];exact hL
 have c0:dB h ⟨a,0,none⟩=some (.map (some m)):=by simp[dB,ha]
 simp only[gP.f0,dS.load,c0,cE,reduceIte];refine aUh λbx h1 hbx hb u1=>?_;refine aTQ hb (jR.ext hm u1) hll λv l1 h2 F2 hp2 hO f2 u2=>?_;refine aYF hO (by rw[hp2.length_eq];exact hll) λl2 h3 hp3 ho hO3 u3=>?_;have hl2:l2=L:=aZR ((hp3.trans hp2).trans hp) hs ho;subst hl2;have uu:=(u1.trans u2).fresh u3 (f2.of u1);have lv:=hO3.slR.len (t':=bR) cV.und;rw[iV] at lv;obtain⟨zs,hz1,hz2⟩:=aCq (P:=PG) (n:=l2.length) cV.und dE.info dE.size dE.bytes dE.zero rfl (by decide) (by omega) (by omega);simp only[lv,hz1,cE,reduceIte];intro r hr;refine fP ?_
 try rw[cW]
 have u4:dD h3 (h3.set r (.cells zs dE)):=cQ.new hr;have hR:eM (h3.set r (.cells zs dE)) dE 5 (.slice (some ⟨r,0,none⟩) l2.length l2.length) (List.replicate l2.length [.int .i64 0,.int .u64 0,.int .u64 0,.string ⟨#[]⟩,.int .i64 0]) [r]:=
  eM.lit (λx hx=>by rw[List.eq_of_mem_replicate hx];rfl) dL (by simp) (by simp[rB];omega) (by rw[hz2];rfl)
 have hO4:=hO3.ext u4;have fr:h r=none:=uu.none hr;generalize h3.set r (.cells zs dE)=h4 at *;have hsl:=aJP (P:=PG) (t:=cV) (a:=some ⟨r,0,none⟩) (len:=l2.length) (cap:=l2.length) (l:=0) (hh:=l2.length) (lo:=some (.int .i64 (0:Nat))) (hi:=some (.int .i64 l2.length)) cV.und dE.info (.inr ⟨.i64,rfl⟩) (.inr ⟨.i64,rfl⟩) (aFl _) (nC _);have e1:(if l2.length=0 then some (⟨r,0,none⟩:Addr) else(some (⟨r,0,none⟩:Addr)).map (·.add (0*Tryz.t40.size)))=some ⟨r,0,none⟩:=by
  split
  ·rfl
  ·simp[lP]
 rw[e1] at hsl;refine aWZ (n:=l2.length) (l:=0) (m:=l2.length) cV.und dE.info dE.size hR ⟨.i64,.i64,by simpa using hsl⟩ (aFl _) (by simp) hO4.slR (It.isCell _) (by simp) ?_;intro h5 hR5 u5;have e2:List.take 0 (List.replicate l2.length ([.int .i64 0,.int .u64 0,.int .u64 0,.string ⟨#[]⟩,.int .i64 0]:List Value))++List.take l2.length (l2.map It.cells)++List.drop (0+l2.length) (List.replicate l2.length [.int .i64 0,.int .u64 0,.int .u64 0,.string ⟨#[]⟩,.int .i64 0])=l2.map It.cells:=by
  simp[lY]
 rw[e2] at hR5;exact hk _ h5 [r] hR5 (eK.one fr) ((uu.trans u4).fresh u5 (eK.one fr))
def Pk.eqIn{h:PH}{d:Nat}(m m':Pk):cG PG h (Op.equalIn (d+1+1) aR (.agg m.cells.toArray) (.agg m'.cells.toArray))=some (m.f==m'.f&&(m.s==m'.s&&(m.t==m'.t&&(m.d==m'.d&&true)))):=by
 refine(aB9 aR.und (by kernel_rfl) (λf=>match f.offset with|0=>m.f==m'.f|1=>m.s==m'.s|2=>m.t==m'.t|_=>m.d==m'.d) ?_);intro f hf;simp only[gU,lH,or_false] at hf;rcases hf with rfl|rfl|rfl|rfl
 ·exact⟨by decide,_,_,jX bR.und rfl rfl,jX bR.und rfl rfl,xL bR.und⟩
 ·exact⟨by decide,_,_,jX cA.und rfl rfl,jX cA.und rfl rfl,xL cA.und⟩
 ·exact⟨by decide,_,_,jX cA.und rfl rfl,jX cA.und rfl rfl,xL cA.und⟩
 ·exact⟨by decide,_,_,jX bT.und rfl rfl,jX bT.und rfl rfl,aF1 bT.und⟩
def It.eqIn{h:PH}(m m':It):cG PG h (Op.equalIn (9999+1) dE m.val m'.val)=some (decide (m=m')):=by
 have hm:cG PG h (Op.equalIn (9999+1) dE (.agg m.cells.toArray) (.agg m'.cells.toArray))=some ((m.p.f==m'.p.f&&(m.p.s==m'.p.s&&(m.p.t==m'.p.t&&(m.p.d==m'.p.d&&true))))&&(m.g==m'.g&&true)):=by
  refine(aB9 dE.und (by kernel_rfl) (λf=>match f.offset with|0=>(m.p.f==m'.p.f&&(m.p.s==m'.p.s&&(m.p.t==m'.p.t&&(m.p.d==m'.p.d&&true))))|_=>m.g==m'.g) ?_);intro f hf;simp only[gU,lH,or_false] at hf;rcases hf with rfl|rfl
  ·exact⟨by decide,_,_,aL0 aR.und rfl aR.info aR.size,aL0 aR.und rfl aR.info aR.size,Pk.eqIn (d:=9997) m.p m'.p⟩
  ·exact⟨by decide,_,_,jX bR.und rfl rfl,jX bR.und rfl rfl,xL bR.und⟩
 show cG PG h (Op.equalIn (9999+1) dE (.agg m.cells.toArray) (.agg m'.cells.toArray))=_;rw[hm];congr 1;simp only[aE4];rw[zLm];obtain⟨⟨a,b,c,d⟩,g⟩:=m;obtain⟨⟨a',b',c',d'⟩,g'⟩:=m';simp[and_assoc]
def It.neq{h:PH}{x y:Operand}(m m':It):cG PG h (jT .neq dE x y m.val m'.val)=some (.bool (!decide (m=m'))):=aMn (by kernel_rfl) (It.eqIn m m')
def fZ.it{h:PH}{x:Value}{xs:List It}(H:fZ h 5 x (xs.map It.cells)){k:IntKind}{j:Nat}{m:It}(hm:xs[j]? =some m):
  ∃a,dH PG (indexAt cV x (.int k j))=some (.pointer (some a))∧cG PG h (loadAt dE (.pointer (some a)))=some m.val:=
 H.loadAgg cV.und dE.info dE.size dE.und rfl (by omega) (by rw[wA,rA,hm];rfl)
def fZ.nt{h:PH}{x:Value}{xs:List Nt}(H:fZ h 5 x (xs.map Nt.cells)){k:IntKind}{j:Nat}{m:Nt}(hm:xs[j]? =some m):
  ∃a,dH PG (indexAt cU x (.int k j))=some (.pointer (some a))∧cG PG h (loadAt dA (.pointer (some a)))=some (.agg m.cells.toArray):=
 H.loadAgg cU.und dA.info dA.size dA.und rfl (by omega) (by rw[wA,rA,hm];rfl)
def aXl{h:PH}{x y:Value}{xs ys:List It}(hx:fZ h 5 x (xs.map It.cells))(hy:fZ h 5 y (ys.map It.cells))(hl:xs.length≤1000000){k:cD}
  (hk:k (.bool (decide (xs=ys))) h):aT PG aAI #[x,y] h k:=by
 have lx:=hx.len (t':=bR) cV.und;have ly:=hy.len (t':=bR) cV.und;rw[iV] at lx ly;apply pW.call;unfold pW;by_cases hlen:xs.length=ys.length
 ·have e1:((xs.length:Int) !=(ys.length:Int))=false:=by simp[hlen]
  simp only[lx,ly,e1,cE,reduceIte];refine⟨λvs h'=>∃i:Nat,i≤xs.length∧vs=[x,y,.int .i64 i]∧h'=h∧xs.take i=ys.take i,gQ xs.length 2,⟨0,by omega,rfl,rfl,by simp⟩,?_⟩;rintro ρ h' ⟨i,hi,hvs,rfl,he⟩;simp only[iH,jA,lN,and_true] at hvs;obtain⟨e0,e1,e5⟩:=hvs;rw[e0,e1,e5];unfold aEk;by_cases hlt:i<xs.length
  ·have hd:((i:Int)<(xs.length:Int))=True:=by apply eq_true;omega
   obtain⟨m,hm⟩:∃m,xs[i]? =some m:=⟨_,lJ hlt⟩;obtain⟨m',hm'⟩:∃m,ys[i]? =some m:=⟨_,lJ (by omega)⟩;obtain⟨a,a1,a2⟩:=hx.it (k:=.i64) hm;obtain⟨b,b1,b2⟩:=hy.it (k:=.i64) hm';have e2:=qN (i:=i) (by omega);by_cases hc:m=m'
   ·have e3:(!decide (m=m'))=false:=by simp[hc]
    simp only[lx,hd,a1,a2,b1,b2,e2,It.neq,e3,cE,reduceIte];exact⟨⟨i+1,by omega,rfl,by trivial,by rw[zLU,zLU,he,hm,hm',hc]⟩,by simp[gQ,e5];omega⟩
   ·have e3:(!decide (m=m'))=true:=by simp[hc]
    simp only[lx,hd,a1,a2,b1,b2,It.neq,e3,cE,reduceIte];have:decide (xs=ys)=false:=by
     simp only[decide_eq_false_iff_not];rintro rfl;rw[hm] at hm';cases hm';exact hc rfl
    rw[this] at hk;exact hk
  ·have hd:((i:Int)<(xs.length:Int))=False:=by apply eq_false;omega
   simp only[lx,hd,cE,reduceIte];rw[lY (by omega),lY (by omega)] at he;rw[he] at hk;simpa using hk
 ·have e1:((xs.length:Int) !=(ys.length:Int))=true:=by simp;omega
  simp only[lx,ly,e1,cE,reduceIte];have:decide (xs=ys)=false:=by
   simp only[decide_eq_false_iff_not];rintro rfl;exact hlen rfl
  rw[this] at hk;exact hk
def aUm{h:PH}{r:Nat}(hr:h r=none)(n:Nt){k:cD}(hk:∀h',Bx h' r n.cells->h' r=some (.cells n.cells.toArray dA (0,0))->dD h h'->k undef h'):
  dC PG (dT dA (pT r 0) (.agg n.cells.toArray)) (h.set r (.cells (dV PG dA) dA)) k:=by
 refine rW dL dA.info (by show 5=5;rfl) (by show 0<5;decide) (by rw[dA.zc];rfl) (by simp[Nt.cells,fW]) ?_;rw[uX];exact hk _ ⟨_,dL⟩ dL (cQ.new hr)
def aZE{h:PH}{a:Nat}{L:List It}{room:Int}{F:List Nat}(H:yO h a L room F){x:Value}{ns:List Nt}(hx:fZ h 5 x (ns.map Nt.cells))(hn:ns.length≤1000000){k:cD}
  (hk:∀h',dD h h'->k (.int .i64 (mL room L ns)) h'):aT PG aE9 #[pT a 0,x] h k:=by
 have lx:=hx.len (t':=bR) cU.und;rw[iV] at lx;apply aEl.call;unfold aEl;refine aXx H λc h1 G H1 f1 u1=>?_;simp only[lx,cE,reduceIte];refine⟨λvs h'=>∃(i:Nat) (L':List It),i≤ns.length∧vs=[x,pT c 0,x,.int .i64 ns.length,.int .i64 i]∧yO h' c L' room G∧dD h h'∧mL room L ns=i+mL room L' (ns.drop i),gQ ns.length 4,⟨0,L,by omega,rfl,H1,u1,by simp⟩,?_⟩;rintro ρ h' ⟨i,L',hi,hvs,HC,w,hf⟩;simp only[iH,jA,lN,and_true] at hvs;obtain⟨e0,e1,e2,e3,e4⟩:=hvs;rw[e0,e1,e2,e3,e4];unfold aIQ;by_cases hlt:i<ns.length
 ·have hd:((i:Int)<(ns.length:Int))=True:=by apply eq_true;omega
  obtain⟨n,hm⟩:∃m,ns[i]? =some m:=⟨_,lJ hlt⟩;obtain⟨y,y1,y2⟩:=(hx.ext w).nt (k:=.i64) hm;have e5:=qN (i:=i) (by omega);have hdrop:ns.drop i=n::ns.drop (i+1):=by
   rw[aHG hlt];have:ns[i]=n:=by rw[lJ hlt] at hm;simpa using hm
   rw[this]
  simp only[hd,y1,y2,cE,reduceIte];intro r hr
  try rw[cW]
  refine aUm hr n λh2 b2 _ u2=>?_;simp only[b2.nt,cE,reduceIte];refine aRS (HC.ext u2) n λh3 H3 u3=>?_;have w3:dD h h3:=(w.trans u2).fresh u3 f1;by_cases hz:qI L' room n=0
  ·have e6:(qI L' room n !=0)=false:=by simp[hz]
   simp only[e6,e5,cE,reduceIte];refine⟨⟨i+1,oG L' room n,by omega,rfl,H3,w3,?_⟩,by simp[gQ,e4];omega⟩;rw[hf,hdrop];show i+(if qI L' room n=0 then _ else _)=_;rw[if_pos hz];omega
  ·have e6:(qI L' room n !=0)=true:=by simp[hz]
   simp only[e6,cE,reduceIte];have:mL room L ns=i:=by
    rw[hf,hdrop];show i+(if qI L' room n=0 then _ else _)=_;rw[if_neg hz];rfl
   rw[this] at hk;exact hk h3 w3
 ·have hd:((i:Int)<(ns.length:Int))=False:=by apply eq_false;omega
  simp only[hd,lx,cE,reduceIte];have hil:i=ns.length:=by omega
  rw[hil] at hf;rw[List.drop_length] at hf;have:mL room L ns=ns.length:=hf;rw[this] at hk;exact hk h' w
def pA(L:List It)(k:Ky):List It:=L.filter λj=>decide (kl j.key k)
def pC(L:List It)(k:Ky):List It:=L.filter λj=>decide (kl k j.key)
def aHj:∀{L:List It},qF L->∀k,L=pA L k++((jO L k).toList++pC L k)
 | [],_,k=>rfl
 | x::L,hs,k=>by
  unfold qF at hs;rw[zL3] at hs;have ih:=aHj (L:=L) hs.2 k;by_cases h1:kl x.key k
  ·have e1:pA (x::L) k=x::pA L k:=by unfold pA;simp[zLt,h1]
   have e2:pC (x::L) k=pC L k:=by unfold pC;simp[zLt,aH5 h1]
   have e3:jO (x::L) k=jO L k:=by unfold jO;simp[aNw,(aLm h1).symm]
   rw[e1,e2,e3,zLW,←ih]
  ·have hnA:pA L k=[]:=by
    unfold pA;rw[List.filter_eq_nil_iff];intro y hy hk;exact h1 (aJ7 (hs.1 y hy) (by simpa using hk))
   by_cases h2:x.key=k
   ·have e1:pA (x::L) k=[]:=by unfold pA at *;simp[zLt,h1];simpa using hnA
    have e2:pC (x::L) k=L:=by
     unfold pC;have:¬kl k x.key:=by rw[h2];exact aIR _
     simp only[zLt,this,decide_false,zLu,if_false];rw[aJf];intro y hy;have:=hs.1 y hy;rw[h2] at this;simpa using this
    have e3:jO (x::L) k=some x:=by unfold jO;simp[aNw,h2]
    rw[e1,e2,e3];rfl
   ·have h3:kl k x.key:=(aLt h2).resolve_left h1;have hno:jO L k=none:=aGr.2 λy hy e=>by
     have:=hs.1 y hy;rw[e] at this;exact aH5 this h3
    have e1:pA (x::L) k=[]:=by unfold pA at *;simp[zLt,h1];simpa using hnA
    have e2:pC (x::L) k=x::L:=by
     unfold pC;rw[aJf];intro y hy;rcases gU.1 hy with rfl|hy
     ·simpa using h3
     ·simpa using aJ7 h3 (hs.1 y hy)
    have e3:jO (x::L) k=none:=by
     unfold jO at *;simp only[aNw,show(k=x.key)=False from eq_false (λe=>h2 e.symm),decide_false];exact hno
    rw[e1,e2,e3];rfl
def aXP(L:List It)(k:Ky):(pA L k).length≤L.length:=aMz _ _
def bAI{L:List It}(hs:qF L){k:Ky}{i:Nat}{m:It}(hi:i<(pA L k).length)(hm:L[i]? =some m):kl m.key k:=by
 rw[aHj hs k,List.getElem?_append_left hi] at hm;have:=tA hm;unfold pA at this;simpa using(zL2.1 this).2
def bAJ{L:List It}(hs:qF L){k:Ky}{m:It}(hm:L[(pA L k).length]? =some m):¬kl m.key k∧(jO L k).isSome=decide (m.key=k)∧(m.key=k->jO L k=some m):=by
 have h:=hm;have h:(pA L k++((jO L k).toList++pC L k))[(pA L k).length]? =some m:=by rw[←aHj hs k];exact hm
 rw[List.getElem?_append_right (nC _),aKu] at h;cases hg:jO L k with
 | some x=>
  rw[hg] at h;simp only[Option.toList_some,zLW,sK,qB,zL9] at h;subst h;obtain⟨_,h2⟩:=aGi hg;subst h2;exact⟨aIR _,by simp,λ_=>rfl⟩
 | none=>
  rw[hg] at h;simp only[Option.toList_none,sK] at h;have:=tA h;unfold pC at this;have h3:kl k m.key:=by simpa using(zL2.1 this).2
  refine⟨aH5 h3,by simp[(aLm h3).symm],λe=>?_⟩;rw[e] at h3;exact absurd h3 (aIR _)
def aYn{L:List It}(hs:qF L){k:Ky}(hm:(pA L k).length=L.length):jO L k=none:=by
 have h:=congrArg List.length (aHj hs k);simp only[jM] at h;cases hg:jO L k with
 | none=>rfl
 | some x=>rw[hg] at h;simp at h;omega
def aPq{L:List It}(hs:qF L)(k:Ky):L.take (pA L k).length=pA L k:=by
 conv=>lhs;arg 2;rw[aHj hs k]
 rw[List.take_left'];rfl
def aPc{L:List It}(hs:qF L)(k:Ky):L.drop (pA L k).length=(jO L k).toList++pC L k:=by
 conv=>lhs;arg 2;rw[aHj hs k]
 rw[List.drop_left'];rfl
def aYO{L:List It}(hs:qF L){i:It}(hg:jO L i.key=none):L.take (pA L i.key).length++[i]++L.drop (pA L i.key).length=aB5 L i:=by
 rw[aPq hs,aPc hs,hg];unfold aB5 pA pC;simp
def aYW{L:List It}(hs:qF L){k:Ky}{x:It}(hg:jO L k=some x):L.take (pA L k).length++L.drop ((pA L k).length+1)=aAE L k:=by
 have h1:L.drop ((pA L k).length+1)=pC L k:=by
  rw[←aGf,aPc hs,hg];rfl
 rw[aPq hs,h1];unfold aAE;have hp:=(aM5 (λj:It=>decide (kl j.key k)) (λj=>decide (kl k j.key)) (λa ha=>by
  simp only[decide_eq_true_eq] at ha;simp only[decide_eq_false_iff_not];exact aH5 ha) L)
 have he:(L.filter λa=>decide (kl a.key k)||decide (kl k a.key))=L.filter λi=>decide (i.key≠k):=by
  apply List.filter_congr;intro y _;rw[zLm];simp only[Bool.or_eq_true,decide_eq_true_eq];exact⟨λh=>by rcases h with h|h;exact aLm h;exact(aLm h).symm,aLt⟩
 rw[he] at hp;refine qF.unique ?_ (hs.filter _) hp;unfold qF;rw[List.pairwise_append];refine⟨hs.filter _,hs.filter _,λa ha b hb=>?_⟩;exact aJ7 (by simpa using(zL2.1 ha).2) (by simpa using(zL2.1 hb).2)
def aXh{L:List It}(hs:qF L){i:It}{x:It}(hg:jO L i.key=some x):L.take (pA L i.key).length++i::L.drop ((pA L i.key).length+1)=aB5 L i:=by
 have h1:L.drop ((pA L i.key).length+1)=pC L i.key:=by
  rw[←aGf,aPc hs,hg];rfl
 rw[aPq hs,h1];rfl
structure RAt(h:PH)(a:Nat)(L:List It)(room:Int)(F:List Nat):Prop where
 here:∃v G,h a=some (.cells #[v,.int .i64 room] dQ (0,0))∧eM h dE 5 v (L.map It.cells) G∧F=a::G∧a∉G
 srt:qF L
def RAt.upd{h h':PH}{a:Nat}{L:List It}{room:Int}{F G:List Nat}(H:RAt h a L room F)(u:cQ G h h')(hd:∀b∈F,b∉G):RAt h' a L room F:=by
 obtain⟨v,G',ha,hO,rfl,hn⟩:=H.here;exact⟨⟨v,G',u.get ha (hd a (by simp)),hO.upd u (λb hb=>hd b (by simp[hb])),rfl,hn⟩,H.srt⟩
def RAt.ext{h h':PH}{a:Nat}{L:List It}{room:Int}{F:List Nat}(H:RAt h a L room F)(u:dD h h'):RAt h' a L room F:=H.upd u (by simp)
def RAt.known{h:PH}{a:Nat}{L:List It}{room:Int}{F:List Nat}(H:RAt h a L room F):∀b∈F,h b≠none:=by
 obtain⟨v,G',ha,hO,rfl,hn⟩:=H.here;intro b hb;rcases gU.1 hb with rfl|hb
 ·rw[ha];simp
 ·exact hO.known b hb
def fZ.itf{h:PH}{x:Value}{xs:List It}(H:fZ h 5 x (xs.map It.cells)){k:IntKind}{j:Nat}{m:It}(hm:xs[j]? =some m):
  ∃b o,dH PG (indexAt cV x (.int k j))=some (pT b o)∧dB h ⟨b,o,none⟩=some (.int .i64 m.p.f)∧dB h ⟨b,o+1,none⟩=some (.int .u64 m.p.s)∧dB h ⟨b,o+3,none⟩=some (.string m.p.d)∧
   cG PG h (loadAt dE (pT b o))=some m.val:=by
 obtain⟨b,o,h1,h2,h3⟩:=H.fields cV.und dE.info dE.size (k:=k) (j:=j) (r:=m.cells) (by rw[wA,hm];rfl);exact⟨b,o,h1,h2 0 _ rfl,h2 1 _ rfl,h2 3 _ rfl,h3 _ dE.und rfl⟩
def aRb{h:PH}{a:Nat}{L:List It}{room:Int}{F:List Nat}(H:RAt h a L room F)(hL:L.length≤1000000)(key:Ky){k:cD}
  (hk:k (.tuple #[.int .i64 (pA L key).length,.bool (jO L key).isSome]) h):aT PG rS #[pT a 0,.int .i64 key.1,.int .u64 key.2] h k:=by
 have hs:=H.srt;obtain⟨v,G,ha,hO,rfl,hn⟩:=H.here;have lv:=hO.slR.len (t':=bR) cV.und;rw[iV] at lv;have c0:dB h ⟨a,0,none⟩=some v:=by simp[dB,ha]
 apply oM.call;unfold oM;refine⟨λvs h'=>∃i:Nat,i≤(pA L key).length∧vs=[pT a 0,.int .i64 key.1,.int .u64 key.2,.int .i64 i]∧h'=h,gQ (pA L key).length 3,⟨0,by omega,rfl,rfl⟩,?_⟩;rintro ρ h' ⟨i,hi,hvs,rfl⟩;simp only[iH,jA,lN,and_true] at hvs;obtain⟨e0,e1,e2,e3⟩:=hvs;rw[e0,e1,e2,e3];unfold aC9;have hpl:=aXP L key;by_cases hlt:i<(pA L key).length
 ·have hd:((i:Int)<(L.length:Int))=True:=by apply eq_true;omega
  obtain⟨m,hm⟩:∃m,L[i]? =some m:=⟨_,lJ (by omega)⟩;obtain⟨b,o,a1,a2,a3,_,_⟩:=hO.slR.itf (k:=.i64) hm;have hkl:=bAI hs hlt hm;have e5:=qN (i:=i) (by omega);rcases hkl with h1|⟨h1,h2⟩
  ·have d1:(m.p.f<key.1)=True:=eq_true h1;simp only[dQ.f0,cV.load,c0,lv,hd,a1,dE.f0,aR.f0,aR.f1,bR.load,cA.load,a2,a3,d1,e5,cE,reduceIte];exact⟨⟨i+1,by omega,rfl,by trivial⟩,by simp[gQ,e3];omega⟩
  ·have h1':m.p.f=key.1:=h1;have h2':m.p.s<key.2:=h2;have d1:(m.p.f<key.1)=False:=by apply eq_false;omega
   have d2:(m.p.f==key.1)=true:=by simp[h1']
   have d3:(m.p.s<key.2)=True:=eq_true h2';simp only[dQ.f0,cV.load,c0,lv,hd,a1,dE.f0,aR.f0,aR.f1,bR.load,cA.load,a2,a3,d1,d2,d3,e5,cE,reduceIte];exact⟨⟨i+1,by omega,rfl,by trivial⟩,by simp[gQ,e3];omega⟩
 ·have hil:i=(pA L key).length:=by omega
  subst hil;by_cases hend:(pA L key).length<L.length
  ·have hd:(((pA L key).length:Int)<(L.length:Int))=True:=by apply eq_true;omega
   obtain⟨m,hm⟩:∃m,L[(pA L key).length]? =some m:=⟨_,lJ hend⟩;obtain⟨b,o,a1,a2,a3,_,_⟩:=hO.slR.itf (k:=.i64) hm;obtain⟨hnk,hsm,_⟩:=bAJ hs hm;rw[hsm] at hk;have hnf:¬(m.p.f<key.1∨m.p.f=key.1∧m.p.s<key.2):=hnk;have d1:(m.p.f<key.1)=False:=by apply eq_false;omega
   by_cases hf:m.p.f=key.1
   ·have d2:(m.p.f==key.1)=true:=by simp[hf]
    have d3:(m.p.s<key.2)=False:=by apply eq_false;omega
    by_cases hq:m.p.s=key.2
    ·have d4:(m.p.s==key.2)=true:=by simp[hq]
     have:decide (m.key=key)=true:=by simp only[decide_eq_true_eq];exact Prod.ext hf hq
     rw[this] at hk;simp only[dQ.f0,cV.load,c0,lv,hd,a1,dE.f0,aR.f0,aR.f1,bR.load,cA.load,a2,a3,d1,d2,d3,d4,cE,reduceIte];exact hk
    ·have d4:(m.p.s==key.2)=false:=by simp[hq]
     have:decide (m.key=key)=false:=by simp only[decide_eq_false_iff_not];rintro rfl;exact hq rfl
     rw[this] at hk;simp only[dQ.f0,cV.load,c0,lv,hd,a1,dE.f0,aR.f0,aR.f1,bR.load,cA.load,a2,a3,d1,d2,d3,d4,cE,reduceIte];exact hk
   ·have d2:(m.p.f==key.1)=false:=by simp[hf]
    have:decide (m.key=key)=false:=by simp only[decide_eq_false_iff_not];rintro rfl;exact hf rfl
    rw[this] at hk;simp only[dQ.f0,cV.load,c0,lv,hd,a1,dE.f0,aR.f0,aR.f1,bR.load,cA.load,a2,a3,d1,d2,cE,reduceIte];exact hk
  ·have hd:(((pA L key).length:Int)<(L.length:Int))=False:=by apply eq_false;omega
   have hno:=aYn hs (k:=key) (by omega);rw[hno] at hk;simp only[dQ.f0,cV.load,c0,lv,hd,aLo,aKI,cE,reduceIte];exact hk
def aT9{h:PH}(p:Pk)(hs0:0≤p.s)(ht0:0≤p.t){k:cD}(hk:∀h',dD h h'->k (.bool p.right) h'):aT PG mE #[.agg p.cells.toArray] h k:=by
 apply uN.call;unfold uN;intro r hr;rw[cW];have u:dD h (h.set r (.cells (Value.cells (.agg p.cells.toArray)) aR)):=cQ.new hr;have b:Bx (h.set r (.cells (Value.cells (.agg p.cells.toArray)) aR)) r p.cells:=Bx.new;generalize h.set r (.cells (Value.cells (.agg p.cells.toArray)) aR)=h1 at *;have c0:dB h1 ⟨r,0,none⟩=some (.int .i64 p.f):=b.cell 0;have c1:dB h1 ⟨r,0+1,none⟩=some (.int .u64 p.s):=b.cell 1;have c2:dB h1 ⟨r,0+2,none⟩=some (.int .u64 p.t):=b.cell 2;have c3:dB h1 ⟨r,0+3,none⟩=some (.string p.d):=b.cell 3;have hk:=hk h1 u;unfold Pk.right at hk;have hf:(p.f=0∨p.f=1)∨(p.f<0∨1<p.f):=by omega
 rcases hf with hf|hf
 ·have g1:(0≤p.f)=True:=by apply eq_true;omega
  have g2:(p.f≤1)=True:=by apply eq_true;omega
  have go:cG PG h1 (loadAt bR (pT r 0))=some (.int .i64 p.f):=by rw[bR.load,c0]
  have first:∀X:Prop,X->X:=λ_ x=>x
  by_cases h3:p.s=0
  ·have e3:((0:Int)<p.s)=False:=by apply eq_false;omega
   have e3':(p.s≠0)=False:=by simp[h3]
   simp only[g1,g2,e3',decide_false,sJ,aDL,cE,reduceIte] at hk;rcases hf with hf|hf
   ·have d0:(p.f==0)=true:=by simp[hf]
    simp only[aR.f0,aR.f1,aR.f2,aR.f3,bR.load,cA.load,bT.load,c0,d0,c1,e3,cE,reduceIte];exact hk
   ·have d0:(p.f==0)=false:=by simp[hf]
    have d1:(p.f==1)=true:=by simp[hf]
    simp only[aR.f0,aR.f1,aR.f2,aR.f3,bR.load,cA.load,bT.load,c0,d0,d1,c1,e3,cE,reduceIte];exact hk
  ·have e3:((0:Int)<p.s)=True:=by apply eq_true;omega
   have e3':(p.s≠0)=True:=by simp[h3]
   by_cases h4:p.t=0
   ·have e4:((0:Int)<p.t)=False:=by apply eq_false;omega
    have e4':(p.t≠0)=False:=by simp[h4]
    simp only[g1,g2,e3',e4',decide_false,sJ,aDL,cE,reduceIte] at hk;rcases hf with hf|hf
    ·have d0:(p.f==0)=true:=by simp[hf]
     simp only[aR.f0,aR.f1,aR.f2,aR.f3,bR.load,cA.load,bT.load,c0,d0,c1,e3,c2,e4,cE,reduceIte];exact hk
    ·have d0:(p.f==0)=false:=by simp[hf]
     have d1:(p.f==1)=true:=by simp[hf]
     simp only[aR.f0,aR.f1,aR.f2,aR.f3,bR.load,cA.load,bT.load,c0,d0,d1,c1,e3,c2,e4,cE,reduceIte];exact hk
   ·have e4:((0:Int)<p.t)=True:=by apply eq_true;omega
    have e4':(p.t≠0)=True:=by simp[h4]
    have e5:decide ((p.d.size:Int)≤64)=decide (p.d.size≤64):=by
     rw[zLm];simp only[decide_eq_true_eq];omega
    simp only[g1,g2,e3',e4',Bool.and_self,zLp,cE,reduceIte] at hk;rcases hf with hf|hf
    ·have d0:(p.f==0)=true:=by simp[hf]
     simp only[aR.f0,aR.f1,aR.f2,aR.f3,bR.load,cA.load,bT.load,c0,d0,c1,e3,c2,e4,c3,lS bT.und,e5,cE,reduceIte];exact hk
    ·have d0:(p.f==0)=false:=by simp[hf]
     have d1:(p.f==1)=true:=by simp[hf]
     simp only[aR.f0,aR.f1,aR.f2,aR.f3,bR.load,cA.load,bT.load,c0,d0,d1,c1,e3,c2,e4,c3,lS bT.und,e5,cE,reduceIte];exact hk
 ·have d0:(p.f==0)=false:=by simp;omega
  have d1:(p.f==1)=false:=by simp;omega
  have g:(decide (0≤p.f)&&decide (p.f≤1))=false:=by
   rw[Bool.and_eq_false_iff];simp only[decide_eq_false_iff_not];omega
  simp only[g,sJ] at hk;simp only[aR.f0,bR.load,c0,d0,d1,cE,reduceIte];exact hk
def aTi{h:PH}(n:Nt)(hs0:0≤n.p.s)(ht0:0≤n.p.t){k:cD}(hk:∀h',dD h h'->k (.bool n.right) h'):aT PG aCh #[.agg n.cells.toArray] h k:=by
 apply aBr.call;unfold aBr;intro r hr;rw[cW];have u:dD h (h.set r (.cells (Value.cells (.agg n.cells.toArray)) dA)):=cQ.new hr;have b:Bx (h.set r (.cells (Value.cells (.agg n.cells.toArray)) dA)) r n.cells:=Bx.new;generalize h.set r (.cells (Value.cells (.agg n.cells.toArray)) dA)=h1 at *;have c0:dB h1 ⟨r,0,none⟩=some (.int .i64 n.k):=b.cell 0;have p1:=b.pk (o:=0+1) (p:=n.p) rfl;unfold Nt.right at hk;by_cases d1:1≤n.k
 ·by_cases d2:n.k≤4
  ·simp only[dA.f0,dA.f1,bR.load,c0,d1,d2,p1,zLp,Bool.and_self,cE,reduceIte] at hk ⊢;exact aT9 n.p hs0 ht0 λh2 u2=>hk h2 (u.trans u2)
  ·simp only[dA.f0,dA.f1,bR.load,c0,d1,d2,sJ,aDL,decide_false,cE,reduceIte] at hk ⊢;exact hk _ u
 ·simp only[dA.f0,dA.f1,bR.load,c0,d1,sJ,decide_false,cE,reduceIte] at hk ⊢;exact hk _ u
def aM1:jV PG (buildSlice cV 0 #[])=some (.cells #[] dE (0,0),λr=>pure (.slice (some ⟨r,0,none⟩) 0 0)):=by kernel_rfl
def aLG{h:PH}{v x:Value}{F:List Nat}{xs ys:List It}(H:eM h dE 5 v (xs.map It.cells) F)(S:fZ h 5 x (ys.map It.cells))(hl:xs.length+ys.length≤1000000){k:cD}
  (hk:∀v' h' F',eM h' dE 5 v' ((xs++ys).map It.cells) F'->cQ F h h'->(∀b∈F',b∈F∨h b=none)->k v' h'):dC PG (Builtin.append_ #[cV,cV] cV #[v,x]) h k:=by
 refine jK cV.und cV.und dE.info dE.size dE.bytes dE.zero rfl (by decide) H S (It.isCell _) (by simp;omega) ?_;intro v' h' F' hO u f _;rw[←pO] at hO;exact hk v' h' F' hO u f
def eM.cutIt{h:PH}{v:Value}{F:List Nat}{L:List It}(H:eM h dE 5 v (L.map It.cells) F){lo hi:Option Value}{l m:Nat}
  (hlo:lo=none∧l=0∨∃k,lo=some (.int k l)) (hhi:hi=none∧m=L.length∨∃k,hi=some (.int k m)) (h1:l≤m) (h2:m≤L.length):
  ∃v',dH PG (Instr.sliceAt cV v lo hi none)=some v'∧fZ h 5 v' (((L.take m).drop l).map It.cells)∧∀x n c,v'= .slice (some x) n c->x.block∈F:=by
 obtain⟨v',e1,e2,e3⟩:=H.slR.cut cV.und dE.info dE.size (l:=l) (m:=m) hlo (by rcases hhi with⟨a,b⟩|h;exact .inl ⟨a,by rw[iV];exact b⟩;exact .inr h) h1 (by rw[iV];exact h2);refine⟨v',e1,?_,?_⟩
 ·rw[←aJo,←aL2] at e2;exact e2
 ·intro x n c hx;obtain⟨x0,n0,c0,hx0,hb⟩:=e3 x n c hx;rcases H.here with⟨h3,_⟩|⟨b,cap,cs,h3,h4,_⟩
  ·rw[h3] at hx0;cases hx0
  ·rw[h3] at hx0;simp only[Value.slice.injEq,zL9] at hx0;rw[hb,←hx0.1,h4];simp
def aSR{h:PH}{a:Nat}{L:List It}{room:Int}{F:List Nat}(H:RAt h a L room F)(hL:L.length≤1000)(i:It)(hg:jO L i.key=none){k:cD}
  (hk:∀h' F',RAt h' a (vG L room i) room F'->cQ F h h'->(∀b∈F',b∈F∨h b=none)->k (.int .i64 (aBI L room i)) h'):aT PG uQ #[pT a 0,i.val] h k:=by
 apply pY.call;unfold pY;intro r1 hr1;rw[cW];have u1:dD h (h.set r1 (.cells (Value.cells i.val) dE)):=cQ.new hr1;have b1:Bx (h.set r1 (.cells (Value.cells i.val) dE)) r1 i.cells:=Bx.new;generalize h.set r1 (.cells (Value.cells i.val) dE)=h1 at *;have H1:=H.ext u1;have hs:=H.srt;have HK:=H.known;obtain⟨v,G,ha,hO,rfl,hn⟩:=H1.here;have c0:dB h1 ⟨a,0,none⟩=some v:=by simp[dB,ha]
 have c1:dB h1 ⟨a,0+1,none⟩=some (.int .i64 room):=by simp[dB,ha]
 have lv:=hO.slR.len (t':=bR) cV.und;rw[iV] at lv;by_cases hr:room≤L.length
 ·have e1:(room≤(L.length:Int))=True:=eq_true hr;simp only[dQ.f0,dQ.f1,cV.load,bR.load,c0,c1,lv,e1,cE,reduceIte];have h1:aBI L room i=2:=by unfold aBI;rw[if_pos ⟨hg,hr⟩]
  have h2:vG L room i=L:=by unfold vG;rw[if_pos ⟨hg,hr⟩]
  rw[←h1];exact hk _ _ (by rw[h2];exact H1) (dD.upd u1) (λb hb=>.inl hb)
 ·have e1:(room≤(L.length:Int))=False:=eq_false hr;have q1:dB h1 ⟨r1,0,none⟩=some (.int .i64 i.p.f):=b1.cell 0;have q2:dB h1 ⟨r1,0+1,none⟩=some (.int .u64 i.p.s):=b1.cell 1;simp only[dQ.f0,dQ.f1,cV.load,bR.load,cA.load,dE.f0,aR.f0,aR.f1,c0,c1,lv,e1,q1,q2,cE,reduceIte];refine aRb H1 (by omega) i.key ?_;have hpl:=aXP L i.key;obtain⟨w1,s1,s2,s3⟩:=hO.cutIt (lo:=none) (hi:=some (.int .i64 (pA L i.key).length)) (l:=0) (m:=(pA L i.key).length) (.inl ⟨rfl,rfl⟩) (.inr ⟨.i64,rfl⟩) (aFl _) hpl;obtain⟨w2,t1,t2,t3⟩:=hO.cutIt (lo:=some (.int .i64 (pA L i.key).length)) (hi:=none) (l:=(pA L i.key).length) (m:=L.length) (.inr ⟨.i64,rfl⟩) (.inl ⟨rfl,rfl⟩) hpl (nC _);rw[zLb] at s2;rw[lY (nC _)] at t2;simp only[dQ.f0,cV.load,c0,s1,t1,b1.it,aM1,cE,reduceIte];intro r2 hr2;refine fP ?_
  try rw[cW]
  have u2:dD h1 (h1.set r2 (.cells #[] dE)):=cQ.new hr2;have hE:eM (h1.set r2 (.cells #[] dE)) dE 5 (.slice (some ⟨r2,0,none⟩) 0 0) (([]:List It).map It.cells) [r2]:=eM.lit (It.rows []) dL rfl (by decide) rfl;generalize h1.set r2 (.cells #[] dE)=h2 at *;refine aLG hE (s2.ext u2) (by simp;omega) ?_;intro v3 h3 F3 hO3 u3 f3;have ha2:=u2.get ha;have n2:a∉[r2]:=by simp;rintro rfl;rw[ha] at hr2;cases hr2
  have ha3:h3 a=some (.cells #[v,.int .i64 room] dQ (0,0)):=u3.get ha2 n2;have nr:r1∉[r2]:=by simp;rintro rfl;exact b1.known hr2
  have b3:=(b1.ext u2).upd u3 nr;have c03:dB h3 ⟨a,0,none⟩=some v:=by simp[dB,ha3]
  refine⟨c03,b3.it,?_⟩;rw[aUT,aDC];intro r4 hr4;refine fP ?_
  try rw[cW]
  have u4:dD h3 (h3.set r4 (.cells i.cells.toArray dE)):=cQ.new hr4;have s4:fZ (h3.set r4 (.cells i.cells.toArray dE)) 5 (.slice (some ⟨r4,0,none⟩) 1 1) ([i].map It.cells):=(eM.lit (It.rows [i]) dL (by simp) (by decide) (by simp)).slR;have s4':=s4;show dC PG (Builtin.append_ #[cV,cV] cV #[v3,.slice (some ⟨r4,0,none⟩) 1 1]) (h3.set r4 (.cells i.cells.toArray dE)) _;generalize h3.set r4 (.cells i.cells.toArray dE)=h4 at *;have ha4:=u4.get ha3;refine aLG (hO3.ext u4) s4 (by simp;omega) ?_;intro v5 h5 F5 hO5 u5 f5
  -- what lay at h1 lies there still
  have fresh3:∀b∈F3,h1 b=none:=λb hb=>by
   rcases f3 b hb with h6|h6
   ·simp at h6;subst h6;exact hr2
   ·exact u2.none h6
  have na3:a∉F3:=λhm=>by rw[fresh3 a hm] at ha;cases ha
  have ha5:h5 a=some (.cells #[v,.int .i64 room] dQ (0,0)):=u5.get ha4 na3;have E2:dD h1 h3:=u2.fresh u3 (eK.one hr2);have E4:dD h1 h4:=E2.trans u4;have E5:dD h1 h5:=E4.fresh u5 fresh3;have c05:dB h5 ⟨a,0,none⟩=some v:=by simp[dB,ha5]
  refine⟨c05,?_⟩;have fresh5:∀b∈F5,h1 b=none:=λb hb=>by
   rcases f5 b hb with h6|h6
   ·exact fresh3 b h6
   ·exact E4.none h6
  refine aLG hO5 (t2.ext E5) (by simp;omega) ?_;intro v6 h6 F6 hO6 u6 f6;have na5:a∉F5:=λhm=>by rw[fresh5 a hm] at ha;cases ha
  have ha6:=u6.get ha5 na5;have E6:dD h1 h6:=E5.fresh u6 fresh5;have fresh6:∀b∈F6,h1 b=none:=λb hb=>by
   rcases f6 b hb with h7|h7
   ·exact fresh5 b h7
   ·exact E5.none h7
  have na6:a∉F6:=λhm=>by rw[fresh6 a hm] at ha;cases ha
  refine iT cV.und rfl ha6 (by simp) (by obtain⟨_,_,rfl,-⟩:=hO6.slR.here;rfl) cV.info cV.size ?_;have u7:cQ [a] h6 (h6.set a (.cells (#[v,.int .i64 room].setIfInBounds 0 v6) dQ (0,0))):=cQ.set (by simp);have ha7:(h6.set a (.cells (#[v,.int .i64 room].setIfInBounds 0 v6) dQ (0,0))) a=some (.cells #[v6,.int .i64 room] dQ (0,0)):=dL;generalize h6.set a (.cells (#[v,.int .i64 room].setIfInBounds 0 v6) dQ (0,0))=h7 at *;have e2:aBI L room i=0:=by unfold aBI;rw[if_neg (λhc=>hr hc.2)]
  have e3:vG L room i=aB5 L i:=by unfold vG;rw[if_neg (λhc=>hr hc.2)]
  have e4:([]:List It)++L.take (pA L i.key).length++[i]++L.drop (pA L i.key).length=aB5 L i:=by rw[sK];exact aYO hs hg
  rw[e4] at hO6;rw[←e2];refine hk h7 (a::F6) ⟨⟨v6,F6,ha7,by rw[e3];exact hO6.upd u7 (λb hb=>by simp;rintro rfl;exact na6 hb),rfl,na6⟩,by rw[e3];exact hs.ins i⟩ ?_ ?_
  ·exact cQ.then (dD.upd (u1.trans E6)) u7 (λb hb=>by left;simp at hb;simp[hb])
  ·intro b hb;rcases gU.1 hb with rfl|hb
   ·left;simp
   ·right;exact u1.none (fresh6 b hb)
def aVY{h2:PH}{a:Nat}{L:List It}{room:Int}{F:List Nat}(H:RAt h2 a L room F)(hL:L.length≤1000){key:Ky}{x:It}(hg:jO L key=some x){K:PH->Prop}
  (hk:∀h' F',RAt h' a (aAE L key) room F'->cQ F h2 h'->(∀b∈F',b∈F∨h2 b=none)->K h'):
  dY (dH PG (wC (pT a 0))) λv6=>
 dY (dH PG (fieldAt dQ v6 0)) λv7=>
 dY (cG PG h2 (loadAt cV v7)) λv8=>
 dY (dH PG (Instr.sliceAt cV v8 none (some (.int .i64 (pA L key).length)) none)) λv9=>
 dY (dH PG (wC (pT a 0))) λv10=>
 dY (dH PG (fieldAt dQ v10 0)) λv11=>
 dY (cG PG h2 (loadAt cV v11)) λv12=>
 dY (dH PG (binOp BinOp.add bR (.int .i64 (pA L key).length) (Value.int IntKind.i64 1))) λv13=>
 dY (dH PG (Instr.sliceAt cV v12 (some v13) none none)) λv14=>
 dY (jV PG (buildSlice cV 0 #[])) λx16=>∀r15,h2 r15=none->dY (dH PG (x16.2 r15)) λv17=>eN (PH.set h2 r15 x16.1) λh18=>
 dC PG (Builtin.append_ #[cV,cV] cV #[v17,v9]) h18 λv19 h20=>
 cG PG h20 (loadAt cV v11)=some v12∧(dC PG (Builtin.append_ #[cV,cV] cV #[v19,v14]) h20 λv21 h22=>
 (dY (dH PG (wC (pT a 0))) λv23=>
 dY (dH PG (fieldAt dQ v23 0)) λv24=>
 dC PG (dT cV v24 v21) h22 λv25 h26=>
 (K h26))):=by
 have hs:=H.srt;have HK:=H.known;obtain⟨v,G,ha,hO,rfl,hn⟩:=H.here;have c0:dB h2 ⟨a,0,none⟩=some v:=by simp[dB,ha]
 have hlt:(pA L key).length<L.length:=by
  have:=congrArg List.length (aHj hs key);rw[hg] at this;simp only[jM,Option.toList_some,qE,zLN] at this;omega
 have e5:IntKind.i64.wrap (((pA L key).length:Int)+1)=(((pA L key).length+1:Nat):Int):=by rw[fH (by omega) (by omega)];omega
 obtain⟨w1,s1,s2,s3⟩:=hO.cutIt (lo:=none) (hi:=some (.int .i64 (pA L key).length)) (l:=0) (m:=(pA L key).length) (.inl ⟨rfl,rfl⟩) (.inr ⟨.i64,rfl⟩) (aFl _) (by omega);obtain⟨w2,t1,t2,t3⟩:=hO.cutIt (lo:=some (.int .i64 ((pA L key).length+1:Nat))) (hi:=none) (l:=(pA L key).length+1) (m:=L.length) (.inr ⟨.i64,rfl⟩) (.inl ⟨rfl,rfl⟩) (by omega) (nC _);rw[zLb] at s2;rw[lY (nC _)] at t2;simp only[dQ.f0,cV.load,c0,s1,e5,t1,aM1,cE,reduceIte];intro r2 hr2;refine fP ?_
 try rw[cW]
 have u2:dD h2 (h2.set r2 (.cells #[] dE)):=cQ.new hr2;have hE:eM (h2.set r2 (.cells #[] dE)) dE 5 (.slice (some ⟨r2,0,none⟩) 0 0) (([]:List It).map It.cells) [r2]:=eM.lit (It.rows []) dL rfl (by decide) rfl;generalize h2.set r2 (.cells #[] dE)=h3 at *;refine aLG hE (s2.ext u2) (by simp;omega) ?_;intro v4 h4 F4 hO4 u4 f4;have ha3:=u2.get ha;have n2:a∉[r2]:=by simp;rintro rfl;rw[ha] at hr2;cases hr2
 have ha4:h4 a=some (.cells #[v,.int .i64 room] dQ (0,0)):=u4.get ha3 n2;have c04:dB h4 ⟨a,0,none⟩=some v:=by simp[dB,ha4]
 refine⟨c04,?_⟩;have E4:dD h2 h4:=u2.fresh u4 (eK.one hr2);have fresh4:∀b∈F4,h2 b=none:=λb hb=>by
  rcases f4 b hb with h6|h6
  ·simp at h6;subst h6;exact hr2
  ·exact u2.none h6
 have na4:a∉F4:=λhm=>by rw[fresh4 a hm] at ha;cases ha
 refine aLG hO4 (t2.ext E4) (by simp;omega) ?_;intro v6 h6 F6 hO6 u6 f6;have ha6:=u6.get ha4 na4;have E6:dD h2 h6:=E4.fresh u6 fresh4;have fresh6:∀b∈F6,h2 b=none:=λb hb=>by
  rcases f6 b hb with h7|h7
  ·exact fresh4 b h7
  ·exact E4.none h7
 have na6:a∉F6:=λhm=>by rw[fresh6 a hm] at ha;cases ha
 refine iT cV.und rfl ha6 (by simp) (by obtain⟨_,_,rfl,-⟩:=hO6.slR.here;rfl) cV.info cV.size ?_;have u7:cQ [a] h6 (h6.set a (.cells (#[v,.int .i64 room].setIfInBounds 0 v6) dQ (0,0))):=cQ.set (by simp);have ha7:(h6.set a (.cells (#[v,.int .i64 room].setIfInBounds 0 v6) dQ (0,0))) a=some (.cells #[v6,.int .i64 room] dQ (0,0)):=dL;generalize h6.set a (.cells (#[v,.int .i64 room].setIfInBounds 0 v6) dQ (0,0))=h7 at *;have e4:([]:List It)++L.take (pA L key).length++L.drop ((pA L key).length+1)=aAE L key:=by rw[sK];exact aYW hs hg
 rw[e4] at hO6;refine hk h7 (a::F6) ⟨⟨v6,F6,ha7,hO6.upd u7 (λb hb=>by simp;rintro rfl;exact na6 hb),rfl,na6⟩,hs.del _⟩ ?_ ?_
 ·exact cQ.then (dD.upd E6) u7 (λb hb=>by left;simp at hb;simp[hb])
 ·intro b hb;rcases gU.1 hb with rfl|hb
  ·left;simp
  ·right;exact fresh6 b hb
def aUs{L:List It}{p:Nat}{x:It}(hlt:p<L.length)(hat:L[p]? =some x)(g:Int):(L.map It.cells).flatten.set (p*5+4) (.int .i64 g)=((L.take p++⟨x.p,g⟩::L.drop (p+1)).map It.cells).flatten:=by
 have h2:((L.take p).map It.cells).flatten.length=p*5:=by
  rw[(It.rows _).flat,iV,nI];congr 1;omega
 have h1:(L.map It.cells).flatten=((L.take p).map It.cells).flatten++(x.cells++((L.drop (p+1)).map It.cells).flatten):=by
  have h3:L=L.take p++x::L.drop (p+1):=by
   have:L.drop p=x::L.drop (p+1):=by
    rw[aHG hlt];have:L[p]=x:=by rw[lJ hlt] at hat;simpa using hat
    rw[this]
   rw[←this,aLw]
  conv=>lhs;rw[h3]
  simp only[pO,zLG,iH,aDE]
 rw[h1,List.set_append_right _ _ (by rw[h2];omega),h2];simp only[pO,zLG,iH,aDE];congr 1;rw[show p*5+4-p*5=4 by omega];rfl
set_option maxHeartbeats 1000000 in
theorem aU5{h:PH}{a:Nat}{L:List It}{room:Int}{F:List Nat}(H:RAt h a L room F)(hL:L.length≤1000)(n:Nt)(hs0:0≤n.p.s)(ht0:0≤n.p.t){k:cD}
  (hk:∀h' F',RAt h' a (oG L room n) room F'->cQ F h h'->(∀b∈F',b∈F∨h b=none)->k (.int .i64 (qI L room n)) h'):aT PG rT #[pT a 0,.agg n.cells.toArray] h k:=by
 apply oI.call;unfold oI;intro r1 hr1;rw[cW];have u1:dD h (h.set r1 (.cells (Value.cells (.agg n.cells.toArray)) dA)):=cQ.new hr1;have b1:Bx (h.set r1 (.cells (Value.cells (.agg n.cells.toArray)) dA)) r1 n.cells:=Bx.new;generalize h.set r1 (.cells (Value.cells (.agg n.cells.toArray)) dA)=h1 at *;simp only[b1.nt,cE,reduceIte];refine aTi n hs0 ht0 λh2 u2=>?_;have uu:=u1.trans u2;have b2:=b1.ext u2;have H2:=H.ext uu;have hs:=H.srt;cases hr:n.right with
 | false=>
  have e1:qI L room n=1:=by unfold qI;rw[if_pos hr]
  have e2:oG L room n=L:=by unfold oG;rw[if_pos hr]
  rw[e1,e2] at hk;simp only[cE,reduceIte];exact hk h2 F H2 (dD.upd uu) (λb hb=>.inl hb)
 | true=>
  have c0:dB h2 ⟨r1,0,none⟩=some (.int .i64 n.k):=b2.cell 0;have c1:dB h2 ⟨r1,0+1,none⟩=some (.int .i64 n.p.f):=b2.cell 1;have c2:dB h2 ⟨r1,0+1+1,none⟩=some (.int .u64 n.p.s):=b2.cell 2;have p1:=b2.pk (o:=0+1) (p:=n.p) rfl;simp only[dA.f1,aR.f0,aR.f1,bR.load,cA.load,c1,c2,cE,reduceIte];refine aRb H2 (by omega) n.p.key ?_;have hkr:1≤n.k∧n.k≤4:=by
   unfold Nt.right at hr;simp only[yH,decide_eq_true_eq] at hr;exact hr.1
  have hrt:¬n.right=false:=by rw[hr];simp
  have hx:n.k=1∨n.k=2∨2<n.k:=by omega
  have fin:∀{h':PH} {F':List Nat} {X:List It} {E:Int},oG L room n=X->qI L room n=E->RAt h' a X room F'->cQ F h2 h'->(∀b∈F',b∈F∨h2 b=none)->k (.int .i64 E) h':=by
   intro h' F' X E e1 e2 H' u' f';rw[←e2];exact hk h' F' (by rw[e1];exact H') (cQ.then (dD.upd uu) u' λb hb=>.inl hb) (λb hb=>by
    rcases f' b hb with h|h
    ·exact .inl h
    ·exact .inr (uu.none h))
  rcases hx with hA|hA|hA
  ·have d1:(n.k==1)=true:=by simp[hA]
   have d2:(n.k==2)=false:=by simp[hA]
   have d3:((2:Int)<n.k)=False:=by apply eq_false;omega
   cases hg:jO L n.p.key with
   | none=>
    simp only[dA.f0,dA.f1,bR.load,c0,d1,zLv,p1,aJX,cE,reduceIte];refine aSR H2 hL ⟨n.p,1⟩ hg λh3 F3 H3 u3 f3=>fin ?_ ?_ H3 u3 f3
    ·unfold oG;rw[if_neg hrt,if_pos hA,hg];rfl
    ·unfold qI;rw[if_neg hrt,if_pos hA,hg];rfl
   | some x=>
    simp only[dA.f0,dA.f1,bR.load,c0,d1,d2,d3,aKs,cE,reduceIte];unfold lR oJ;refine fin ?_ ?_ H2 cQ.refl (λb hb=>.inl hb)
    ·unfold oG;rw[if_neg hrt,if_pos hA,hg];rfl
    ·unfold qI;rw[if_neg hrt,if_pos hA,hg];rfl
  ·have d1:(n.k==1)=false:=by simp[hA]
   have d2:(n.k==2)=true:=by simp[hA]
   have n1:¬n.k=1:=by omega
   cases hg:jO L n.p.key with
   | none=>
    simp only[dA.f0,dA.f1,bR.load,c0,d1,d2,zLv,p1,aJX,cE,reduceIte];refine aSR H2 hL ⟨n.p,2⟩ hg λh3 F3 H3 u3 f3=>fin ?_ ?_ H3 u3 f3
    ·unfold oG;rw[if_neg hrt,if_neg n1,if_pos hA,hg]
    ·unfold qI;rw[if_neg hrt,if_neg n1,if_pos hA,hg];rfl
   | some x=>
    obtain⟨hx1,hx2⟩:=aGi hg;have eL:oG L room n=aB5 L ⟨x.p,2⟩:=by unfold oG;rw[if_neg hrt,if_neg n1,if_pos hA,hg]
    have eE:qI L room n=0:=by unfold qI;rw[if_neg hrt,if_neg n1,if_pos hA,hg];rfl
    simp only[dA.f0,dA.f1,bR.load,c0,d1,d2,aKs,aM1,cE,reduceIte];intro r2 hr2;refine fP ?_
    try rw[cW]
    obtain⟨v,G,ha,hO,rfl,hn⟩:=H2.here;have u3:dD h2 (h2.set r2 (.cells #[] dE)):=cQ.new hr2;have hE:eM (h2.set r2 (.cells #[] dE)) dE 5 (.slice (some ⟨r2,0,none⟩) 0 0) (([]:List It).map It.cells) [r2]:=eM.lit (It.rows []) dL rfl (by decide) rfl;generalize h2.set r2 (.cells #[] dE)=h3 at *;have ha3:=u3.get ha;have c03:dB h3 ⟨a,0,none⟩=some v:=by simp[dB,ha3]
    simp only[dQ.f0,cV.load,c03,cE,reduceIte];refine aLG hE (hO.slR.ext u3) (by simp;omega) ?_;intro v4 h4 F4 hO4 u4 f4;rw[sK] at hO4;have E4:dD h2 h4:=u3.fresh u4 (eK.one hr2);have fresh4:∀b∈F4,h2 b=none:=λb hb=>by
     rcases f4 b hb with h6|h6
     ·simp at h6;subst h6;exact hr2
     ·exact u3.none h6
    have na4:a∉F4:=λhm=>by rw[fresh4 a hm] at ha;cases ha
    have ha4:=E4.get ha;have hlt:(pA L n.p.key).length<L.length:=by
     have:=congrArg List.length (aHj hs n.p.key);rw[hg] at this;simp only[jM,Option.toList_some,qE,zLN] at this;omega
    have hat:L[(pA L n.p.key).length]? =some x:=by
     have:(pA L n.p.key++((jO L n.p.key).toList++pC L n.p.key))[(pA L n.p.key).length]? =some x:=by
      rw[List.getElem?_append_right (nC _),aKu,hg];rfl
     rwa [←aHj hs n.p.key] at this
    -- the copy's stage is set
    obtain⟨b',cap,cs,hv4,hF4,hb4,hle4,hcm4,hcs4,htk4⟩:∃b cap cs,v4= .slice (some ⟨b,0,none⟩) (L.map It.cells).length cap∧F4=[b]∧h4 b=some (.cells cs dE (0,0))∧(L.map It.cells).length≤cap∧cap≤rB∧cs.size=cap*5∧cs.toList.take ((L.map It.cells).length*5)=(L.map It.cells).flatten:=by
     rcases hO4.here with⟨_,h2,_⟩|h2
     ·exfalso;have:L=[]:=List.map_eq_nil_iff.1 h2;subst this;simp at hlt
     ·exact h2
    rw[iV] at hv4 hle4 htk4;have ix:dH PG (indexAt cV v4 (.int .i64 (pA L n.p.key).length))=some (.pointer (some ⟨b',0+(pA L n.p.key).length*5,none⟩)):=by
     rw[hv4];exact aGM cV.und dE.info dE.size (by omega) (by omega)
    have hbound:(pA L n.p.key).length*5+5≤cap*5:=by
     have:((pA L n.p.key).length+1)*5≤cap*5:=zLP 5 (by omega);omega
    simp only[ix,dE.f1,cE,reduceIte];refine iT bR.und rfl hb4 (by rw[hcs4];omega) rfl bR.info bR.size ?_;have u5:cQ [b'] h4 (h4.set b' (.cells (cs.setIfInBounds (0+(pA L n.p.key).length*5+4) (.int .i64 2)) dE (0,0))):=cQ.set (by simp);have hb5:(h4.set b' (.cells (cs.setIfInBounds (0+(pA L n.p.key).length*5+4) (.int .i64 2)) dE (0,0))) b'=some (.cells (cs.setIfInBounds (0+(pA L n.p.key).length*5+4) (.int .i64 2)) dE (0,0)):=dL;generalize h4.set b' (.cells (cs.setIfInBounds (0+(pA L n.p.key).length*5+4) (.int .i64 2)) dE (0,0))=h5 at *;have nab:a≠b':=by rintro rfl;exact na4 (by rw[hF4];simp)
    have ha5:=u5.get ha4 (by simpa using nab);have hO5:eM h5 dE 5 v4 ((aB5 L ⟨x.p,2⟩).map It.cells) [b']:=by
     have hk2:(⟨x.p,2⟩:It).key=n.p.key:=hx2;have hins:=aXh hs (i:=⟨x.p,2⟩) (x:=x) (by rw[hk2];exact hg);rw[hk2] at hins;have hlen:(aB5 L ⟨x.p,2⟩).length=L.length:=by
      rw[←hins];simp only[jM,nI,qE,pK];omega
     refine⟨It.rows _,.inr ⟨b',cap,_,by rw[hv4,iV,hlen],rfl,hb5,by rw[iV,hlen];exact hle4,hcm4,by simpa using hcs4,?_⟩⟩;rw[iV,hlen]
     -- the cells
     have e0:(L.map It.cells).flatten.set ((pA L n.p.key).length*5+4) (.int .i64 2)=((aB5 L ⟨x.p,2⟩).map It.cells).flatten:=by
      rw[←hins];exact aUs hlt hat 2
     rw[←e0,←htk4,Array.toList_setIfInBounds,fQ,List.take_set]
    have na5:a∉[b']:=by simpa using nab
    refine iT cV.und rfl ha5 (by simp) (by rw[hv4];rfl) cV.info cV.size ?_;have u7:cQ [a] h5 (h5.set a (.cells (#[v,.int .i64 room].setIfInBounds 0 v4) dQ (0,0))):=cQ.set (by simp);have ha7:(h5.set a (.cells (#[v,.int .i64 room].setIfInBounds 0 v4) dQ (0,0))) a=some (.cells #[v4,.int .i64 room] dQ (0,0)):=dL;generalize h5.set a (.cells (#[v,.int .i64 room].setIfInBounds 0 v4) dQ (0,0))=h7 at *;unfold lR oJ;have fb:h2 b'=none:=fresh4 b' (by rw[hF4];simp);have E5:dD h2 h5:=E4.fresh u5 (eK.one fb);refine fin eL eE (F':=[a,b']) ⟨⟨v4,[b'],ha7,hO5.upd u7 (λb hb=>by simp at hb;subst hb;simpa using Ne.symm nab),rfl,na5⟩,hs.ins _⟩ ?_ ?_
    ·exact cQ.then (dD.upd E5) u7 (λb hb=>by left;simp at hb;simp[hb])
    ·intro b hb;simp only[gU,lH,or_false] at hb;rcases hb with rfl|rfl
     ·left;simp
     ·right;exact fb
  ·have d1:(n.k==1)=false:=by simp;omega
   have d2:(n.k==2)=false:=by simp;omega
   have d3:((2:Int)<n.k)=True:=by apply eq_true;omega
   have n1:¬n.k=1:=by omega
   have n2:¬n.k=2:=by omega
   have eL:oG L room n=aAE L n.p.key:=by unfold oG;rw[if_neg hrt,if_neg n1,if_neg n2]
   have eE:qI L room n=0:=by unfold qI;rw[if_neg hrt,if_neg n1,if_neg n2]
   cases hg:jO L n.p.key with
   | none=>
    simp only[dA.f0,dA.f1,bR.load,c0,d1,d2,d3,zLv,cE,reduceIte];unfold lR oJ;rw[aN0 hg] at eL;exact fin eL eE H2 cQ.refl (λb hb=>.inl hb)
   | some x=>
    have hx15:∀X:Prop,X->X:=λ_ x=>x;simp only[dA.f0,dA.f1,bR.load,c0,d1,d2,d3,aKs,aKR,aKP,aDC,iG,aPT,aPg,aPF,aPp,aPt,aKj,aLZ,aOk,decide_true];exact aVY H2 hL hg λh' F' H' u f=>by
     unfold lR oJ;exact fin eL eE H' u f
def chI(c:Nat):Value:=.iface dF (pT c 0)
def mkI(c:Nat):dH PG (Instr.makeInterface dF (pT c 0))=some (chI c):=by kernel_rfl
def aWy{h:PH}{c:Nat}:cG PG h (do let p ←program;method (p.types.size+Made.depth) dF (pT c 0) "Log")=some (wY,pT c 0):=by kernel_rfl
def aRH{h:PH}{c:Nat}{args:Array Value}{R:cD}(H:aT PG wY (#[pT c 0]++args) h R):aQh PG (chI c) "Log" args h R:=by
 unfold aQh chI;have e:callMethod (.iface dF (pT c 0)) "Log" args=((do let p ←program;method (p.types.size+Made.depth) dF (pT c 0) "Log") >>= λx=>callFunc x.1 (#[x.2]++args)):=rfl;rw[e];exact iD aWy (aMN H)
def aYK{L:List It}{room:Int}{n:Nt}(h:qI L room n≠0):oG L room n=L:=by
 unfold qI at h;unfold oG;by_cases hr:n.right=false
 ·rw[if_pos hr]
 rw[if_neg hr] at h ⊢;by_cases h1:n.k=1
 ·rw[if_pos h1] at h ⊢;by_cases hg:(jO L n.p.key).isSome=true
  ·rw[if_pos hg] at h;exact absurd rfl h
  ·rw[if_neg hg] at h ⊢;unfold aBI at h;unfold vG;split at h
   ·rename_i hc;rw[if_pos hc]
   ·exact absurd rfl h
 ·rw[if_neg h1] at h ⊢;by_cases h2:n.k=2
  ·rw[if_pos h2] at h ⊢;by_cases hg:(jO L n.p.key).isSome=true
   ·rw[if_pos hg] at h;exact absurd rfl h
   ·rw[if_neg hg] at h;have:jO L n.p.key=none:=by cases hx:jO L n.p.key<;>simp_all
    rw[this];unfold aBI at h;unfold vG;split at h
    ·rename_i hc;simp only;rw[if_pos hc]
    ·exact absurd rfl h
  ·rw[if_neg h2] at h;exact absurd rfl h
def aQx{h:PH}{c:Nat}{s:Ch}{F:List Nat}(H:jB c s h F){q:Pl}(wq1:0≤q.h)(wq2:q.h<18446744073709551616)(wq3: -9223372036854775808≤q.i)(wq4:q.i<9223372036854775808){a:Nat}{L:List It}{room:Int}{G:List Nat}(T:yO h a L room G){most:Nat}(hm:most≤1000000)(hl:(mI s q (most:Int)).1.length≤1000000){kk:cD}
  (hk:∀h' v Fl,eM h' dA 5 v ((aDo s q most room L).1.map Nt.cells) Fl->eK h Fl->dD h h'->kk (.tuple #[v,(aDo s q most room L).2.v]) h'):aT PG aHh #[chI c,q.v,.int .i64 (most:Int),pT a 0] h kk:=by
 apply aGu.call;unfold aGu;intro r1 hr1
 try rw[cW]
 have u1:dD h (h.set r1 (.cells (Value.cells q.v) dJ)):=cQ.new hr1;have B1:Bx (h.set r1 (.cells (Value.cells q.v) dJ)) r1 q.cells:=Bx.new;generalize h.set r1 (.cells (Value.cells q.v) dJ)=h1 at *;intro r3 hr3
 try rw[cW]
 have u3:dD h1 (h1.set r3 (.cells (dV PG dJ) dJ)):=cQ.new hr3;have B3:Bx (h1.set r3 (.cells (dV PG dJ) dJ)) r3 (Pl.cells ⟨0,0⟩):=dJ.zbox;have C1:=B1.ext u3;generalize h1.set r3 (.cells (dV PG dJ) dJ)=h3 at *;have e3:=u1.trans u3;have k3:h r3=none:=u1.none hr3;simp only[C1.place,cE,reduceIte,cZ,Nat.reduceAdd];refine aRH ?_;refine aPn ((jB.good _ _).ext H e3) wq1 wq2 wq3 wq4 (by omega) (by omega) λh4 v Fl O f4 u4=>?_;simp only[cE,reduceIte,cZ,Nat.reduceAdd];intro r10 hr10
 try rw[cW]
 refine dJ.fill (vs:=(mI s q (most:Int)).2.cells) hr10 rfl (Pl.isC _) λh5 B10 u5=>?_;have e5:=(e3.trans u4).trans u5;refine aZE (T.ext e5) (O.ext u5).slR hl λh6 u6=>?_;have e6:=e5.trans u6;have B3k:=B3.known;have B3:=((B3.ext u4).ext u5).ext u6;have O6:=(O.ext u5).ext u6;have f6:eK h Fl:=λy hy=>e3.none (f4 y hy);have lv:dH PG (Builtin.len_ #[cU] bR #[v])=some (.int .i64 ((mI s q (most:Int)).1.length:Int)):=by
  have:=O.slR.len (t':=bR) cU.und;rw[iV] at this;exact this
 by_cases hc:mL room L (mI s q (most:Int)).1<(mI s q (most:Int)).1.length
 ·have g:((mL room L (mI s q (most:Int)).1:Int)<((mI s q (most:Int)).1.length:Int))=True:=eq_true (by omega);have en:aDo s q most room L=mI s q ((mL room L (mI s q (most:Int)).1:Nat):Int):=by unfold aDo;rw[if_pos hc]
  rw[en] at hk;simp only[lv,g,(((C1.ext u4).ext u5).ext u6).place,cE,reduceIte,cZ,Nat.reduceAdd];refine aRH ?_;refine aPn ((jB.good _ _).ext H e6) wq1 wq2 wq3 wq4 (by omega) (by omega) λh7 v2 Fl2 O2 f7 u7=>?_;simp only[cE,reduceIte,cZ,Nat.reduceAdd];refine dJ.put (vs:=(mI s q ((mL room L (mI s q (most:Int)).1:Nat):Int)).2.cells) (B3.ext u7) (o:=0) rfl (by show 0+2≤2;decide) (Pl.isC _) λh8 B8 u8=>?_;have B8:Bx h8 r3 (mI s q ((mL room L (mI s q (most:Int)).1:Nat):Int)).2.cells:=B8;have e8:dD h h8:=(e6.trans u7).fresh u8 (eK.one k3);simp only[B8.place,cE,reduceIte,cZ,Nat.reduceAdd];refine hk h8 v2 Fl2 (O2.upd u8 (λy hy hm=>?_)) (λy hy=>e6.none (f7 y hy)) e8;simp only[gB] at hm;exact B3.known (hm▸f7 y hy)
 ·have g:((mL room L (mI s q (most:Int)).1:Int)<((mI s q (most:Int)).1.length:Int))=False:=eq_false (by omega);have en:aDo s q most room L=mI s q (most:Int):=by unfold aDo;rw[if_neg hc]
  rw[en] at hk;simp only[lv,g,(B10.ext u6).place,cE,reduceIte,cZ,Nat.reduceAdd];refine dJ.put (vs:=(mI s q (most:Int)).2.cells) B3 (o:=0) rfl (by show 0+2≤2;decide) (Pl.isC _) λh8 B8 u8=>?_;have B8:Bx h8 r3 (mI s q (most:Int)).2.cells:=B8;have e8:dD h h8:=e6.fresh u8 (eK.one k3);simp only[B8.place,cE,reduceIte,cZ,Nat.reduceAdd];refine hk h8 v Fl (O6.upd u8 (λy hy hm=>?_)) f6 e8;simp only[gB] at hm;exact B3k (hm▸f4 y hy)
def aVC(room:Int)(L:List It)(n:Nt)(ns:List Nt):mL room L (n::ns)=if qI L room n=0 then mL room (oG L room n) ns+1 else 0:=rfl
def aZW{room:Int}:∀{L:List It} (ns:List Nt) (i:Nat),i≤mL room L ns->mL room L ns=i+mL room (aAD room L (ns.take i)) (ns.drop i):=fun {L} ns i hi=>by
 have h:=aNu (room:=room) (L:=L) ns i hi;omega
def aR2{room:Int}{L:List It}{ns:List Nt}{i:Nat}{n:Nt}(h:ns[i]? =some n):aAD room L (ns.take (i+1))=oG (aAD room L (ns.take i)) room n:=by
 rw[zLU,h,aRl];rfl
def aT1{h:PH}{a:Nat}{L:List It}{room:Int}{F:List Nat}(T:yO h a L room F){v:Value}{ns:List Nt}{G:List Nat}(O:eM h dA 5 v (ns.map Nt.cells) G)(hd:∀y∈G,y∉F)(hn:ns.length≤1000000){kk:cD}
  (hk:∀h' e,yO h' a (aAD room L (ns.take (mL room L ns))) room F->cQ F h h'->(mL room L ns=ns.length->e=0)->kk (.tuple #[.int .i64 (mL room L ns:Int),.int .i64 e]) h'):aT PG aIp #[pT a 0,v] h kk:=by
 apply aJD.call;unfold aJD;have lv:dH PG (Builtin.len_ #[cU] bR #[v])=some (.int .i64 (ns.length:Int)):=by
  have:=O.slR.len (t':=bR) cU.und;rw[iV] at this;exact this
 have fle:=aQy (room:=room) (L:=L) ns;simp only[lv,cE,reduceIte,cZ,Nat.reduceAdd];refine⟨λvs h'=>∃i:Nat,i≤mL room L ns∧vs=[pT a 0,v,v,.int .i64 ns.length,.int .i64 i]∧yO h' a (aAD room L (ns.take i)) room F∧cQ F h h',gQ ns.length 4,⟨0,by omega,rfl,T,cQ.refl⟩,?_⟩;rintro ρ h' ⟨i,hi,hvs,T',u⟩;simp only[iH,jA,lN,and_true] at hvs;obtain⟨e0,e1,e2,e3,e4⟩:=hvs;rw[e0,e1,e2,e3,e4];unfold aMO;have hat:=aZW (room:=room) (L:=L) ns i hi;by_cases hlt:i<ns.length
 ·have g:((i:Int)<(ns.length:Int))=True:=eq_true (by omega);have gi:=qN (i:=i) (by omega);obtain⟨n,hm⟩:∃m,ns[i]? =some m:=⟨_,lJ hlt⟩;obtain⟨y,y1,y2⟩:=(O.upd u hd).slR.nt (k:=.i64) hm;have hdrop:ns.drop i=n::ns.drop (i+1):=by
   rw[aHG hlt];have:ns[i]=n:=by rw[lJ hlt] at hm;simpa using hm
   rw[this]
  rw[hdrop,aVC] at hat;simp only[g,y1,y2,cE,reduceIte,cZ,Nat.reduceAdd];intro r hr
  try rw[cW]
  refine aUm hr n λh2 b2 _ u2=>?_;simp only[b2.nt,cE,reduceIte,cZ,Nat.reduceAdd];refine aRS (T'.ext u2) n λh3 T3 u3=>?_;have w3:cQ F h h3:=(u.trans u2.upd).trans u3;by_cases hz:qI (aAD room L (ns.take i)) room n=0
  ·rw[if_pos hz] at hat;have e6:(qI (aAD room L (ns.take i)) room n !=0)=false:=by simp[hz]
   simp only[kW,e6,gi,cE,reduceIte,cZ,Nat.reduceAdd];rw[←aR2 hm] at T3;exact⟨⟨i+1,by omega,rfl,T3,w3⟩,by simp[gQ,e4];omega⟩
  ·rw[if_neg hz] at hat;have e6:(qI (aAD room L (ns.take i)) room n !=0)=true:=by simp[hz]
   simp only[kW,e6,cE,reduceIte,cZ,Nat.reduceAdd];rw[aYK hz] at T3;have ei:mL room L ns=i:=by omega
   rw[ei] at hk;exact hk h3 _ T3 w3 (by omega)
 ·have g:((i:Int)<(ns.length:Int))=False:=eq_false (by omega);simp only[g,lv,cE,reduceIte,cZ,Nat.reduceAdd];have ei:mL room L ns=i:=by omega
  have en:i=ns.length:=by omega
  rw[ei] at hk;have:=hk h' 0 T' u (λ_=>rfl);rw[en] at this;exact this
def aPM{h:PH}{x y:Operand}{a:Nat}:cG PG h (jT .eql vI x y (pT a 0) (.pointer none))=some (.bool false):=aDA vI.und
def aTB{h:PH}{room:Int}(h1:1≤room)(h2:room≤40){kk:cD}
  (hk:∀h' a r F,yO h' a [] room F->eK h F->dD h h'->kk (.tuple #[pT a 0,pT r 0]) h'):aT PG aB6 #[.int .i64 room,.slice none 0 0] h kk:=by
 apply aBA.call;unfold aBA;refine aUM room (λhbad=>by omega) λ_ _ a h3 F3 H3 f3 u3=>?_;have z0:((0:Int) !=0)=false:=by decide
 have rb:dH PG (build dQ #[(1,.int .i64 room)])=some (.agg #[.slice none 0 0,.int .i64 room]):=by kernel_rfl
 have l0:dH PG (Builtin.len_ #[cU] bR #[.slice none 0 0])=some (.int .i64 0):=by kernel_rfl
 simp only[kW,z0,aPM,rb,cE,reduceIte,cZ,Nat.reduceAdd];intro r hr
 try rw[cW]
 have u4:dD h3 (h3.set r (.cells (Value.cells (.agg #[.slice none 0 0,.int .i64 room])) dQ)):=cQ.new hr;generalize h3.set r (.cells (Value.cells (.agg #[.slice none 0 0,.int .i64 room])) dQ)=h4 at *;refine⟨λvs h'=>vs=[.slice none 0 0,pT a 0,pT r 0,.int .i64 0]∧h'=h4,λ_ _=>0,⟨rfl,rfl⟩,?_⟩;rintro ρ h' ⟨hvs,rfl⟩;simp only[iH,jA,lN,and_true] at hvs;obtain⟨e0,e1,e2,e3⟩:=hvs;rw[e0,e1,e2,e3];unfold aFf;have g:((0:Int)<0)=False:=eq_false (by decide);simp only[l0,g,cE,reduceIte,cZ,Nat.reduceAdd];exact hk h' a r F3 (H3.ext u4) f3 (u3.trans u4)
def aVS{h:PH}{v:Value}{ns:List Nt}(hx:fZ h 5 v (ns.map Nt.cells))(hn:ns.length≤900)(hw:∀n∈ns,0≤n.p.s∧0≤n.p.t){kk:cD}
  (hk:∀h' v' G,eM h' dE 5 v' ((aAD ((ns.length+1:Nat):Int) [] ns).map It.cells) G->eK h G->dD h h'->kk v' h'):aT PG aDe #[v] h kk:=by
 apply aCN.call;unfold aCN;have lv:dH PG (Builtin.len_ #[cU] bR #[v])=some (.int .i64 (ns.length:Int)):=by
  have:=hx.len (t':=bR) cU.und;rw[iV] at this;exact this
 have el:IntKind.i64.wrap ((ns.length:Int)+1)=((ns.length+1:Nat):Int):=by rw[fH (by omega) (by omega)];omega
 have rb:dH PG (build dQ #[(1,.int .i64 (ns.length+1:Nat))])=some (.agg #[.slice none 0 0,.int .i64 (ns.length+1:Nat)]):=by kernel_rfl
 simp only[lv,el,rb,cE,reduceIte,cZ,Nat.reduceAdd];intro r hr
 try rw[cW]
 have u4:dD h (h.set r (.cells (Value.cells (.agg #[.slice none 0 0,.int .i64 (ns.length+1:Nat)])) dQ)):=cQ.new hr;have R4:RAt (h.set r (.cells (Value.cells (.agg #[.slice none 0 0,.int .i64 (ns.length+1:Nat)])) dQ)) r [] (ns.length+1:Nat) [r]:=⟨⟨.slice none 0 0,[],dL,eM.nil,rfl,by simp⟩,List.Pairwise.nil⟩;generalize h.set r (.cells (Value.cells (.agg #[.slice none 0 0,.int .i64 (ns.length+1:Nat)])) dQ)=h4 at *;refine⟨λvs h'=>∃(i:Nat) (G:List Nat),i≤ns.length∧vs=[v,pT r 0,.int .i64 (i:Int)]∧RAt h' r (aAD ((ns.length+1:Nat):Int) [] (ns.take i)) (ns.length+1:Nat) G∧eK h G∧dD h h',gQ ns.length 2,⟨0,[r],by omega,rfl,R4,eK.one hr,u4⟩,?_⟩;rintro ρ h' ⟨i,G,hi,hvs,HR,fG,w⟩;simp only[iH,jA,lN,and_true] at hvs;obtain⟨e0,e1,e2⟩:=hvs;rw[e0,e1,e2];unfold aHi;by_cases hlt:i<ns.length
 ·have g:((i:Int)<(ns.length:Int))=True:=eq_true (by omega);have gi:=qN (i:=i) (by omega);obtain⟨n,hm⟩:∃m,ns[i]? =some m:=⟨_,lJ hlt⟩;obtain⟨y,y1,y2⟩:=(hx.ext w).nt (k:=.i64) hm;obtain⟨w1,w2⟩:=hw n (tA hm);have hl:=aN1 (room:=((ns.length+1:Nat):Int)) (ns.take i) (List.Pairwise.nil:qF []) (by simp;omega);simp only[lv,g,y1,y2,cE,reduceIte,cZ,Nat.reduceAdd];refine aU5 HR (by omega) n w1 w2 λh3 F3 H3 u3 f3=>?_;rw[←aR2 hm] at H3;simp only[gi,cE,reduceIte,cZ,Nat.reduceAdd];exact⟨⟨i+1,F3,by omega,rfl,H3,fG.grow w f3,w.fresh u3 fG⟩,by simp[gQ,e2];omega⟩
 ·have g:((i:Int)<(ns.length:Int))=False:=eq_false (by omega);rw[lY (by omega)] at HR;obtain⟨v',G',ha,hO,rfl,hn'⟩:=HR.here;have lt:cG PG h' (loadAt cV (pT r 0))=some v':=by
   rw[cV.load];simp[dB,ha]
  simp only[lv,g,dQ.f0,lt,cE,reduceIte,cZ,Nat.reduceAdd];exact hk h' v' G' hO (λy hy=>fG y (by simp[hy])) w
def aWl{h:PH}{s0 s1:Nat}{v:Value}{l:List kD}(S:fZ h 9 v (l.map kD.cells)){k:cD}(hk:∀h' b,(b=true->s0≠0∧s1≠0∧l.length≤50∧∀x∈l,x.d.length≤2000)->dD h h'->k (.bool b) h'):aT PG aED #[vZ s0 s1,v] h k:=by
 apply aDX.call;unfold aDX;intro r1 hr1
 try rw[cW]
 have u1:dD h (h.set r1 (.cells (Value.cells (vZ s0 s1)) eW)):=cQ.new hr1;have B1:Bx (h.set r1 (.cells (Value.cells (vZ s0 s1)) eW)) r1 (u2c s0 s1):=Bx.new;generalize h.set r1 (.cells (Value.cells (vZ s0 s1)) eW)=h1 at *;have i0:dH PG (indexAt eW (pT r1 0) (.int .i64 0))=some (pT r1 0):=aPZ (i:=0) (by decide);have i1:dH PG (indexAt eW (pT r1 0) (.int .i64 1))=some (pT r1 1):=by have:=aPZ (r:=r1) (o:=0) (i:=1) (by decide);rw[fQ] at this;exact this
 have l0:cG PG h1 (loadAt cA (pT r1 0))=some (.int .u64 (s0:Int)):=by rw[cA.load,B1.cell];rfl
 have l1:cG PG h1 (loadAt cA (pT r1 1))=some (.int .u64 (s1:Int)):=by rw[cA.load,B1.cell];rfl
 have ll:=aPJ S;have no:k (.bool false) h1:=hk h1 false (λe=>by cases e) u1;by_cases z0:s0=0
 ·have q:((s0:Int)==0)=true:=by rw[z0];rfl
  simp only[i0,l0,iG,q,cE,reduceIte,cZ,Nat.reduceAdd];exact no
 have q0:((s0:Int)==0)=false:=by rw[beq_eq_false_iff_ne];omega
 by_cases z1:s1=0
 ·have q:((s1:Int)==0)=true:=by rw[z1];rfl
  simp only[i0,l0,i1,l1,iG,q0,q,cE,reduceIte,cZ,Nat.reduceAdd];exact no
 have q1:((s1:Int)==0)=false:=by rw[beq_eq_false_iff_ne];omega
 by_cases z2:50<l.length
 ·have g:((50:Int)<(l.length:Int))=True:=eq_true (by omega);simp only[i0,l0,i1,l1,iG,q0,q1,ll,g,cE,reduceIte,cZ,Nat.reduceAdd];exact no
 have g:((50:Int)<(l.length:Int))=False:=eq_false (by omega);simp only[i0,l0,i1,l1,iG,q0,q1,ll,g,cE,reduceIte,cZ,Nat.reduceAdd];refine⟨λvs h'=>∃i:Nat,i≤l.length∧vs=[v,.int .i64 (i:Int)]∧h'=h1∧∀x∈l.take i,x.d.length≤2000,gQ l.length 1,⟨0,by omega,rfl,rfl,by simp⟩,?_⟩;rintro ρ h' ⟨i,hi,hvs,rfl,hall⟩;simp only[iH,jA,lN,and_true] at hvs;obtain⟨v0,v1⟩:=hvs;unfold aHm;rw[v0,v1];by_cases hlt:i<l.length
 ·have g1:((i:Int)<(l.length:Int))=True:=eq_true (by omega);have gi:=qN (i:=i) (by omega);obtain⟨y,hx⟩:∃y,l[i]? =some y:=⟨_,lJ hlt⟩;obtain⟨b,o,a1,a2,a3,-⟩:=(S.ext u1).tac hx;have ld:dH PG (Builtin.len_ #[bT] bR #[.string (tx y.d)])=some (.int .i64 (y.d.length:Int)):=by rw[lS bT.und,iF]
  have lp:dH PG (Builtin.len_ #[bT] bR #[.string y.p.d])=some (.int .i64 (y.p.d.size:Int)):=lS bT.und;by_cases y1:2000<y.d.length
  ·have g2:((2000:Int)<(y.d.length:Int))=True:=eq_true (by omega);simp only[ll,g1,a1,cH.f3,bT.load,a2,ld,g2,cE,reduceIte,cZ,Nat.reduceAdd];exact no
  have g2:((2000:Int)<(y.d.length:Int))=False:=eq_false (by omega);by_cases y2:300<y.p.d.size
  ·have g3:((300:Int)<(y.p.d.size:Int))=True:=eq_true (by omega);simp only[ll,g1,a1,cH.f3,cH.f4,aR.f3,Nat.add_assoc,Nat.reduceAdd,bT.load,a2,a3,ld,lp,g2,g3,cE,reduceIte,cZ,Nat.reduceAdd];exact no
  have g3:((300:Int)<(y.p.d.size:Int))=False:=eq_false (by omega);simp only[ll,g1,a1,cH.f3,cH.f4,aR.f3,Nat.add_assoc,Nat.reduceAdd,bT.load,a2,a3,ld,lp,g2,g3,gi,cE,reduceIte,cZ,Nat.reduceAdd];refine⟨⟨i+1,by omega,rfl,by first|rfl|trivial,λz hz=>?_⟩,by simp[gQ,v1];omega⟩;rw[zLU,hx] at hz;rcases kB.1 hz with hz|hz
  ·exact hall z hz
  ·simp only[Option.toList_some,gB] at hz;subst hz;omega
 ·have g1:((i:Int)<(l.length:Int))=False:=eq_false (by omega);rw[lY (by omega)] at hall;simp only[ll,g1,cE,reduceIte,cZ,Nat.reduceAdd];exact hk h' true (λ_=>⟨z0,z1,by omega,hall⟩) u1
def ya:Ch:=Ch.new 0 5 1
def yb:Ch:=Ch.new 1 5 1
def yp:Pk:=kE ya [] 9
def ya1:Ch:=ya.sent yp
def y1:kD:=⟨0,0,9,[],default,false⟩
def y2:kD:=⟨5,0,0,[],default,false⟩
def aWP:yp.right=true:=by decide
def aZq:qR ya [] 9=0:=by
 have h1:decide (aJz ya.cl<((9:Nat):Int))=true:=by
  rw[show ya.cl=[] from rfl,aRB];decide
 have h2:(kE ya [] 9).right=true:=aWP;unfold qR rG;rw[if_neg (by decide),h1,h2];rfl
def aYi:aER (ya,yb) y1=(ya1,yb):=by
 unfold aER kK;rw[if_neg (show ¬y1.clean.id=1 by decide)];have:nP ya yb y1.clean=(ya1,(yp,0,0)):=by
  unfold nP;rw[if_pos (show y1.clean.kind=0 from rfl),show y1.clean.d=[] from rfl,show y1.clean.h=9 from rfl,if_pos aZq];rfl
 show((nP ya yb y1.clean).1,yb)=_;rw[this]
def b55:dH PG (build eW #[(0,(Value.int IntKind.u64 5)),(1,(Value.int IntKind.u64 5))])=some (vZ 5 5):=by kernel_rfl
def b11:dH PG (build eW #[(0,(Value.int IntKind.u64 1)),(1,(Value.int IntKind.u64 1))])=some (vZ 1 1):=by kernel_rfl
def bAw:dH PG (build cH #[(2,(Value.int IntKind.u64 9))])=some y1.v:=by kernel_rfl
def bAr:dH PG (build cH #[(0,(Value.int IntKind.i64 5))])=some y2.v:=by kernel_rfl
def za:Ch:=ya1.sent (kE ya1 [] 9)
def zb:Ch:=za.committed
def aZA:qR ya1 [] 9=0:=by
 have h1:decide (aJz ya1.cl<((9:Nat):Int))=true:=by
  rw[show ya1.cl=[] from rfl,aRB];decide
 have h2:(kE ya1 [] 9).right=true:=by decide
 unfold qR rG;rw[if_neg (by decide),h1,h2];rfl
def aYo:aER (ya1,yb) y1=(za,yb):=by
 unfold aER kK;rw[if_neg (show ¬y1.clean.id=1 by decide)];have:nP ya1 yb y1.clean=(za,(kE ya1 [] 9,0,0)):=by
  unfold nP;rw[if_pos (show y1.clean.kind=0 from rfl),show y1.clean.d=[] from rfl,show y1.clean.h=9 from rfl,if_pos aZA];rfl
 show((nP ya1 yb y1.clean).1,yb)=_;rw[this]
def aZf:aER (za,yb) y2=(zb,yb):=by
 unfold aER kK;rw[if_neg (show ¬y2.clean.id=1 by decide)];rfl
def bAU:aHE (ya,yb) [y1,y1,y2]=(zb,yb):=by
 show aER (aER (aER (ya,yb) y1) y1) y2=_;rw[aYi,aYo,aZf]
def aYm:aDo zb ⟨5,0⟩ 9 1 []=([⟨1,yp⟩],⟨6,1⟩):=by rfl
def bAH:(mI zb ⟨5,0⟩ 9).1.length=2:=by rfl
def aYb:zb.first=5:=by rfl
def aYt{h:PH}{d:Nat}(q q':Pl):cG PG h (Op.equalIn (d+1+1) dJ q.v q'.v)=some (decide (q=q')):=by
 unfold Pl.v;rw[aB9 dJ.und (by kernel_rfl) (λf=>match f.offset with|0=>q.h==q'.h|_=>q.i==q'.i)]
 ·congr 1;rw[zLm];obtain⟨a,b⟩:=q;obtain⟨a',b'⟩:=q';simp
 ·intro f hf;simp only[gU,lH,or_false] at hf;rcases hf with rfl|rfl
  ·exact⟨by decide,_,_,jX cA.und rfl rfl,jX cA.und rfl rfl,xL cA.und⟩
  ·exact⟨by decide,_,_,jX bR.und rfl rfl,jX bR.und rfl rfl,xL bR.und⟩
def bAB{h:PH}{x y:Operand}(q q':Pl):cG PG h (jT .eql dJ x y q.v q'.v)=some (.bool (decide (q=q'))):=aMm (by kernel_rfl) (aYt (d:=9998) q q')
def aXL{h:PH}{x y:Operand}{c:Nat}:cG PG h (jT .eql dF x y (pT c 0) (.pointer none))=some (.bool false):=aDA dF.und
def aVZ(x y z:kD):jV PG (buildSlice iY 3 #[(0,x.v),(1,y.v),(2,z.v)])=some (.cells (x.cells++y.cells++z.cells).toArray cH,λr=>pure (.slice (some ⟨r,0,none⟩) 3 3)):=by kernel_rfl
def aYs:dH PG (build dJ #[(0,(Value.int IntKind.u64 6)),(1,(Value.int IntKind.i64 1))])=some (Pl.v ⟨6,1⟩):=by kernel_rfl
def aTa{h:PH}(hK:oP h){k:cD}(hk:∀h',dD h h'->k (.bool true) h'):aT PG aC4 #[] h k:=by
 apply tW.call;unfold tW;simp only[b55,b11,bAw,bAr,aVZ,cE,reduceIte,cZ,Nat.reduceAdd];intro r5 hr5;refine fP ?_
 try rw[cW]
 have u1:dD h (h.set r5 (.cells (y1.cells++y1.cells++y2.cells).toArray cH)):=cQ.new hr5;have S1:fZ (h.set r5 (.cells (y1.cells++y1.cells++y2.cells).toArray cH)) 9 (.slice (some ⟨r5,0,none⟩) 3 3) ([y1,y1,y2].map kD.cells):=(eM.lit (n:=3) (kD.rows _) dL (by simp) (by decide) (by simp)).slR;generalize h.set r5 (.cells (y1.cells++y1.cells++y2.cells).toArray cH)=h1 at *;refine aP7 (a:=5) (b:=5) (s0:=1) (s1:=1) (hK.ext u1) (by decide) (by decide) (by decide) (by decide) (by decide) (by decide) S1 (λx hx=>?_) (by decide) (λx hx=>?_) λh2 c0 c1 m d0 d1 bk mm K A n F W f2 u2 M=>?_
 ·simp only[gU,lH,or_false] at hx;rcases hx with rfl|rfl|rfl<;>exact⟨by decide,⟨by decide,by decide,by decide,by decide⟩⟩
 ·simp only[gU,lH,or_false] at hx;rcases hx with rfl|rfl|rfl<;>decide
 have er:aHE (Ch.new 0 5 1,Ch.new 1 5 1) [y1,y1,y2]=(zb,yb):=bAU;rw[er] at W M;have e2:=u1.trans u2;simp only[cE,reduceIte,cZ,Nat.reduceAdd];intro r14 hr14
 try rw[cW]
 refine dR.fill (vs:=arC c0 c1) hr14 rfl (aPI c0 c1) λh3 B3 u3=>?_;refine aUM 1 (λhbad=>by omega) λ_ _ a h4 F4 T4 f4 u4=>?_;have e24:=u3.trans u4;obtain⟨Fa,HT,-,-⟩:=eP.left (DTw.good _ _ _ _ _ _ _ _ _ _) W;obtain⟨F0,F1,-,H0,-,-⟩:=HT;have H4:=(jB.good _ _).ext H0 e24;have j0:dH PG (indexAt dR (pT r14 0) (.int .i64 0))=some (pT r14 0):=aLk (i:=0) (by decide);have l0:∀{h':PH},dD h4 h'->cG PG h' (loadAt dF (pT r14 0))=some (pT c0 0):=λu=>by rw[dF.load,((B3.ext u4).ext u).cell];rfl
 have z0:((0:Int) !=0)=false:=by decide
 simp only[j0,l0 cQ.refl,aXL,aPM,kW,z0,mkI,eJ.f0,fQ,cE,reduceIte,cZ,Nat.reduceAdd];refine aMR H4 λh5 u5=>?_;refine⟨l0 u5,?_⟩;rw[aYb];have hl:(mI zb ⟨(5:Nat),0⟩ ((9:Nat):Int)).1.length≤1000000:=by
  have:(mI zb ⟨(5:Nat),0⟩ ((9:Nat):Int)).1.length=2:=bAH;omega
 refine aQx (most:=9) ((jB.good _ _).ext H4 u5) (q:=⟨(5:Nat),0⟩) (by decide) (by decide) (by decide) (by decide) (T4.ext u5) (by decide) hl λh6 v Fl O f6 u6=>?_;have zn:aDo zb ⟨(5:Nat),0⟩ 9 1 []=([⟨1,yp⟩],⟨6,1⟩):=aYm;rw[zn] at O ⊢;simp only[cE,reduceIte,cZ,Nat.reduceAdd];intro r54 hr54
 try rw[cW]
 refine dJ.fill (vs:=Pl.cells ⟨6,1⟩) hr54 rfl (Pl.isC _) λh7 B7 u7=>?_;have lv:dH PG (Builtin.len_ #[cU] bR #[v])=some (.int .i64 1):=by
  have:=O.slR.len (t':=bR) cU.und;exact this
 have q1:((1:Int)==1)=true:=rfl;have q2:((0:Int)==0)=true:=rfl;simp only[lv,iG,q1,B7.place,aYs,bAB,decide_true,cE,reduceIte,cZ,Nat.reduceAdd];refine aZP (((T4.ext u5).ext u6).ext u7) ?_;have q3:(((([]:List It).length:Nat):Int)==0)=true:=rfl;simp only[iG,q3,cE,reduceIte,cZ,Nat.reduceAdd];exact hk h7 ((((e2.trans e24).trans u5).trans u6).trans u7)
def ntP(p:Pk):Prop:=0≤p.s∧0≤p.t
def ntW(n:Nt):Prop:=ntP n.p
structure tD(s:Ch):Prop where
 blk:∀b∈s.blk,∀n∈b,ntW n
 nts:∀n∈s.nts,ntW n
def aY7(s:Ch)(d:Tx)(t:Nat):ntW ⟨1,kE s d t⟩:=⟨Int.natCast_nonneg _,Int.natCast_nonneg _⟩
def tD.add{s:Ch}(H:tD s){n:Nt}(h:ntW n):tD (s.add n):=⟨H.blk,λm hm=>by
 rcases kB.1 hm with hm|hm
 ·exact H.nts m hm
 ·simp only[gB] at hm;subst hm;exact h⟩
def tD.com{s:Ch}(H:tD s):tD s.committed:=by
 unfold Ch.committed;split
 ·refine⟨λb hb=>?_,λn hn=>by cases hn⟩;rcases kB.1 hb with hb|hb
  ·exact H.blk b hb
  ·simp only[gB] at hb;subst hb;exact H.nts
 ·exact H
def tD.new{id:Int}{n seq:Nat}:tD (Ch.new id n seq):=by
 refine⟨λb hb n hn=>?_,λn hn=>by cases hn⟩;simp only[Ch.new,gB] at hb;subst hb;cases hn
def tD.doP{c:Ch}(H:tD c)(o:Ch){x:kD}(w:ntP x.p):tD (nP c o x).1:=by
 unfold nP;by_cases k0:x.kind=0
 ·rw[if_pos k0];split
  ·rename_i e;exact tD.add (s:=(c.put _ _).next) ⟨H.blk,H.nts⟩ (aY7 _ _ _)
  ·exact H
 rw[if_neg k0];by_cases k1:x.kind=1
 ·rw[if_pos k1];split
  ·exact H
  ·exact⟨H.blk,H.nts⟩
 rw[if_neg k1];by_cases k2:x.kind=2
 ·rw[if_pos k2];split
  ·rename_i e;exact tD.add (s:=(c.put _ _).put _ _) ⟨H.blk,H.nts⟩ w
  ·exact H
 rw[if_neg k2];by_cases k3:x.kind=3
 ·rw[if_pos k3];split
  ·rename_i e;exact tD.add (s:=c.del _) ⟨H.blk,H.nts⟩ w
  ·exact H
 rw[if_neg k3];by_cases k4:x.kind=4
 ·rw[if_pos k4];split
  ·rename_i e;exact tD.add (s:=c.del _) ⟨H.blk,H.nts⟩ w
  ·exact H
 rw[if_neg k4];by_cases k5:x.kind=5
 ·rw[if_pos k5];exact H.com
 ·rw[if_neg k5];exact H
def tD.step{a b:Ch}(A:tD a)(B:tD b){x:kD}(w:ntP x.p):tD (kK a b x).1.1∧tD (kK a b x).1.2:=by
 unfold kK;split
 ·exact⟨A,B.doP a w⟩
 ·exact⟨A.doP b w,B⟩
def tD.run{l:List kD}:∀{s:Ch×Ch},tD s.1->tD s.2->(∀x∈l,x.wf)->tD (aHE s l).1∧tD (aHE s l).2:=by
 induction l with
 | nil=>exact λA B _=>⟨A,B⟩
 | cons x l ih=>
  intro s A B w;have h:=tD.step A B (x:=x.clean) (show ntP x.clean.p from⟨(w x (by simp)).p.1,(w x (by simp)).p.2.2.1⟩);exact ih h.1 h.2 λy hy=>w y (by simp[hy])
def aKp(a:Nat)(L:List It)(room:Int):nA:=λh F=>yO h a L room F
def aKp.good(a:Nat)(L:List It)(room:Int):mK (aKp a L room):=⟨λH=>yO.known H,λH u hK=>yO.upd H u hK⟩
def nsA(v:Value)(ns:List Nt):nA:=λh F=>eM h dA 5 v (ns.map Nt.cells) F
def nsA.good(v:Value)(ns:List Nt):mK (nsA v ns):=⟨λO=>O.known,λO u hK=>O.upd u hK⟩
def scW(a:Nat)(L:List It)(room:Int)(r:Nat)(q:Pl)(gv:Value)(got:List Nt)(v:Value)(all:List Nt)(re:Nat)(e:Pl):nA:=eP (aKp a L room) (eP (qL r q.cells) (eP (nsA gv got) (eP (nsA v all) (qL re e.cells))))
def scW.g3(v:Value)(all:List Nt)(re:Nat)(e:Pl):mK (eP (nsA v all) (qL re e.cells)):=(nsA.good _ _).star (qL.good _ _)
def scW.g2(gv:Value)(got:List Nt)(v:Value)(all:List Nt)(re:Nat)(e:Pl):mK (eP (nsA gv got) (eP (nsA v all) (qL re e.cells))):=(nsA.good _ _).star (scW.g3 _ _ _ _)
def scW.g1(r:Nat)(q:Pl)(gv:Value)(got:List Nt)(v:Value)(all:List Nt)(re:Nat)(e:Pl):mK (eP (qL r q.cells) (eP (nsA gv got) (eP (nsA v all) (qL re e.cells)))):=(qL.good _ _).star (scW.g2 _ _ _ _ _ _)
def scW.good(a:Nat)(L:List It)(room:Int)(r:Nat)(q:Pl)(gv:Value)(got:List Nt)(v:Value)(all:List Nt)(re:Nat)(e:Pl):mK (scW a L room r q gv got v all re e):=(aKp.good _ _ _).star (scW.g1 _ _ _ _ _ _ _ _)
section
variable{a:Nat}{L:List It}{room:Int}{r:Nat}{q:Pl}{gv:Value}{got:List Nt}{v:Value}{all:List Nt}{re:Nat}{e:Pl}{h:PH}{F:List Nat}(H:scW a L room r q gv got v all re e h F)
include H
def scW.fTab:zJ h F (aKp a L room) (λX=>eP X (eP (qL r q.cells) (eP (nsA gv got) (eP (nsA v all) (qL re e.cells))))):=eP.left (scW.g1 _ _ _ _ _ _ _ _) H
def scW.fPl:zJ h F (qL r q.cells) (λX=>eP (aKp a L room) (eP X (eP (nsA gv got) (eP (nsA v all) (qL re e.cells))))):=(eP.right (aKp.good _ _ _) H).comp λ_ H=>eP.left (scW.g2 _ _ _ _ _ _) H
def scW.fGot:zJ h F (nsA gv got) (λX=>eP (aKp a L room) (eP (qL r q.cells) (eP X (eP (nsA v all) (qL re e.cells))))):=(eP.right (aKp.good _ _ _) H).comp λ_ H=>(eP.right (qL.good _ _) H).comp λ_ H=>eP.left (scW.g3 _ _ _ _) H
def scW.here:(∃Ft,yO h a L room Ft∧∀b∈Ft,b∈F)∧Bx h r q.cells∧r∈F∧(∃Fg,eM h dA 5 gv (got.map Nt.cells) Fg∧∀b∈Fg,b∈F)∧(∃Fv,eM h dA 5 v (all.map Nt.cells) Fv∧∀b∈Fv,b∈F)∧Bx h re e.cells:=by
 obtain⟨Fa,Fb,rfl,hT,⟨Fc,Fd,rfl,⟨rfl,hB⟩,⟨Fe,Ff,rfl,hG,⟨Fg,Fh,rfl,hV,⟨rfl,hE⟩,-⟩,-⟩,-⟩,-⟩:=H;exact⟨⟨Fa,hT,λb hb=>by simp[hb]⟩,hB,by simp,⟨Fe,hG,λb hb=>by simp[hb]⟩,⟨Fg,hV,λb hb=>by simp[hb]⟩,hE⟩
end
def bAF{h:PH}{x y:Operand}(q:Pl):cG PG h (jT .neq dJ x y q.v q.v)=some (.bool false):=by
 have:=aMn (P:=PG) (h:=h) (t:=dJ) (x:=x) (y:=y) (by kernel_rfl) (aYt (d:=9998) q q);rw[decide_eq_true rfl] at this;exact this
def aTF{hb h:PH}{F:List Nat}(N:Now hb h F){c j r18:Nat}{s:Ch}{Fc:List Nat}(Hc:jB c s hb Fc)(lcj:∀h',dD hb h'->cG PG h' (loadAt dF (pT r18 j))=some (pT c 0))(hj:j<2)
  (ok:rY s) (ow:tD s) (hlog:s.blk.flatten.length≤40) {a r66 r54:Nat} {v:Value} {st:Int} (s1:0≤st) (s2:st<256)
  (W:scW a [] 40 r66 ⟨(s.first:Int),0⟩ (.slice none 0 0) [] v s.blk.flatten r54 (mI s ⟨(s.first:Int),0⟩ 1000).2 h F) {R:cD} {n22:gJ}
  (hk:∀h',dD hb h'->n22 [.int .u8 st,pT r18 0,.int .i64 ((j+1:Nat):Int)] h'):
  iL [3,9,11,12,14,15,16,17,18] (λn70 ρ h=>aAC R n22 n70 (ρ 3) (ρ 9) (ρ 11) (ρ 12) (ρ 14) (ρ 15) (ρ 16) (ρ 17) (ρ 18) h) [.int .u8 st,pT r18 0,.int .i64 (j:Int),pT a 0,v,pT r54 0,pT r66 0,.slice none 0 0,.int .i64 0] h:=by
 obtain⟨m,hm⟩:∃m:Nat,st.tmod 5+1=(m:Int):=⟨(st.tmod 5+1).toNat,by have:=Int.tmod_nonneg 5 s1;omega⟩;have hm5:1≤m∧m≤5:=by
  have h1:=Int.tmod_nonneg 5 s1;have h2:=Int.tmod_lt_of_pos st (show(0:Int)<5 by decide);omega
 obtain⟨_,_,_,_,_,_,P,_,cok⟩:=id Hc;have hst:=P.okst;have hpos:=cok.pos hst.h1;have hb1:=hst.h1;have hb4:=hst.h4;have hlen:=cok.len;have hne:s.blk≠[]:=by
  intro e;rw[e,zLN] at hlen;omega
 have rights:∀n∈s.blk.flatten,n.right=true:=λn hn=>by
  obtain⟨b,hb,hn⟩:=List.mem_flatten.1 hn;exact ok.blk b hb n hn
 have wfs:∀n∈s.blk.flatten,0≤n.p.s∧0≤n.p.t:=λn hn=>by
  obtain⟨b,hb,hn⟩:=List.mem_flatten.1 hn;exact ow.blk b hb n hn
 have hfit:mL 40 [] s.blk.flatten=s.blk.flatten.length:=aRE s.blk.flatten List.Pairwise.nil (by show(((0+s.blk.flatten.length:Nat)):Int)≤40;omega) rights;have endC:aJ1 s (mI s ⟨(s.first:Int),0⟩ ((1000:Nat):Int)).2 s.blk.flatten.length:=by
  have:=aGe.logC cok.first (aGe.first hne) 1000;rw[zLb,lY (by omega),fQ] at this;exact this
 refine⟨λvs h'=>∃(n p:Nat) (q:Pl) (gv:Value) (F':List Nat),n≤60∧vs=[.int .u8 st,pT r18 0,.int .i64 (j:Int),pT a 0,v,pT r54 0,pT r66 0,gv,.int .i64 (n:Int)]∧Now hb h' F'∧scW a (aGk 40 s.blk.flatten p) 40 r66 q gv (s.blk.flatten.take p) v s.blk.flatten r54 (mI s ⟨(s.first:Int),0⟩ 1000).2 h' F'∧aGe s q p∧p≤s.blk.flatten.length∧(n=0∨aJ1 s q p)∧(n≤p∨p=s.blk.flatten.length),gQ 60 8,⟨0,0,_,_,F,by omega,rfl,N,W,aGe.first hne,by omega,.inl rfl,.inl (nC _)⟩,?_⟩;rintro ρ h' ⟨n,p,q,gv,F',hn,hvs,N',W',A,hp,hC,hnp⟩;simp only[iH,jA,lN,and_true] at hvs;obtain⟨x0,x1,x2,x3,x4,x5,x6,x7,x8⟩:=hvs;unfold aAC;rw[x0,x1,x2,x3,x4,x5,x6,x7,x8];have Hc':=(jB.good _ _).ext Hc N'.ext;obtain⟨⟨Ft,T,tF⟩,B66,r66F,⟨Fg,Og,gF⟩,⟨Fv,Ov,vF⟩,B54⟩:=scW.here W';have gW:=λL q gv got=>scW.good a L 40 r66 q gv got v s.blk.flatten r54 (mI s ⟨(s.first:Int),0⟩ 1000).2;by_cases hlt:n<60
 ·have g:((n:Int)<60)=True:=eq_true (by omega);have gi:=qN (i:=n) (by omega);have w4:IntKind.i64.wrap (st.tmod 5)=st.tmod 5:=fH (by omega) (by omega);have w5:IntKind.i64.wrap (st.tmod 5+1)=(m:Int):=by rw[fH (by omega) (by omega)];exact hm
  have rm:∀{t:TypeId},dH PG (binOp .rem t (.int .u8 st) (.int .u8 5))=some (.int .u8 (st.tmod 5)):=aHO (by decide);have ix1:=aLk (r:=r18) (o:=0) hj;rw[fQ] at ix1;simp only[g,ix1,lcj h' N'.ext,mkI,B66.place,rm,aRG,w4,w5,cE,reduceIte,cZ,Nat.reduceAdd];obtain⟨d,ii,eq,hd1,hd2,hd3⟩:=id A.here;have hbi:ii≤s.blk.flatten.length:=by omega
  obtain⟨L1,-⟩:=A.log cok.first m;obtain⟨M1,M2,M3,M4⟩:=aXU cok.first A m 40 (aGk 40 s.blk.flatten p);have hfp:mL 40 (aGk 40 s.blk.flatten p) (s.blk.flatten.drop p)=s.blk.flatten.length-p:=by rw[aV9 (by omega),hfit]
  have hnN:aAS s p m 40 (aGk 40 s.blk.flatten p)=min m (s.blk.flatten.length-p):=by unfold aAS;rw[hfp]
  refine aQx Hc' (by rw[eq];simp only;omega) (by rw[eq];simp only;omega) (by rw[eq];simp only;omega) (by rw[eq];simp only;omega) T (most:=m) (by omega) (by rw[L1,nI];omega) λh2 mv Fm Om fm u2=>?_;generalize hN:aAS s p m 40 (aGk 40 s.blk.flatten p)=k at *;rw[M1] at Om M4;generalize aDo s q m 40 (aGk 40 s.blk.flatten p)=np at *;have N2:=N'.more u2;have W2:=(gW _ _ _ _).ext W' u2;simp only[cE,reduceIte,cZ,Nat.reduceAdd];intro r84 hr84
  try rw[cW]
  refine dJ.fill (vs:=np.2.cells) hr84 rfl (Pl.isC _) λh3 B84 u3=>?_;have N3:=N2.more u3;have W3:=(gW _ _ _ _).ext W2 u3;have k3:∀b∈F',h' b≠none:=(gW _ _ _ _).known W';have k84:r84∉F':=λhm=>(gW _ _ _ _).known W2 _ hm hr84;obtain⟨Ft3,T3,tF3,back3⟩:=scW.fTab W3;have dm:∀y∈Fm,y∉Ft3:=λy hy hm=>k3 y (tF3 y hm) (fm y hy);refine aT1 T3 (Om.ext u3) dm (by rw[M2];omega) λh4 e T4 u4 he=>?_;obtain rfl:e=0:=he (by rw[M4,M2]);rw[M4,lY (by rw[M2];exact nC _),aWm] at T4;have lm:dH PG (Builtin.len_ #[cU] bR #[mv])=some (.int .i64 (k:Int)):=by
   have:=Om.slR.len (t':=bR) cU.und;rw[iV,M2] at this;exact this
  have q0:((k:Int) !=(k:Int))=false:=by simp
  have z0:((0:Int) !=0)=false:=by decide
  obtain⟨F4,W4,st4⟩:=back3 (aKp a (aGk 40 s.blk.flatten (p+k)) 40) h4 Ft3 T4 ⟨u4,λb hb=>.inl hb⟩;have N4:=N3.step st4;have n84:r84∉F4:=λhm=>by
   rcases st4.grow _ hm with h1|h1
   ·exact k84 h1
   ·exact B84.known h1
  have B84':=B84.upd u4 (λhm=>k84 (tF3 _ hm));have Sm:=((Om.ext u3).upd u4 dm).slR;obtain⟨Fg4,Og4,gF4,back4⟩:=scW.fGot W4;simp only[M4,lm,kW,q0,z0,cE,reduceIte,cZ,Nat.reduceAdd];refine jK cU.und cU.und dA.info dA.size dA.bytes dA.zero rfl (by decide) Og4 Sm (Nt.isC _) (by simp only[iV,nI,pK];omega) ?_;intro v' h5 Fg5 O5 u5 k5 _;rw[←pO,aMC] at O5;obtain⟨F5,W5,st5⟩:=back4 (nsA v' (s.blk.flatten.take (p+k))) h5 Fg5 O5 ⟨u5,k5⟩;have N5:=N4.step st5;have B84'':=B84'.upd u5 (λhm=>n84 (gF4 _ hm));obtain⟨Fp5,⟨rfl,B66'⟩,pF5,back5⟩:=scW.fPl W5;simp only[B84''.place,cE,reduceIte,cZ,Nat.reduceAdd];refine dJ.put (vs:=np.2.cells) B66' (o:=0) rfl (by show 0+2≤2;decide) (Pl.isC _) λh6 B6 u6=>?_;obtain⟨F6,W6,st6⟩:=back5 (qL r66 np.2.cells) h6 [r66] ⟨rfl,B6⟩ ⟨u6,λb hb=>.inl hb⟩;simp only[gi,cE,reduceIte,cZ,Nat.reduceAdd];exact⟨⟨n+1,p+k,np.2,v',F6,by omega,rfl,N5.step st6,W6,M3.at,by omega,.inr M3,by omega⟩,by simp[gQ,x8];omega⟩
 ·have g:((n:Int)<60)=False:=eq_false (by omega);have ep:p=s.blk.flatten.length:=by omega
  have hC:aJ1 s q p:=by
   rcases hC with h0|h0
   ·omega
   ·exact h0
  rw[ep] at hC;have eq:q=(mI s ⟨(s.first:Int),0⟩ 1000).2:=hC.uniq endC;rw[ep,lY (nC _)] at Og;rw[←eq] at B54;have lw:∀L:List It,(L=aGk 40 s.blk.flatten p)->L=aAD ((s.blk.flatten.length+1:Nat):Int) [] s.blk.flatten:=λL e=>by
   rw[e,ep];unfold aGk;rw[lY (nC _)];exact aQp s.blk.flatten List.Pairwise.nil (by show(((0+s.blk.flatten.length:Nat)):Int)≤40;omega) (by show(((0+s.blk.flatten.length:Nat)):Int)≤_;omega)
  have hL:=lw _ rfl;have hl40:(aGk 40 s.blk.flatten p).length≤1000000:=by
   have:=aN1 (room:=40) (s.blk.flatten.take p) (List.Pairwise.nil:qF []) (by decide);have h2:aGk 40 s.blk.flatten p=aAD 40 [] (s.blk.flatten.take p):=rfl;rw[h2];omega
  have gj:=qN (i:=j) (by omega);simp only[g,cE,reduceIte,cZ,Nat.reduceAdd];refine aS9 Og.slR Ov.slR (by omega) ?_;simp only[B66.place,B54.place,bAF,cE,reduceIte,cZ,Nat.reduceAdd];refine aWx T hl40 λvi h2 Gi Oi fi u2=>?_;refine aVS (Ov.ext u2).slR (by omega) wfs λh3 vf Gf Of ff u3=>?_;rw[←hL] at Of;refine aXl (Oi.ext u3).slR Of.slR hl40 ?_;simp only[decide_true,gj,cE,reduceIte,cZ,Nat.reduceAdd];exact hk h3 ((N'.ext.trans u2).trans u3)
def aOo{hb:PH}{c j r18:Nat}{s:Ch}{Fc:List Nat}(Hc:jB c s hb Fc)(lcj:∀h',dD hb h'->cG PG h' (loadAt dF (pT r18 j))=some (pT c 0))(hj:j<2)
  (ok:rY s) (ow:tD s) (ht:s.tot≤50) {st:Int} (s1:0≤st) (s2:st<256) {R:cD} {n22:gJ}
  (hr:∀h',dD hb h'->R (.bool true) h')
  (hk:∀h',dD hb h'->n22 [.int .u8 st,pT r18 0,.int .i64 ((j+1:Nat):Int)] h'):
  sT R n22 (.int .u8 st) (pT r18 0) (.int .i64 (j:Int)) hb:=by
 unfold sT;have g:((j:Int)<2)=True:=eq_true (by omega);have ix1:=aLk (r:=r18) (o:=0) hj;rw[fQ] at ix1;obtain⟨_,_,_,_,_,_,P,_,cok⟩:=id Hc;have hst:=P.okst;have hpos:=cok.pos hst.h1;have hb1:=hst.h1;have hb4:=hst.h4;have hlen:=cok.len;have hne:s.blk≠[]:=by
  intro e;rw[e,zLN] at hlen;omega
 have htot:s.blk.flatten.length≤50:=by
  have:s.tot=s.blk.flatten.length+s.nts.length:=rfl;omega
 simp only[g,cE,reduceIte,cZ,Nat.reduceAdd];refine aTB (by decide) (by decide) λh2 a rr F2 T2 f2 u2=>?_;simp only[ix1,lcj h2 u2,aXL,aPM,eJ.f0,fQ,cE,reduceIte,cZ,Nat.reduceAdd];refine aMR ((jB.good _ _).ext Hc u2) λh3 u3=>?_;have e3:=u2.trans u3;refine⟨lcj h3 e3,?_⟩;refine aPn ((jB.good _ _).ext Hc e3) (q:=⟨(s.first:Int),0⟩) (most:=1000) (by show(0:Int)≤(s.first:Int);omega) (by show(s.first:Int)<_;omega) (by show _≤(0:Int);decide) (by show(0:Int)<_;decide) (by decide) (by decide) λh4 v Fv Ov fv u4=>?_;have hall:(mI s ⟨(s.first:Int),0⟩ 1000).1=s.blk.flatten:=by
  have:=(aGe.log cok.first (aGe.first hne) 1000).1;rw[zLb,lY (by omega)] at this;exact this
 rw[hall] at Ov;have e4:=e3.trans u4;simp only[cE,reduceIte,cZ,Nat.reduceAdd];intro r54 hr54
 try rw[cW]
 refine dJ.fill (vs:=(mI s ⟨(s.first:Int),0⟩ 1000).2.cells) hr54 rfl (Pl.isC _) λh5 B54 u5=>?_;have e5:=e4.trans u5;have lv:dH PG (Builtin.len_ #[cU] bR #[v])=some (.int .i64 (s.blk.flatten.length:Int)):=by
  have:=Ov.slR.len (t':=bR) cU.und;rw[iV] at this;exact this
 by_cases h40:40<s.blk.flatten.length
 ·have g2:((40:Int)<(s.blk.flatten.length:Int))=True:=eq_true (by omega);simp only[lv,g2,cE,reduceIte,cZ,Nat.reduceAdd];exact hr h5 e5
 have g2:((40:Int)<(s.blk.flatten.length:Int))=False:=eq_false (by omega);simp only[lv,g2,lcj h5 e5,eJ.f0,fQ,cE,reduceIte,cZ,Nat.reduceAdd];refine aMR ((jB.good _ _).ext Hc e5) λh6 u6=>?_;have e6:=e5.trans u6;intro r66 hr66
 try rw[cW]
 refine dJ.fill (vs:=Pl.cells ⟨(s.first:Int),0⟩) hr66 rfl (Pl.isC _) λh7 B66 u7=>?_;have e7:=e6.trans u7;have T7:yO h7 a [] 40 F2:=T2.ext (((((u3.trans u4).trans u5).trans u6)).trans u7);have O7:=Ov.ext ((u5.trans u6).trans u7);have k2:=T2.known;have kv:=Ov.known;have n66:h6 r66=none:=hr66;have d1:∀b∈F2,b∉Fv:=λb hb1 hb2=>(T2.ext u3).known b hb1 (fv b hb2);have d2:∀b∈F2,b≠r54:=λb hb1 e=>((T2.ext u3).ext u4).known b hb1 (e▸hr54);have d3:∀b∈F2,b≠r66:=λb hb1 e=>((((T2.ext u3).ext u4).ext u5).ext u6).known b hb1 (e▸hr66);have d4:∀b∈Fv,b≠r54:=λb hb1 e=>kv b hb1 (e▸hr54);have d5:∀b∈Fv,b≠r66:=λb hb1 e=>((Ov.ext u5).ext u6).known b hb1 (e▸hr66);have d6:r54≠r66:=λe=>(B54.ext u6).known (e▸hr66);have W7:scW a [] 40 r66 ⟨(s.first:Int),0⟩ (.slice none 0 0) [] v s.blk.flatten r54 (mI s ⟨(s.first:Int),0⟩ 1000).2 h7 (F2++([r66]++([]++(Fv++[r54])))):=by
  refine⟨F2,_,rfl,T7,⟨[r66],_,rfl,⟨rfl,B66⟩,⟨[],_,rfl,eM.nil,⟨Fv,[r54],rfl,O7,⟨rfl,(B54.ext u6).ext u7⟩,?_⟩,?_⟩,?_⟩,?_⟩
  ·intro b hb hm;simp only[gB] at hm;exact d4 b hb hm
  ·intro b hb;cases hb
  ·intro b hb hm;simp only[gB] at hb;subst hb;simp only[sK,kB,gB] at hm;rcases hm with hm|hm
   ·exact d5 _ hm rfl
   ·exact d6 hm.symm
  ·intro b hb hm;simp only[sK,kB,gB] at hm;rcases hm with hm|hm|hm
   ·exact d3 b hb hm
   ·exact d1 b hb hm
   ·exact d2 b hb hm
 have N7:Now hb h7 (F2++([r66]++([]++(Fv++[r54])))):=⟨e7,λy hy=>by
  simp only[sK,kB,gB] at hy;rcases hy with hy|rfl|hy|rfl
  ·exact f2 y hy
  ·exact e6.none hr66
  ·exact e3.none (fv y hy)
  ·exact e4.none hr54⟩
 exact aTF N7 Hc lcj hj ok ow (by omega) s1 s2 W7 hk
def aQo{h:PH}(hK:oP h){a b s0 s1:Nat}(ha:a<18446744073709551616)(hb:b<18446744073709551616)(hs0:s0<18446744073709551616)(hs1:s1<18446744073709551616){v:Value}{l:List kD}(S:fZ h 9 v (l.map kD.cells))(w:∀x∈l,x.wf){st:Int}(t1:0≤st)(t2:st<256){k:cD}(hk:∀h',dD h h'->k (.bool true) h'):
  aT PG aAU #[vZ a b,vZ s0 s1,v,.int .u8 st] h k:=by
 apply pV.call;unfold pV;intro r1 hr1
 try rw[cW]
 have u1:dD h (h.set r1 (.cells (Value.cells (vZ a b)) eW)):=cQ.new hr1;have B1:Bx (h.set r1 (.cells (Value.cells (vZ a b)) eW)) r1 (u2c a b):=Bx.new;generalize h.set r1 (.cells (Value.cells (vZ a b)) eW)=h1 at *;intro r3 hr3
 try rw[cW]
 have u3:dD h1 (h1.set r3 (.cells (Value.cells (vZ s0 s1)) eW)):=cQ.new hr3;have B3:Bx (h1.set r3 (.cells (Value.cells (vZ s0 s1)) eW)) r3 (u2c s0 s1):=Bx.new;have C1:=B1.ext u3;generalize h1.set r3 (.cells (Value.cells (vZ s0 s1)) eW)=h3 at *;have e3:=u1.trans u3;have la:∀{h'':PH},dD h3 h''->cG PG h'' (loadAt eW (pT r1 0))=some (vZ a b):=λv=>eW.agg (C1.ext v) (by show 0+2≤2;decide);have ls:∀{h'':PH},dD h3 h''->cG PG h'' (loadAt eW (pT r3 0))=some (vZ s0 s1):=λv=>eW.agg (B3.ext v) (by show 0+2≤2;decide);refine aTa (hK.ext e3) λh4 u4=>?_;simp only[ls u4,cE,reduceIte,cZ,Nat.reduceAdd];refine aWl (S.ext (e3.trans u4)) λh5 bb hbb u5=>?_;have e35:=u4.trans u5;have e5:=e3.trans e35;cases bb with
 | false=>
  simp only[cE,reduceIte,cZ,Nat.reduceAdd];exact hk h5 e5
 | true=>
  obtain⟨z0,z1,hl,hdat⟩:=hbb rfl;simp only[la e35,ls e35,cE,reduceIte,cZ,Nat.reduceAdd];refine aP7 (hK.ext e5) ha hb hs0 hs1 z0 z1 (S.ext e5) w hl hdat λh6 c0 c1 m d0 d1 bk mm K A nn F W f6 u6 M=>?_;have hw:=tD.run (l:=l) (s:=(Ch.new 0 a s0,Ch.new 1 b s1)) tD.new tD.new w;generalize hs:aHE (Ch.new 0 a s0,Ch.new 1 b s1) l=s at *;simp only[cE,reduceIte,cZ,Nat.reduceAdd];intro r18 hr18
  try rw[cW]
  refine dR.fill (vs:=arC c0 c1) hr18 rfl (aPI c0 c1) λh7 B7 u7=>?_;have e7:=(e5.trans u6).trans u7;obtain⟨Fa,HT,-,-⟩:=eP.left (DTw.good _ _ _ _ _ _ _ _ _ _) W;obtain⟨F0,F1,-,H0,H1,-⟩:=HT;refine⟨λvs h'=>∃j:Nat,j≤2∧vs=[.int .u8 st,pT r18 0,.int .i64 (j:Int)]∧dD h7 h',gQ 2 2,⟨0,by omega,rfl,cQ.refl⟩,?_⟩;rintro ρ h' ⟨j,hj,hvs,u⟩;simp only[iH,jA,lN,and_true] at hvs;obtain⟨x0,x1,x2⟩:=hvs;rw[x0,x1,x2];by_cases hlt:j<2
  ·have lcj:∀h'',dD h' h''->cG PG h'' (loadAt dF (pT r18 j))=some (pT (aIo c0 c1 j) 0):=λh'' v=>by rw[dF.load,((B7.ext u).ext v).cell,aRi c0 c1 hlt]
   have fin:∀h'',dD h' h''->(∃j':Nat,j'≤2∧([.int .u8 st,pT r18 0,.int .i64 ((j+1:Nat):Int)]:List Value)=[.int .u8 st,pT r18 0,.int .i64 (j':Int)]∧dD h7 h'')∧gQ 2 2 [.int .u8 st,pT r18 0,.int .i64 ((j+1:Nat):Int)] h''<gQ 2 2 ([3,9,11].map ρ) h':=λh'' v=>⟨⟨j+1,by omega,rfl,u.trans v⟩,by simp[gQ,x2];omega⟩;have hjj:j=0∨j=1:=by omega
   rcases hjj with rfl|rfl
   ·exact aOo (((jB.good _ _).ext H0 u7 |> λH=>(jB.good _ _).ext H u)) lcj hlt M.o0 hw.1 (by have:=M.t0;omega) t1 t2 (λh'' v=>hk h'' ((e7.trans u).trans v)) fin
   ·exact aOo (((jB.good _ _).ext H1 u7 |> λH=>(jB.good _ _).ext H u)) lcj hlt M.o1 hw.2 (by have:=M.t1;omega) t1 t2 (λh'' v=>hk h'' ((e7.trans u).trans v)) fin
  ·unfold sT;have g:((j:Int)<2)=False:=eq_false (by omega);simp only[g,cE,reduceIte,cZ,Nat.reduceAdd];exact hk h' (e7.trans u)
end
section
open Go
def bAg{n:Int}(h:(Lit.int .u8 n).wf=true):0≤n∧n<256:=by
 simp[Lit.wf,IntKind.min,IntKind.max,IntKind.signed,IntKind.bits] at h;omega
def aQb{h:PH}(hK:oP h){v:Value}{rows:List (List Value)}(S:fZ h 9 v rows)(st:Int){a b s0 s1:Nat}(ha:a<18446744073709551616)(hb:b<18446744073709551616)(hs0:s0<18446744073709551616)(hs1:s1<18446744073709551616)(e:∃l:List kD,rows=l.map kD.cells∧∀x∈l,x.wf)(wst:(Lit.int .u8 st).wf=true){k:cD}(hk:∀h',dD h h'->k (.bool true) h'):
  aT PG aAU #[vZ a b,vZ s0 s1,v,.int .u8 st] h k:=by
 obtain⟨l,rfl,w⟩:=e;obtain⟨t1,t2⟩:=bAg wst;exact aQo hK ha hb hs0 hs1 S w t1 t2 hk
end
end Go.Proofs.YtppgkeodaejgcaaGreatDoor
namespace Go.Proofs.YtppgkeodaejgcaaGreatDoor.scanWhole
open Go Go.ChangeShapes Go.WideShapes Go.ChangeAt Go.WideMaps Go.WideElems Go.RowKit
theorem own:ownKnob Tryz.prog.godebug=none:=by kernel_rfl
theorem lifted(os:Os)(started:os.Started)(H:Type)(enc:TypeId×Value->H):
  ReturnsInHanded {} Tryz.checked os 6 .any (λw args=>(Rows.scanWholeSpec.pre enc Tryz.prog Tryz.f6 [] false w args∧laidMetH Tryz.prog aPD w)∧sizedMet enc Tryz.prog Tryz.f6 (OpenSpec.ofChange Rows.scanWholeSpec) false w args)
   (Rows.scanWholeSpec.post enc Tryz.prog Tryz.f6 false true false false):=by
 refine returnsInHanded_of_change_and (C:=Tryz.checked) (X:=λw _=>laidMetH Tryz.prog aPD w) (λ_ _ _ hh h=>h.of_heap hh) own started (by kernel_rfl) Tryz.func6
  (ChangeSpec.witness_shaped (enc:=enc) (C:=Tryz.checked) (os:=os) (X:=λw _=>laidMetH Tryz.prog aPD w) false (World.doorLaid Tryz.prog 400 os) #[.agg #[.int .u64 0,.int .u64 0],.agg #[.int .u64 0,.int .u64 0],.slice none 0 0,.int .u8 0] 8 rfl (World.shaped_of_RefB (by kernel_rfl) (by kernel_rfl)) (by kernel_rfl) (by kernel_rfl) (by kernel_rfl) (aWD os _)) ?_
 intro W base args ds gs before hval0 hW _ _ hL _;have hval:∀(j:Nat) t v,Tryz.f6.params[j]? =some t->args[j]? =some v->Value.okWide Tryz.prog W .any base t v:=hval0;have hW':=hW;obtain⟨p,q,hA0,hV,rfl,hfz,hnd⟩:=hW;have hA:DataW.TrodAll enc Tryz.prog W 0 (λ_=>true) true Tryz.f6.params.toList args.toList ds p:=hA0;rw[Tryz.params6] at hA hval;obtain⟨v0,vs0,d0,ds0,p0,q0,hargs,rfl,rfl,h0,r0⟩:=trodAll_cons hA;obtain⟨v1,vs1,d1,ds1,p1,q1,rfl,rfl,rfl,h1,r1⟩:=trodAll_cons r0;obtain⟨v2,vs2,d2,ds2,p2,q2,rfl,rfl,rfl,h2,r2⟩:=trodAll_cons r1;obtain⟨v3,vs3,d3,ds3,p3,q3,rfl,rfl,rfl,h3,r3⟩:=trodAll_cons r2;obtain⟨rfl,rfl,rfl⟩:=trodAll_nil r3;obtain rfl:args= #[v0,v1,v2,v3]:=by cases args;simp_all
 obtain⟨rfl,rfl⟩:=trodVars_none hV;obtain⟨x0,y0,rfl,m0,n0⟩:=aSQ (hval 0 23 v0 rfl rfl) h0;obtain⟨x1,y1,rfl,m1,n1⟩:=aSQ (hval 1 23 v1 rfl rfl) h1;obtain⟨rows2,s2,o2⟩:=aX3 iY.und (by rw[cH.cells];decide) (hval 2 _ v2 rfl rfl) h2;rw[cH.cells] at s2;have e2:=kD.rds o2;obtain⟨a3,rfl,rfl,rfl,w3⟩:=open_int Tryz.underlying5 (hval 3 5 v3 rfl rfl) h3;refine(aTC (aQb (kOf hL) s2 a3 m0 n0 m1 n1 e2 w3 λh' hx=>⟨rfl,hx⟩)).mono λe W' ⟨he,hk⟩=>?_;subst he;exact⟨_,rfl,aRm aYp aY1 (by rw[Tryz.params6];decide +kernel) Tryz.underlying4 (by kernel_rfl) rfl hW' hk rfl rfl rfl⟩
theorem j0:(Rows.scanWholeRow.wf (OpenSpec.ofChange Rows.scanWholeSpec))=true:=by kernel_rfl
theorem j1:(laidOutB Tryz.pinned.checked.prog)=true:=by kernel_rfl
theorem j2:(mapsRowed Tryz.pinned.checked.prog)=true:=by kernel_rfl
theorem j3:(Tryz.f6.params.all (Tryz.pinned.checked.prog.readableRec ·))=true:=by kernel_rfl
theorem j4:(namedTie Tryz.pinned.checked.prog Rows.scanWholeRow.named Rows.scanWholeSpec.vars)=true:=by kernel_rfl
theorem j5:((Rows.scanWholeRow.stops==[]))=true:=by kernel_rfl
theorem j6:((Tryz.pinned.checked.prog.stops==[]))=true:=by kernel_rfl
theorem j7:((Rows.scanWholeRow.knobs==[]))=true:=by kernel_rfl
theorem j8:((Tryz.pinned.checked.prog.stopKnobs==[]))=true:=by kernel_rfl
theorem j9:((Rows.scanWholeRow.inPlace==Tryz.pinned.checked.prog.inPlace 6))=true:=by kernel_rfl
theorem j10:((Rows.scanWholeRow.unfollowed==Tryz.pinned.checked.prog.unfollowed 6))=true:=by kernel_rfl
theorem j11:((Rows.scanWholeRow.recurses==Tryz.pinned.checked.prog.recurses 6))=true:=by kernel_rfl
theorem j12:((Rows.scanWholeRow.named==Tryz.pinned.checked.prog.varsNamed 6))=true:=by kernel_rfl
theorem j13:((Rows.scanWholeRow.maps==(Tryz.f6.params.toList++Rows.scanWholeSpec.plain.varTypes Tryz.pinned.checked.prog).any (Tryz.pinned.checked.prog.mapsRec ·)))=true:=by kernel_rfl
theorem j14:((Rows.scanWholeRow.ifaces==(Tryz.f6.params.toList++Rows.scanWholeSpec.plain.varTypes Tryz.pinned.checked.prog).any (Tryz.pinned.checked.prog.ifacesRec ·)))=true:=by kernel_rfl
theorem j15:((Rows.scanWholeRow.mapsOut==Tryz.pinned.checked.prog.mapsAmong Tryz.f6.resultTypes.toList))=true:=by kernel_rfl
theorem j16:((Rows.scanWholeRow.loops==(Tryz.f6.params.toList++Rows.scanWholeSpec.plain.varTypes Tryz.pinned.checked.prog).any (Tryz.pinned.checked.prog.loopsFrom ·)))=true:=by kernel_rfl
theorem j17:((Rows.scanWholeRow.wideKeys==(Tryz.f6.params.toList++Rows.scanWholeSpec.plain.varTypes Tryz.pinned.checked.prog++Tryz.f6.resultTypes.toList).any (Tryz.pinned.checked.prog.wideKeysFrom ·)))=true:=by kernel_rfl
theorem j18:(Rows.scanWholeSpec.vars.all (Tryz.pinned.checked.prog.varReadable ·))=true:=by kernel_rfl
theorem j19:(Tryz.f6.resultTypes.all (λt=>Tryz.pinned.checked.prog.readableRec t&&decide (t<Tryz.pinned.checked.prog.types.size)))=true:=by kernel_rfl
theorem j20:((Rows.scanWholeRow.ifacesOut==Tryz.f6.resultTypes.toList.any (Tryz.pinned.checked.prog.ifacesRec ·)))=true:=by kernel_rfl
theorem j21:((Rows.scanWholeRow.loopsOut==Tryz.f6.resultTypes.toList.any (Tryz.pinned.checked.prog.loopsFrom ·)))=true:=by kernel_rfl
theorem j22:((Rows.scanWholeRow.plainKeys==Tryz.pinned.checked.prog.plainKeys))=true:=by kernel_rfl
theorem j23:(Rows.scanWholeRow.shortTexts.isNone)=true:=by kernel_rfl
theorem j24:(Tryz.pinned.checked.prog.stopsHeard)=true:=by kernel_rfl
theorem j25:(Tryz.pinned.checked.prog.mayEnter)=true:=by kernel_rfl
theorem j26:((Rows.scanWholeRow.lifted==Tryz.pinned.checked.prog.liftsFinal))=true:=by kernel_rfl
theorem j27:((Tryz.pinned.checked.prog.make==some Rows.scanWholeRow.make))=true:=by kernel_rfl
theorem j28:((Rows.scanWholeRow.kinds==(if Rows.scanWholeRow.domain.isEmpty then [] else Tryz.f6.params.toList.map λt=>match Tryz.pinned.checked.prog.underlying t with|some (.int k)=>some k|_=>none)))=true:=by kernel_rfl
theorem j29:((Rows.scanWholeRow.pinned==Rows.scanWholeRow.pinnedBy))=true:=by kernel_rfl
theorem j30:((Rows.scanWholeRow.veiled==(Tryz.f6.params.toList++Rows.scanWholeSpec.plain.varTypes Tryz.pinned.checked.prog++Tryz.f6.resultTypes.toList).any (Tryz.pinned.checked.prog.veiledRec ·)))=true:=by kernel_rfl
theorem j31:(Rows.scanWholeRow.veiledFits Tryz.pinned.checked.prog Tryz.f6.params.toList (Tryz.f6.params.toList++Rows.scanWholeSpec.plain.varTypes Tryz.pinned.checked.prog++Tryz.f6.resultTypes.toList))=true:=by kernel_rfl
theorem closed:joinedFacts Tryz.pinned.checked.prog 6 Tryz.f6 Rows.scanWholeSpec Rows.scanWholeRow=true:=by
 unfold joinedFacts;simp only[yH];exact⟨⟨⟨⟨⟨⟨⟨⟨⟨⟨⟨⟨⟨⟨⟨⟨⟨⟨⟨⟨⟨⟨⟨⟨⟨⟨⟨⟨⟨⟨⟨j0,j1⟩,j2⟩,j3⟩,j4⟩,j5⟩,j6⟩,j7⟩,j8⟩,j9⟩,j10⟩,j11⟩,j12⟩,j13⟩,j14⟩,j15⟩,j16⟩,j17⟩,j18⟩,j19⟩,j20⟩,j21⟩,j22⟩,j23⟩,j24⟩,j25⟩,j26⟩,j27⟩,j28⟩,j29⟩,j30⟩,j31⟩
theorem over:Rows.scanWholeRow.holds Tryz.pinned (OpenSpec.ofChange Rows.scanWholeSpec):=
 OpenClaim.holds_of_wide 6 Tryz.f6 rfl rfl rfl rfl rfl rfl rfl ⟨rfl,rfl,rfl,rfl,rfl⟩ rfl rfl rfl rfl rfl (by kernel_rfl) Tryz.func6 closed
  (of_decide_eq_true (by kernel_rfl)) (by unfold Func.isWrapper;first|(rw[if_pos (by decide +kernel)];kernel_rfl)|(rw[if_neg (by decide +kernel)];exact⟨rfl,rfl⟩))
  (λos started H enc _=>lifted os started H enc)
theorem proved:Rows.ScanWholeCardSaid:=
 Claim7.holds_tied_plain_at .later [] [.data] true (true,"12e170d1944b94b951b0328fcf00c140d74f7b04ee2d5a4f0f8bea72198918bd") true
  over (λ_ h=>by cases h) (by kernel_rfl) (λ_ h=>by cases h) scanWhole_row_tie rfl ⟨rfl,rfl⟩ (by kernel_rfl) rfl
  (λf fn hf hfn=>by
   obtain rfl:f=6:=aLd ((show Tryz.prog.funcNamed Rows.scanWholeRow.func=some 6 by kernel_rfl).symm.trans hf) |>.symm;obtain rfl:fn=Tryz.f6:=(aLd (Tryz.func6.symm.trans hfn)).symm;exact⟨by kernel_rfl,λj t ht=>by
    have hall:(Tryz.f6.params.toList.all λu=>!Tryz.prog.wantsStandIn u)=true:=by kernel_rfl
    have hm:t∈Tryz.f6.params.toList:=by simpa using Array.mem_of_getElem? ht
    exact(show Tryz.prog.wantsStandIn t=false by simpa using aE6.1 hall t hm)⟩)
  (by kernel_rfl)
#print axioms proved
end Go.Proofs.YtppgkeodaejgcaaGreatDoor.scanWhole
