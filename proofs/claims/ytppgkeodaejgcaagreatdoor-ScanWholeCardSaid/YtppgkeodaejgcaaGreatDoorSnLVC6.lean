/- The texts of this claim, put together. -/
import Derived.Test.YtppgkeodaejgcaaGreatDoorSnLVC5
import Derived.Lib.UnsafeStr
set_option linter.all false
set_option maxRecDepth 100000
open Go.Instr (loadAt fieldAt indexAt extract buildSlice build)
namespace Go.Proofs.YtppgkeodaejgcaaGreatDoor
section
open Go
def P64:List Nat:=[2,3,5,7,11,13,17,19,23,29,31,37,41,43,47,53,59,61,67,71,73,79,83,89,97,101,103,107,109,113,127,131,137,139,149,151,157,163,167,173,179,181,191,193,197,199,211,223,227,229,233,239,241,251,257,263,269,271,277,281,283,293,307,311]
def RT:List Nat:=[5411319704,6194414737,7344290767,8215976869,9551921755,10098905585,11043570340,11460697813,12214315672,13195500289,13492127166,14311783875,14809980276,15046980094,15499789991,16133124468,16720292289,16907126662,17444216262,17784676812,17950125167,18429019306,18734950876,19175934170,19734090066,20001703533,20132865992,20390182855,20516441075,20764397895,21588763473,21813078375,22141143685,22248366392,22769593852,22871018771,23170020180,23461497531,23651862830,23931792517,24205322401,24295138891,24734567280,24820601251,24990902297,25075189284,25569408389,26045227120,26200031510,26276752392,26428864332,26653801653,26727943347,27092625994,27306805839,27517677555,27725365998,27793908591,27997534228,28131656200,28198240250,28526537963,28973835255,29099129074]
def RS:List Nat:=[6074000999,7439101573,9603838834,11363415354,14244795007,15485724812,17708603819,18721328409]
def H8:List W:=[1779033703,3144134277,1013904242,2773480762,1359893119,2600822924,528734635,1541459225]
def aY3:(List.range 64).all (λi=>decide ((RT.getD i 0)^3≤P64.getD i 0*4294967296^3)&&decide (P64.getD i 0*4294967296^3<(RT.getD i 0+1)^3)&&decide (RT.getD i 0%4294967296=(kT.getD i 0).toNat)&&decide (P64.getD i 0*4294967296^3<68719476736^3)&&decide (P64.getD i 0<4294967296))=true:=by kernel_rfl
def aZo:(List.range 8).all (λi=>decide ((RS.getD i 0)^2≤P64.getD i 0*4294967296^2)&&decide (P64.getD i 0*4294967296^2<(RS.getD i 0+1)^2)&&decide (RS.getD i 0%4294967296=(H8.getD i 0).toNat)&&decide (P64.getD i 0*4294967296^2<68719476736^2))=true:=by kernel_rfl
def aLF:Nat->List Nat->Nat->Option (List Nat)
 | 0,_,_=>none
 | f+1,out,x=>if out.length<64 then aLF f (if out.all (λd=>decide (x%d≠0)) then out++[x] else out) (x+1) else some out
def aTE:aLF 400 [] 2=some P64:=by kernel_rfl
def aQw{h:PH}{v:Value}{l:List Nat}(S:fZ h 1 v (l.map pS))(i:Nat){k:cD}(hk:k (.int .u64 ((l.getD i 0:Nat):Int)) h):aT PG zP #[v,.int .i64 (i:Int)] h k:=by
 apply aBo.call;unfold aBo;have lv:=aLc S;by_cases hl:i<l.length
 ·have g1:((i:Int)<(l.length:Int))=True:=eq_true (by omega);obtain⟨pa,p1,p2⟩:=aMw S (lJ hl);simp only[lv,g1,p1,p2,cE,reduceIte];rw[aBM,lJ hl] at hk;exact hk
 ·have g1:((i:Int)<(l.length:Int))=False:=eq_false (by omega);simp only[lv,g1,cE,reduceIte];rw[aBM,List.getElem?_eq_none (by omega)] at hk;exact hk
def aZw:List Value->PH->Nat:=λvs _=>match vs[2]? with
 | some (Value.int _ x)=>(x+1).toNat
 | _=>0
def aWb{h:PH}{v w:Value}{a b:List Nat}(S:fZ h 1 v (a.map pS))(T:fZ h 1 w (b.map pS))(ha:Dig a)(hb:Dig b)(hla:a.length≤1000)(hlb:b.length≤1000){k:cD}(hk:k (.bool (decide (jU b<jU a))) h):aT PG aCu #[v,w] h k:=by
 apply aBe.call;unfold aBe;have lv:=aLc S;have lw:=aLc T;have e1:IntKind.i64.wrap ((a.length:Int)+(b.length:Int))=((a.length+b.length+1:Nat):Int)-1:=by rw[fH (by omega) (by omega)];omega
 simp only[lv,lw,e1,cE,reduceIte];have hA:jU a/4294967296^(a.length+b.length+1)=jU b/4294967296^(a.length+b.length+1):=by
  have h1:jU a<4294967296^(a.length+b.length+1):=aLl (aK8 ha) (aLi (by decide) (by omega));have h2:jU b<4294967296^(a.length+b.length+1):=aLl (aK8 hb) (aLi (by decide) (by omega));rw[Nat.div_eq_of_lt h1,Nat.div_eq_of_lt h2]
 refine⟨λvs h'=>∃m:Nat,m≤2001∧vs=[v,w,.int .i64 ((m:Int)-1)]∧h'=h∧jU a/4294967296^m=jU b/4294967296^m,aZw,⟨_,by omega,rfl,rfl,hA⟩,?_⟩;rintro ρ h' ⟨m,hm,hvs,rfl,hq⟩;simp only[iH,jA,lN,and_true] at hvs;obtain⟨v0,v1,v5⟩:=hvs;simp only[v0,v1,v5,iH,jA];unfold aGo;cases m with
 | zero=>
  have g1:((0:Int)≤((0:Nat):Int)-1)=False:=eq_false (by decide);simp only[g1,cE,reduceIte];rw[Nat.pow_zero,Nat.div_one,Nat.div_one] at hq;have:decide (jU b<jU a)=false:=by simp[hq]
  rw[this] at hk;exact hk
 | succ m=>
  have g0:((m+1:Nat):Int)-1=(m:Int):=by omega
  have g1:((0:Int)≤(m:Int))=True:=eq_true (by omega);have g2:IntKind.i64.wrap ((m:Int)-1)=(m:Int)-1:=fH (by omega) (by omega);rw[g0];simp only[g1,cE,reduceIte];refine aQw S m ?_;refine aQw T m ?_;have da:=aLV ha m;have db:=aLV hb m;have sa:jU a/4294967296^m/4294967296=jU a/4294967296^(m+1):=by rw[Nat.div_div_eq_div_mul,zLR]
  have sb:jU b/4294967296^m/4294967296=jU b/4294967296^(m+1):=by rw[Nat.div_div_eq_div_mul,zLR]
  have mono:∀{x y:Nat},x/4294967296^m<y/4294967296^m->x<y:=fun {x y} hxy=>by
   refine Nat.lt_of_not_le λhle=>?_;have:=Nat.div_le_div_right (c:=4294967296^m) hle;omega
  generalize a.getD m 0=p at *;generalize b.getD m 0=q at *;by_cases he:p=q
  ·subst he;simp only[bne_self_eq_false,g2,cE,reduceIte];refine⟨⟨m,by omega,rfl,(by trivial),?_⟩,?_⟩
   ·omega
   ·simp only[aZw,sL,qB];omega
  ·have g3:((p:Int) !=(q:Int))=true:=by rw[bne_iff_ne];omega
   have g4:decide ((q:Int)<(p:Int))=decide (jU b<jU a):=by
    by_cases hlt:q<p
    ·have:jU b<jU a:=mono (by omega);have h2:(q:Int)<(p:Int):=by omega
     simp only[this,h2]
    ·have:jU a<jU b:=mono (by omega);have hn:¬jU b<jU a:=by omega
     have h2:¬(q:Int)<(p:Int):=by omega
     simp only[hn,h2]
   simp only[g3,aOk,g4,cE,reduceIte];exact hk
def aWj{h:PH}(x n:Nat)(third:Bool)(hx:x≤68719476736)(hn:n<4294967296){k:cD}(hk:∀h',dD h h'->k (.bool (decide (x^(if third then 3 else 2)≤n*4294967296^(if third then 3 else 2)))) h'):
  aT PG aCj #[.int .u64 (x:Int),.int .u64 (n:Int),.bool third] h k:=by
 apply aBy.call;unfold aBy;have b1:jV PG (buildSlice eH 1 #[(0,.int .u64 (x:Int))])=some (.cells #[.int .u64 (x:Int)] cA,λr=>pure (.slice (some ⟨r,0,none⟩) 1 1)):=by kernel_rfl
 simp only[b1,cE,reduceIte];intro r hr;refine fP ?_
 try rw[cW]
 have u1:dD h (h.set r (.cells #[.int .u64 (x:Int)] cA)):=cQ.new hr;have S1:fZ (h.set r (.cells #[.int .u64 (x:Int)] cA)) 1 (.slice (some ⟨r,0,none⟩) 1 1) ([x].map pS):=(eM.lit (n:=1) (pS.rows [x]) dL (by simp) (by decide) rfl).slR;generalize h.set r (.cells #[.int .u64 (x:Int)] cA)=h1 at *;have key:∀t:Nat,1≤t->t≤2->(∀h',dD h h'->k (.bool (decide (x^(t+1)≤n*4294967296^(t+1)))) h')->yY k (.int .u64 (x:Int)) (.int .u64 (n:Int)) (.slice (some ⟨r,0,none⟩) 1 1) (.int .i64 (t:Int)) h1:=by
  intro t ht1 ht2 hkt;unfold yY;refine⟨λvs h'=>∃(j:Nat) (w:Value) (l:List Nat),j≤t∧vs=[.int .u64 (x:Int),.int .u64 (n:Int),w,.int .i64 (t:Int),.int .i64 (j:Int)]∧fZ h' 1 w (l.map pS)∧(∀d∈l,d≤18446744069414584320)∧jU l<4294967296^(l.length+1)∧l.length≤1+4*j∧jU l=x^(j+1)∧(1≤j->Dig l)∧l≠[]∧dD h h',gQ t 4,⟨0,_,[x],by omega,rfl,S1,by simp;omega,by simp only[jU,qE,zLN];omega,by simp,by simp[jU],by omega,by simp,u1⟩,?_⟩;rintro ρ h' ⟨j,w,l,hj,hvs,S,hs,hd,hl,hv,hdg,hln,u⟩;simp only[iH,jA,lN,and_true] at hvs;obtain⟨v0,v1,v7,v8,v9⟩:=hvs;simp only[v0,v1,v7,v8,v9,iH,jA];unfold aGv;by_cases hlt:j<t
  ·have g1:((j:Int)<(t:Int))=True:=eq_true (by omega);have gi:=qN (i:=j) (by omega);simp only[g1,cE,reduceIte];refine aSD S hs hd (by omega) x (by omega) λh2 w2 l2 F2 O2 hd2 hl2 hv2 f2 u2=>?_;simp only[gi,cE,reduceIte];refine⟨⟨j+1,w2,l2,by omega,rfl,O2.slR,λd hd=>by have:=hd2 d hd;omega,aLl (aK8 hd2) (aLi (by decide) (by omega)),by omega,by rw[hv2,hv,←zLR],λ_=>hd2,aKr (by omega),u.trans u2⟩,?_⟩;simp only[gQ,sL,qB];omega
  ·have g1:((j:Int)<(t:Int))=False:=eq_false (by omega);have hjt:j=t:=by omega
   subst hjt;have g2:IntKind.i64.wrap ((j:Int)+2)=((j+2:Nat):Int):=by rw[fH (by omega) (by omega)];omega
   have g3:=qN (i:=j) (by omega);obtain⟨zs,m1,m2⟩:=aRP (h:=h) (n:=j+2) (by omega);simp only[g1,g2,g3,m1,cE,reduceIte];intro r2 hr2;refine fP ?_
   try rw[cW]
   have u2:dD h' (h'.set r2 (.cells zs cA (0,0))):=cQ.new hr2;have O2:aG9 (h'.set r2 (.cells zs cA (0,0))) (.slice (some ⟨r2,0,none⟩) (j+2) (j+2)) (List.replicate (j+2) 0) [r2]:=eM.lit (n:=j+2) (pS.rows _) dL (by simp) (by unfold rB;omega) m2;generalize h'.set r2 (.cells zs cA (0,0))=h2 at *;obtain⟨pb,q1,q2⟩:=O2.storeCell (t:=eH) (k:=.i64) (j:=j+1) eH.und cA.info cA.size cA.und rfl (by simp) (x:=.int .u64 (n:Int)) rfl;simp only[q1,cE,reduceIte];refine q2 _ λh3 O3 u3=>?_;have hrows:((List.replicate (j+2) 0).map pS).take (j+1)++[[(.int .u64 (n:Int):Value)]]++((List.replicate (j+2) 0).map pS).drop (j+1+1)=((List.replicate (j+2) 0).set (j+1) n).map pS:=by
    rw[List.set_eq_take_append_cons_drop,if_pos (by simp),pO,iH,aJo,aL2];simp[pS]
   rw[hrows] at O3;have hdw:Dig ((List.replicate (j+2) 0).set (j+1) n):=λz hz=>by
    rcases List.mem_or_eq_of_mem_set hz with hz|rfl
    ·exact aMV _ z hz
    ·exact hn
   have hvw:jU ((List.replicate (j+2) 0).set (j+1) n)=n*4294967296^(j+1):=by
    have:=aOG (List.replicate (j+2) 0) (j+1) n 0 (by rw[List.getElem?_replicate];simp);rw[aLO] at this;omega
   have hr0:h r2=none:=u.none hr2;have S3:=(S.ext u2).upd u3 (λa n' c e=>by
    simp only[gB];intro hh;obtain⟨a0,c0,e0,_,_,hx0,_⟩:=S.here;rw[e0] at e;have hne:(l.map pS)≠[]:=by simpa using hln
    obtain⟨b,o,cs,e',fr,ha0,hb0,_⟩:=hx0 hne;rw[ha0] at e;simp only[Value.slice.injEq,zL9] at e;rw[←e.1] at hh;simp only at hh;rw[hh,hr2] at hb0;cases hb0)
   refine aWb S3 O3.slR (hdg ht1) hdw (by omega) (by simp;omega) ?_;have hfin:=hkt h3 ((u.trans u2).fresh u3 (eK.one hr0));have e9:(!decide (jU ((List.replicate (j+2) 0).set (j+1) n)<jU l))=decide (x^(j+1)≤n*4294967296^(j+1)):=by
    rw[hvw,hv,zLm];simp
   simp only[e9,cE,reduceIte];exact hfin
 cases third with
 | true=>
  simp only[cE,reduceIte];exact key 2 (by omega) (by omega) hk
 | false=>
  simp only[cE,reduceIte];exact key 1 (by omega) (by omega) hk
def gap:List Value->PH->Nat:=λvs _=>match vs[2]? with
 | some (Value.int _ x)=>match vs[3]? with
  | some (Value.int _ y)=>(y-x).toNat
  | _=>0
 | _=>0
def aUf(x:Int):dH PG (convert cA cL (.int .u64 x))=some (.int .u32 (IntKind.u32.wrap x)):=by kernel_rfl
def aVr{k T r R:Nat}(h1:r^k≤T)(h2:T<(r+1)^k)(h3:R^k≤T)(h4:T<(R+1)^k):r=R:=by
 rcases Nat.lt_trichotomy r R with h|h|h
 ·have:=Nat.pow_le_pow_left (show r+1≤R by omega) k;omega
 ·exact h
 ·have:=Nat.pow_le_pow_left (show R+1≤r by omega) k;omega
def aSV{h:PH}(n:Nat)(third:Bool)(hn:n<4294967296)(hT:n*4294967296^(if third then 3 else 2)<68719476736^(if third then 3 else 2))(R:Nat)(hR1:R^(if third then 3 else 2)≤n*4294967296^(if third then 3 else 2))(hR2:n*4294967296^(if third then 3 else 2)<(R+1)^(if third then 3 else 2))(w:W)(hw:R%4294967296=w.toNat){k:cD}(hk:∀h',dD h h'->k (wv w) h'):
  aT PG aAL #[.int .u64 (n:Int),.bool third] h k:=by
 apply aCb.call;unfold aCb;have hpos:0<(if third then 3 else 2):=by cases third<;>decide
 refine⟨λvs h'=>∃lo hi:Nat,vs=[.int .u64 (n:Int),.bool third,.int .u64 (lo:Int),.int .u64 (hi:Int)]∧lo<hi∧hi≤68719476736∧lo^(if third then 3 else 2)≤n*4294967296^(if third then 3 else 2)∧n*4294967296^(if third then 3 else 2)<hi^(if third then 3 else 2)∧dD h h',gap,⟨0,68719476736,rfl,by omega,by omega,by rw[Nat.zero_pow hpos];omega,hT,cQ.refl⟩,?_⟩;rintro ρ h' ⟨lo,hi,hvs,hlh,hhi,h1,h2,u⟩;simp only[iH,jA,lN,and_true] at hvs;obtain⟨v0,v1,v5,v6⟩:=hvs;simp only[v0,v1,v5,v6,iH,jA];unfold aHo;have e1:IntKind.u64.wrap ((hi:Int)-(lo:Int))=((hi-lo:Nat):Int):=by rw[gO (by omega) (by omega)];omega
 by_cases hg:1<hi-lo
 ·have g1:((1:Int)<((hi-lo:Nat):Int))=True:=eq_true (by omega);have e2:IntKind.u64.wrap ((lo:Int)+(hi:Int))=((lo+hi:Nat):Int):=by rw[gO (by omega) (by omega)];omega
  have e3:Int.tdiv ((lo+hi:Nat):Int) 2=(((lo+hi)/2:Nat):Int):=rfl;have e4:IntKind.u64.wrap (((lo+hi)/2:Nat):Int)=(((lo+hi)/2:Nat):Int):=gO (by omega) (by omega);have qu:∀(t:TypeId) (a:Int),dH PG (binOp .quo t (.int .u64 a) (.int .u64 2))=some (.int .u64 (IntKind.u64.wrap (a.tdiv 2))):=λt a=>aNB (by decide);simp only[e1,g1,e2,qu,e3,e4,cE,reduceIte];refine aWj ((lo+hi)/2) n third (by omega) hn λh3 u3=>?_;by_cases hc:((lo+hi)/2)^(if third then 3 else 2)≤n*4294967296^(if third then 3 else 2)
  ·simp only[hc,cE,reduceIte];unfold aAY;refine⟨⟨_,_,rfl,by omega,hhi,hc,h2,u.trans u3⟩,?_⟩;simp only[gap,sL,qB];omega
  ·simp only[hc,cE,reduceIte];unfold aAY;refine⟨⟨_,_,rfl,by omega,by omega,h1,by omega,u.trans u3⟩,?_⟩;simp only[gap,sL,qB];omega
 ·have g1:((1:Int)<((hi-lo:Nat):Int))=False:=eq_false (by omega);simp only[e1,g1,aUf,cE,reduceIte];have hhl:hi=lo+1:=by omega
  subst hhl;obtain rfl:lo=R:=aVr h1 h2 hR1 hR2;have e:Value.int .u32 (IntKind.u32.wrap (lo:Int))=wv w:=by
   unfold wv;rw[aGb,←hw];congr 1
  rw[e];exact hk _ u
def bAG{h:PH}{v x:Value}{l ys:List Nat}{F:List Nat}(O:aG9 h v l F)(S:fZ h 1 x (ys.map pS))(hl:l.length+ys.length≤1000000){t:TypeId}{k:cD}
  (hk:∀v' h' F',aG9 h' v' (l++ys) F'->cQ F h h'->(∀b∈F',b∈F∨h b=none)->k v' h'):dC PG (Builtin.append_ #[eH,eH] t #[v,x]) h k:=by
 refine jK eH.und eH.und cA.info cA.size cA.bytes cA.zero rfl (by decide) O S ?_ (by simp;omega) ?_
 ·intro r hr u hu;obtain⟨y,hyy,rfl⟩:=mJ.1 hr;simp only[pS,gB] at hu;subst hu;rfl
 intro v' h' F' O' u' k' _;rw[←pO] at O';exact hk v' h' F' O' u' k'
def aRn(f:Nat)(out:List Nat)(x:Nat):aLF (f+1) out x=if out.length<64 then aLF f (if out.all (λd=>decide (x%d≠0)) then out++[x] else out) (x+1) else some out:=rfl
def aUS{h:PH}{k:cD}(hk:∀h' v F,aG9 h' v P64 F->dD h h'->k v h'):aT PG aCE #[.int .i64 64] h k:=by
 apply sH.call;unfold sH;refine⟨λvs h'=>∃(x:Nat) (v:Value) (out F:List Nat),vs=[.int .i64 64,v,.int .u64 (x:Int)]∧2≤x∧x≤402∧aLF (402-x) out x=some P64∧(∀d∈out,0<d)∧aG9 h' v out F∧eK h F∧dD h h',gQ 402 2,⟨2,_,[],[],rfl,by omega,by omega,aTE,by simp,eM.nil,(λb hb=>by cases hb),cQ.refl⟩,?_⟩;rintro ρ h' ⟨x,v,out,F,hvs,hx2,hx,hP,hd,O,fF,u⟩;simp only[iH,jA,lN,and_true] at hvs;obtain⟨v0,v3,v4⟩:=hvs;simp only[v0,v3,v4,iH,jA];unfold aF8;have lv:=aLc O.slR;have hx':x<402:=by
  refine Nat.lt_of_le_of_ne hx λe=>?_;subst e;cases hP
 obtain⟨f,hf⟩:∃f,402-x=f+1:=⟨401-x,by omega⟩;rw[hf,aRn] at hP;by_cases hl:out.length<64
 ·rw[if_pos hl] at hP;have g1:((out.length:Int)<64)=True:=eq_true (by omega);simp only[lv,g1,cE,reduceIte];refine⟨λvs h2=>∃(i:Nat),i≤out.length∧vs=[.int .i64 64,v,.int .u64 (x:Int),.bool ((out.take i).all (λd=>decide (x%d≠0))),.int .i64 (i:Int)]∧h2=h',gQ out.length 4,⟨0,by omega,rfl,rfl⟩,?_⟩;rintro ρ2 h2 ⟨i,hi,hvs,rfl⟩;simp only[iH,jA,lN,and_true] at hvs;obtain⟨w0,w3,w4,w5,w6⟩:=hvs;simp only[w0,w3,w4,w5,w6,iH,jA];unfold aFy;by_cases hil:i<out.length
  ·have g2:((i:Int)<(out.length:Int))=True:=eq_true (by omega);have gi:=qN (i:=i) (by omega);have hxi:out[i]? =some out[i]:=lJ hil;have hdp:=hd _ (aMf hil);have htk:out.take (i+1)=out.take i++[out[i]]:=aTW hil;generalize out[i]=d at *;obtain⟨pa,p1,p2⟩:=aMw O.slR hxi;have rm:dH PG (binOp .rem cA (.int .u64 (x:Int)) (.int .u64 (d:Int)))=some (.int .u64 ((x%d:Nat):Int)):=by
    rw[aHO (by omega)];congr 2
   have hall:(out.take (i+1)).all (λd=>decide (x%d≠0))=((out.take i).all (λd=>decide (x%d≠0))&&decide (x%d≠0)):=by
    rw[htk,List.all_append];simp
   by_cases hz:x%d=0
   ·have g3:(((x%d:Nat):Int)==0)=true:=by simp[hz]
    simp only[lv,g2,p1,p2,rm,g3,cE,reduceIte];unfold wK aBK;simp only[gi,cE,reduceIte];refine⟨⟨i+1,by omega,?_,(by trivial)⟩,?_⟩
    ·rw[hall];simp[hz]
    ·simp only[gQ,sL,qB];omega
   ·have g3:(((x%d:Nat):Int)==0)=false:=by simp;omega
    simp only[lv,g2,p1,p2,rm,g3,cE,reduceIte];unfold wK aBK;simp only[gi,cE,reduceIte];refine⟨⟨i+1,by omega,?_,(by trivial)⟩,?_⟩
    ·rw[hall];simp[hz]
    ·simp only[gQ,sL,qB];omega
  ·have g2:((i:Int)<(out.length:Int))=False:=eq_false (by omega);have gx:IntKind.u64.wrap ((x:Int)+1)=((x+1:Nat):Int):=by rw[gO (by omega) (by omega)];omega
   rw[lY (by omega)];have hfx:402-(x+1)=f:=by omega
   cases hok:out.all (λd=>decide (x%d≠0)) with
   | false=>
    rw[hok] at hP;simp only[lv,g2,cE,reduceIte];unfold wJ aBF;simp only[gx,cE,reduceIte];refine⟨⟨x+1,v,out,F,rfl,by omega,by omega,by rw[hfx];simpa using hP,hd,O,fF,u⟩,?_⟩;simp only[gQ,sL,qB];omega
   | true=>
    rw[hok,if_pos rfl] at hP;have b1:jV PG (buildSlice eH 1 #[(0,.int .u64 (x:Int))])=some (.cells #[.int .u64 (x:Int)] cA,λr=>pure (.slice (some ⟨r,0,none⟩) 1 1)):=by kernel_rfl
    simp only[lv,g2,b1,cE,reduceIte];intro r hr;refine fP ?_
    try rw[cW]
    have u1:dD h2 (h2.set r (.cells #[.int .u64 (x:Int)] cA)):=cQ.new hr;have S1:fZ (h2.set r (.cells #[.int .u64 (x:Int)] cA)) 1 (.slice (some ⟨r,0,none⟩) 1 1) ([x].map pS):=(eM.lit (n:=1) (pS.rows [x]) dL (by simp) (by decide) rfl).slR;generalize h2.set r (.cells #[.int .u64 (x:Int)] cA)=h3 at *;refine bAG (O.ext u1) S1 (by simp;omega) λv' h4 F' O' u' k'=>?_;unfold wJ aBF;simp only[gx,cE,reduceIte];have e1:=u.trans u1;refine⟨⟨x+1,v',out++[x],F',rfl,by omega,by omega,by rw[hfx];exact hP,λd hdm=>?_,O',fF.grow e1 k',e1.fresh u' fF⟩,?_⟩
    ·rcases kB.1 hdm with hdm|hdm
     ·exact hd d hdm
     ·simp only[gB] at hdm;omega
    ·simp only[gQ,sL,qB];omega
 ·rw[if_neg hl] at hP;obtain rfl:out=P64:=aLd hP;have g1:((P64.length:Int)<64)=False:=eq_false (by decide);simp only[lv,g1,cE,reduceIte];exact hk _ v F O u
def aDP(w:W):List Value:=[wv w]
def aDP.rows(l:List W):Rows 1 (l.map aDP):=λr hr=>by
 obtain⟨p,-,rfl⟩:=mJ.1 hr;rfl
def aDP.isCell(l:List W):∀r∈l.map aDP,∀u∈r,fW u=true:=λr hr u hu=>by
 obtain⟨y,hyy,rfl⟩:=mJ.1 hr;simp only[aDP,gB] at hu;subst hu;rfl
abbrev aFE(h:PH)(v:Value)(l:List W)(F:List Nat):Prop:=eM h cL 1 v (l.map aDP) F
abbrev WSl(h:PH)(v:Value)(l:List W):Prop:=fZ h 1 v (l.map aDP)
def aFA{h:PH}{v:Value}{l:List W}(S:WSl h v l){i:Nat}{x:W}(hx:l[i]? =some x):∃a,dH PG (indexAt fC v (.int .i64 (i:Int)))=some (.pointer (some a))∧cG PG h (loadAt cL (.pointer (some a)))=some (wv x):=
 S.loadCell (t:=fC) (k:=.i64) (j:=(i:Int)) fC.und cL.info cL.size cL.und rfl (by omega) (by rw[rA,wA,hx];rfl)
def aQi{h:PH}{v x:Value}{l ys:List W}{F:List Nat}(O:aFE h v l F)(S:WSl h x ys)(hl:l.length+ys.length≤1000000){t:TypeId}{k:cD}
  (hk:∀v' h' F',aFE h' v' (l++ys) F'->cQ F h h'->(∀b∈F',b∈F∨h b=none)->k v' h'):dC PG (Builtin.append_ #[fC,fC] t #[v,x]) h k:=by
 refine jK fC.und fC.und cL.info cL.size cL.bytes cL.zero rfl (by decide) O S (aDP.isCell ys) (by simp;omega) ?_;intro v' h' F' O' u' k' _;rw[←pO] at O';exact hk v' h' F' O' u' k'
def aTb(a:W):jV PG (buildSlice fC 1 #[(0,wv a)])=some (.cells #[wv a] cL,λr=>pure (.slice (some ⟨r,0,none⟩) 1 1)):=by kernel_rfl
def aRo{h:PH}{k:cD}(hk:∀h' v w F G,aFE h' v kT F->aFE h' w H8 G->eK h F->eK h G->dD h h'->k (.tuple #[v,w]) h'):aT PG aAT #[] h k:=by
 apply xV.call;unfold xV;refine aUS λh1 p Fp Op u1=>?_;refine⟨λvs h'=>∃(i:Nat) (v w:Value) (F G:List Nat),i≤64∧vs=[v,w,p,.int .i64 (i:Int)]∧aFE h' v (kT.take i) F∧aFE h' w (H8.take i) G∧(∀x∈F,x∉G)∧eK h1 F∧eK h1 G∧dD h1 h',gQ 64 3,⟨0,_,_,[],[],by omega,rfl,eM.nil,eM.nil,by simp,(λb hb=>by cases hb),(λb hb=>by cases hb),cQ.refl⟩,?_⟩;rintro ρ h' ⟨i,v,w,F,G,hi,hvs,OF,OG,hFG,fF,fG,u⟩;simp only[iH,jA,lN,and_true] at hvs;obtain⟨v2,v3,v4,v5⟩:=hvs;simp only[v2,v3,v4,v5,iH,jA];unfold aEf;by_cases hl:i<64
 ·have g1:((i:Int)<64)=True:=eq_true (by omega);have gi:=qN (i:=i) (by omega);have hpi:P64[i]? =some (P64.getD i 0):=by
   rw[aBM,lJ (show i<P64.length by show i<64;omega)];rfl
  have hki:kT.take (i+1)=kT.take i++[kT.getD i 0]:=by
   rw[aTW (show i<kT.length by rw[aK6];omega),aBM,lJ (show i<kT.length by rw[aK6];omega)];rfl
  have hrt:=aE6.1 aY3 i (aLM.2 hl);simp only[yH,decide_eq_true_eq] at hrt;obtain⟨⟨⟨⟨r1,r2⟩,r3⟩,r4⟩,r5⟩:=hrt;obtain⟨pa,p1,p2⟩:=aMw (Op.slR.ext u) hpi;simp only[g1,p1,p2,cE,reduceIte];refine aSV _ true r5 r4 _ r1 r2 (kT.getD i 0) r3 λh2 u2=>?_;have e2:=u.trans u2;simp only[aTb,cE,reduceIte];intro r hr;refine fP ?_
  try rw[cW]
  have u3:dD h2 (h2.set r (.cells #[wv (kT.getD i 0)] cL)):=cQ.new hr;have S3:WSl (h2.set r (.cells #[wv (kT.getD i 0)] cL)) (.slice (some ⟨r,0,none⟩) 1 1) [kT.getD i 0]:=(eM.lit (n:=1) (aDP.rows [kT.getD i 0]) dL (by simp) (by decide) rfl).slR;generalize h2.set r (.cells #[wv (kT.getD i 0)] cL)=h3 at *;have e3:=e2.trans u3;refine aQi ((OF.ext u2).ext u3) S3 (by simp;omega) λv' h4 F' O4 u4 k4=>?_;rw[←hki] at O4;have e4:=e3.fresh u4 fF;have f4:=fF.grow e3 k4;have OG4:=((OG.ext u2).ext u3).upd u4 (λb hb hm=>hFG b hm hb);have hFG4:∀x∈F',x∉G:=λx hx hm=>by
   rcases k4 x hx with h0|h0
   ·exact hFG x h0 hm
   ·exact((OG.ext u2).ext u3).known x hm h0
  by_cases h8:i<8
  ·have g2:((i:Int)<8)=True:=eq_true (by omega);have hhi:H8.take (i+1)=H8.take i++[H8.getD i 0]:=by
    rw[aTW (show i<H8.length by show i<8;omega),aBM,lJ (show i<H8.length by show i<8;omega)];rfl
   have hrs:=aE6.1 aZo i (aLM.2 h8);simp only[yH,decide_eq_true_eq] at hrs;obtain⟨⟨⟨s1,s2⟩,s3⟩,s4⟩:=hrs;obtain⟨pb,q1,q2⟩:=aMw (Op.slR.ext e4) hpi;rw[p1] at q1;obtain rfl:pa=pb:=by simpa using q1
   simp only[g2,p1,q2,cE,reduceIte];refine aSV _ false r5 s4 _ s1 s2 (H8.getD i 0) s3 λh5 u5=>?_;have e5:=e4.trans u5;simp only[aTb,cE,reduceIte];intro r' hr';refine fP ?_
   try rw[cW]
   have u6:dD h5 (h5.set r' (.cells #[wv (H8.getD i 0)] cL)):=cQ.new hr';have S6:WSl (h5.set r' (.cells #[wv (H8.getD i 0)] cL)) (.slice (some ⟨r',0,none⟩) 1 1) [H8.getD i 0]:=(eM.lit (n:=1) (aDP.rows [H8.getD i 0]) dL (by simp) (by decide) rfl).slR;generalize h5.set r' (.cells #[wv (H8.getD i 0)] cL)=h6 at *;have e6:=e5.trans u6;refine aQi ((OG4.ext u5).ext u6) S6 (by simp;omega) λw' h7 G' O7 u7 k7=>?_;rw[←hhi] at O7;unfold sV zZ;simp only[gi,cE,reduceIte];have O4':=((O4.ext u5).ext u6).upd u7 hFG4;have hFG7:∀x∈F',x∉G':=λx hx hm=>by
    rcases k7 x hm with h0|h0
    ·exact hFG4 x hx h0
    ·exact((O4.ext u5).ext u6).known x hx h0
   refine⟨⟨i+1,v',w',F',G',by omega,rfl,O4',O7,hFG7,f4,fG.grow e6 k7,e6.fresh u7 fG⟩,?_⟩;simp only[gQ,sL,qB];omega
  ·have g2:((i:Int)<8)=False:=eq_false (by omega);have hhi:H8.take (i+1)=H8.take i:=by
    rw[lY (show H8.length≤i+1 by show 8≤i+1;omega),lY (show H8.length≤i by show 8≤i;omega)]
   simp only[g2,cE,reduceIte];unfold sV zZ;simp only[gi,cE,reduceIte];refine⟨⟨i+1,v',w,F',G,by omega,rfl,O4,by rw[hhi];exact OG4,hFG4,f4,fG,e4⟩,?_⟩;simp only[gQ,sL,qB];omega
 ·have g1:((i:Int)<64)=False:=eq_false (by omega);rw[lY (by rw[aK6];omega)] at OF;rw[lY (show H8.length≤i by show 8≤i;omega)] at OG;simp only[g1,cE,reduceIte];exact hk h' v w F G OF OG (fF.of u1) (fG.of u1) (u1.trans u)
def aAb{h:PH}{x:W}{n:Nat}(h1:1≤n)(h2:n≤31){k:cD}(hk:k (wv (tn x n)) h):aT PG kH #[wv x,.int .i64 n] h k:=by
 apply uL.call;unfold uL;have e1:IntKind.i64.wrap (32-(n:Int))=((32-n:Nat):Int):=by rw[fH (by omega) (by omega)];omega
 simp only[aKg (show n≤32 by omega),e1,aO3 (show 32-n≤32 by omega),aWG,cE,reduceIte];rw[BitVec.or_comm];exact hk
def aZ9{t:TypeId}{x:W}{c:Nat}:dH PG (binOp .mul t (wv x) (.int .u32 (c:Int)))=some (wv (x*BitVec.ofNat 32 c)):=by
 unfold wv;rw[aQr,aGb,BitVec.toNat_mul,BitVec.toNat_ofNat,←Int.natCast_mul];congr 2;have:x.toNat*(c%2^32)%2^32=x.toNat*c%4294967296:=by rw[Nat.mul_mod_mod]
 rw[this];rfl
def aRA{t:TypeId}{x:W}{c:Nat}{i:Int}{w:W}(hi:i=(c:Int))(hw:w=BitVec.ofNat 32 c):dH PG (binOp .mul t (wv x) (.int .u32 i))=some (wv (x*w)):=by
 subst hi hw;exact aZ9
def aXb{t:TypeId}{x:W}:dH PG (binOp .mul t (wv x) (.int .u32 16777216))=some (wv (x*16777216)):=aRA (c:=16777216) (by decide) (by decide)
def aYV{t:TypeId}{x:W}:dH PG (binOp .mul t (wv x) (.int .u32 65536))=some (wv (x*65536)):=aRA (c:=65536) (by decide) (by decide)
def aZn{t:TypeId}{x:W}:dH PG (binOp .mul t (wv x) (.int .u32 256))=some (wv (x*256)):=aRA (c:=256) (by decide) (by decide)
def bAD{t:TypeId}{x:W}:dH PG (binOp .sub t (.int .u32 4294967295) (wv x))=some (wv (~~~x)):=by
 unfold wv;rw[aOt,aGb,BitVec.toNat_not];have:=x.isLt;congr 2;omega
def aTJ(i a b:Nat)(h:b<2^i):a*2^i ||| b=a*2^i+b:=by
 have:=Nat.shiftLeft_add_eq_or_of_lt (i:=i) (b:=b) h a;rw[Nat.shiftLeft_eq] at this;exact this.symm
def bAq(a b:Nat)(h:b<16777216):a*16777216 ||| b=a*16777216+b:=aTJ 24 a b h
def bA3(a b:Nat)(h:b<65536):a*65536 ||| b=a*65536+b:=aTJ 16 a b h
def or8(a b:Nat)(h:b<256):a*256 ||| b=a*256+b:=aTJ 8 a b h
def aZZ{a b c d:Nat}(hb:b<256)(hc:c<256)(hd:d<256):((a*16777216 ||| b*65536) ||| c*256) ||| d=a*16777216+b*65536+c*256+d:=by
 rw[bAq a (b*65536) (by omega)];have e1:a*16777216+b*65536=(a*256+b)*65536:=by omega
 rw[e1,bA3 _ (c*256) (by omega)];have e2:(a*256+b)*65536+c*256=(a*65536+b*256+c)*256:=by simp only[zLF,Nat.mul_assoc,Nat.reduceMul]
 rw[e2,or8 _ d hd]
def aZe{a b c d:Nat}(ha:a<256)(hb:b<256)(hc:c<256)(hd:d<256):
  (((a%4294967296*16777216%4294967296+b%4294967296*65536%4294967296)%4294967296+c%4294967296*256%4294967296)%4294967296+d%4294967296)%4294967296
   =a%4294967296*16777216%4294967296 ||| b%4294967296*65536%4294967296 ||| c%4294967296*256%4294967296 ||| d%4294967296:=by
 have lt:∀{x:Nat},x<256->x%4294967296=x:=λh=>aFn (by omega);rw[lt ha,lt hb,lt hc,lt hd,aFn (a:=a*16777216) (by omega),aFn (a:=b*65536) (by omega),aFn (a:=c*256) (by omega),aZZ hb hc hd];rw[aFn (a:=a*16777216+b*65536) (by omega),aFn (a:=a*16777216+b*65536+c*256) (by omega)];exact aFn (by omega)
def w24:(16777216:W).toNat=16777216:=by simp
def w16:(65536:W).toNat=65536:=by simp
def bBA:(256:W).toNat=256:=by simp
def m24(a:Nat):(BitVec.ofNat 32 a*16777216).toNat=a%4294967296*16777216%4294967296:=by rw[BitVec.toNat_mul,BitVec.toNat_ofNat,w24]
def m16(a:Nat):(BitVec.ofNat 32 a*65536).toNat=a%4294967296*65536%4294967296:=by rw[BitVec.toNat_mul,BitVec.toNat_ofNat,w16]
def m8(a:Nat):(BitVec.ofNat 32 a*256).toNat=a%4294967296*256%4294967296:=by rw[BitVec.toNat_mul,BitVec.toNat_ofNat,bBA]
def s24(a:Nat):(BitVec.ofNat 32 a <<< 24).toNat=a%4294967296*16777216%4294967296:=by rw[BitVec.toNat_shiftLeft,BitVec.toNat_ofNat,Nat.shiftLeft_eq]
def s16(a:Nat):(BitVec.ofNat 32 a <<< 16).toNat=a%4294967296*65536%4294967296:=by rw[BitVec.toNat_shiftLeft,BitVec.toNat_ofNat,Nat.shiftLeft_eq]
def s8(a:Nat):(BitVec.ofNat 32 a <<< 8).toNat=a%4294967296*256%4294967296:=by rw[BitVec.toNat_shiftLeft,BitVec.toNat_ofNat,Nat.shiftLeft_eq]
def aWO(x y:W):(x+y).toNat=(x.toNat+y.toNat)%4294967296:=BitVec.toNat_add x y
def aUG(a b c d:UInt8):((BitVec.ofNat 32 a.toNat*16777216+BitVec.ofNat 32 b.toNat*65536)+BitVec.ofNat 32 c.toNat*256)+BitVec.ofNat 32 d.toNat=w4 a b c d:=by
 apply BitVec.eq_of_toNat_eq;unfold w4;rw[BitVec.toNat_or,BitVec.toNat_or,BitVec.toNat_or,aWO,aWO,aWO,s24,s16,s8,m24,m16,m8,BitVec.toNat_ofNat];exact aZe a.toNat_lt b.toNat_lt c.toNat_lt d.toNat_lt
def aAZ(l:List W):List W:=l++List.replicate (64-l.length) 0
def aKG{l:List W}{i:Nat}(hi:i<l.length):(aAZ l)[i]? =some (l.getD i 0):=by
 unfold aAZ;rw[List.getElem?_append_left hi,aBM,lJ hi];rfl
def aP2{l:List W}(hl:l.length≤64):(aAZ l).length=64:=by simp[aAZ];omega
def aS2{l:List W}(hl:l.length=64):aAZ l=l:=by simp[aAZ,hl]
def aUt{l:List W}(hl:l.length<64)(x:W):((aAZ l).map aDP).take l.length++[[wv x]]++((aAZ l).map aDP).drop (l.length+1)=(aAZ (l++[x])).map aDP:=by
 unfold aAZ;rw[show 64-l.length=(64-(l.length+1))+1 by omega,List.replicate_succ];simp only[pO,iH,jM,zLT];rw[zLH (by simp),lY (by simp)];have e:l.length+1=(l.map aDP).length+1:=by simp
 rw[e,←aGf];simp[aDP]
def aXG{h:PH}{v:Value}{l:List W}{F:List Nat}(O:aFE h v (aAZ l) F)(hl:l.length<64)(x:W):∃a,dH PG (indexAt fC v (.int .i64 (l.length:Int)))=some (.pointer (some a))∧
  ∀K:Value->PH->Prop,(∀h',aFE h' v (aAZ (l++[x])) F->cQ F h h'->K undef h')->dC PG (dT cL (.pointer (some a)) (wv x)) h K:=by
 obtain⟨a,q1,q2⟩:=eM.storeCell O (t:=fC) (k:=.i64) (j:=l.length) fC.und cL.info cL.size cL.und rfl (by rw[iV,aP2 (by omega)];exact hl) (x:=wv x) rfl;refine⟨a,q1,λK hK=>q2 K λh' O' u=>hK h' ?_ u⟩;rw[aUt hl] at O';exact O'
def rb6{b:List UInt8}(hb:b.length=64){i:Nat}(hi:i<16){h:PH}{R:cD}{n5:gJ}{kv v w:Value}{F:List Nat}(O:aFE h w (aAZ (yP b i)) F)
  (hn:∀h',aFE h' w (aAZ (yP b (i+1))) F->cQ F h h'->n5 [.string (tx b),kv,v,w,.int .i64 ((i+1:Nat):Int)] h'):
  zN R n5 (.string (tx b)) kv v w (.int .i64 (i:Int)) h:=by
 unfold zN;have e1:((i:Int)<16)=True:=eq_true (by omega);have e2:IntKind.i64.wrap (4*(i:Int))=((4*i:Nat):Int):=by rw[fH (by omega) (by omega)];omega
 have e31:IntKind.i64.wrap (((4*i:Nat):Int)+1)=((4*i+1:Nat):Int):=by rw[fH (by omega) (by omega)];omega
 have e32:IntKind.i64.wrap (((4*i:Nat):Int)+2)=((4*i+2:Nat):Int):=by rw[fH (by omega) (by omega)];omega
 have e33:IntKind.i64.wrap (((4*i:Nat):Int)+3)=((4*i+3:Nat):Int):=by rw[fH (by omega) (by omega)];omega
 have e4:=qN (i:=i) (by omega);have ix:∀j,j<64->b[j]? =some (b.getD j 0):=λj hj=>by
  rw[aBM,lJ (by omega)];rfl
 have i0:dH PG (Instr.index bT (.string (tx b)) (.int .i64 ((4*i:Nat):Int)))=_:=aAu (j:=4*i) bT.und (ix _ (by omega));have i1:dH PG (Instr.index bT (.string (tx b)) (.int .i64 ((4*i+1:Nat):Int)))=_:=aAu (j:=4*i+1) bT.und (ix _ (by omega));have i2:dH PG (Instr.index bT (.string (tx b)) (.int .i64 ((4*i+2:Nat):Int)))=_:=aAu (j:=4*i+2) bT.und (ix _ (by omega));have i3:dH PG (Instr.index bT (.string (tx b)) (.int .i64 ((4*i+3:Nat):Int)))=_:=aAu (j:=4*i+3) bT.und (ix _ (by omega));have hl:(yP b i).length=i:=aHT b i;obtain⟨a,q1,q2⟩:=aXG O (by omega) (wat b i);rw[hl] at q1;have hw:wat b i=w4 (b.getD (4*i) 0) (b.getD (4*i+1) 0) (b.getD (4*i+2) 0) (b.getD (4*i+3) 0):=rfl;rw[hw,←aUG] at q2;simp only[e1,e2,e31,e32,e33,e4,i0,i1,i2,i3,aSq,w8,aXb,aYV,aZn,aGN,q1,cE,reduceIte];refine q2 _ λh' O' u=>hn h' ?_ u;rw[aUG,←hw,←aNj] at O';exact O'
def bA8{b:List UInt8}{i:Nat}(hi:i<48){h:PH}{R:cD}{n5:gJ}{kv v w:Value}{F:List Nat}(O:aFE h w (aAZ (nH b i)) F)
  (hn:∀h',aFE h' w (aAZ (nH b (i+1))) F->cQ F h h'->n5 [kv,v,w,.int .i64 ((i+1+16:Nat):Int)] h'):
  yE R n5 kv v w (.int .i64 ((i+16:Nat):Int)) h:=by
 unfold yE;have hl:=aKB b i;have S:=O.slR;have e1:(((i+16:Nat):Int)<64)=True:=eq_true (by omega);have e2:IntKind.i64.wrap (((i+16:Nat):Int)-15)=((i+1:Nat):Int):=by rw[fH (by omega) (by omega)];omega
 have e3:IntKind.i64.wrap (((i+16:Nat):Int)-2)=((i+14:Nat):Int):=by rw[fH (by omega) (by omega)];omega
 have e4:IntKind.i64.wrap (((i+16:Nat):Int)-16)=((i:Nat):Int):=by rw[fH (by omega) (by omega)];omega
 have e5:IntKind.i64.wrap (((i+16:Nat):Int)-7)=((i+9:Nat):Int):=by rw[fH (by omega) (by omega)];omega
 have e6:IntKind.i64.wrap (((i+16:Nat):Int)+1)=((i+1+16:Nat):Int):=by rw[fH (by omega) (by omega)];omega
 obtain⟨a1,p1,c1⟩:=aFA S (aKG (l:=nH b i) (i:=i+1) (by omega));obtain⟨a2,p2,c2⟩:=aFA S (aKG (l:=nH b i) (i:=i+14) (by omega));obtain⟨a3,p3,c3⟩:=aFA S (aKG (l:=nH b i) (i:=i) (by omega));obtain⟨a4,p4,c4⟩:=aFA S (aKG (l:=nH b i) (i:=i+9) (by omega));simp only[e1,e2,p1,c1,sr3,cE,reduceIte];refine aAb (n:=7) (by decide) (by decide) ?_;refine⟨c1,c1,?_⟩;refine aAb (n:=18) (by decide) (by decide) ?_;refine⟨c1,?_⟩;simp only[aEn,e3,p2,c2,aYz,cE,reduceIte];refine aAb (n:=17) (by decide) (by decide) ?_;refine⟨c2,c2,?_⟩;refine aAb (n:=19) (by decide) (by decide) ?_;refine⟨c2,?_⟩;obtain⟨a,q1,q2⟩:=aXG O (by omega) (aNM (nH b i) (i+16));rw[hl] at q1;simp only[aEn,aGN,e4,e5,p3,c3,p4,c4,q1,e6,cE,reduceIte];have hx:((tn ((nH b i).getD (i+14) 0) 17 ^^^ tn ((nH b i).getD (i+14) 0) 19) ^^^ ((nH b i).getD (i+14) 0>>>10))+(nH b i).getD (i+9) 0+((tn ((nH b i).getD (i+1) 0) 7 ^^^ tn ((nH b i).getD (i+1) 0) 18) ^^^ ((nH b i).getD (i+1) 0>>>3))+(nH b i).getD i 0=aNM (nH b i) (i+16):=by
  unfold aNM;rw[show i+16-15=i+1 by omega,show i+16-2=i+14 by omega,show i+16-16=i by omega,show i+16-7=i+9 by omega];simp only
  ac_rfl
 rw[hx];exact q2 _ λh' O' u=>hn h' O' u
def S8.l_get(s:S8){i:Nat}(hi:i<8):s.l[i]? =Option.some (s.l.getD i 0):=by
 rw[aBM,lJ (show i<s.l.length from hi)];rfl
def aZ3(a b c d e f g x:W):jV PG (buildSlice fC 8 #[(0,wv a),(1,wv b),(2,wv c),(3,wv d),(4,wv e),(5,wv f),(6,wv g),(7,wv x)])=some (.cells #[wv a,wv b,wv c,wv d,wv e,wv f,wv g,wv x] cL,λr=>pure (.slice (some ⟨r,0,none⟩) 8 8)):=by kernel_rfl
def bAp{ws:List W}(hws:ws.length=64){s:S8}{i:Nat}(hi:i<64){h:PH}{R:cD}{n:gJ}{kv v w x:Value}(SK:WSl h kv kT)(SW:WSl h w ws)(SX:WSl h x s.l)
  (hn:∀x' h',WSl h' x' (rnd s (kT.getD i 0) (ws.getD i 0)).l->dD h h'->n [kv,v,w,x',.int .i64 ((i+1:Nat):Int)] h'):
  yD R n kv v w x (.int .i64 (i:Int)) h:=by
 unfold yD;have e1:((i:Int)<64)=True:=eq_true (by omega);have e4:=qN (i:=i) (by omega);obtain⟨a0,p0,c0⟩:=aFA SX (s.l_get (i:=0) (by decide));obtain⟨a1,p1,c1⟩:=aFA SX (s.l_get (i:=1) (by decide));obtain⟨a2,p2,c2⟩:=aFA SX (s.l_get (i:=2) (by decide));obtain⟨a3,p3,c3⟩:=aFA SX (s.l_get (i:=3) (by decide));obtain⟨a4,p4,c4⟩:=aFA SX (s.l_get (i:=4) (by decide));obtain⟨a5,p5,c5⟩:=aFA SX (s.l_get (i:=5) (by decide));obtain⟨a6,p6,c6⟩:=aFA SX (s.l_get (i:=6) (by decide));obtain⟨a7,p7,c7⟩:=aFA SX (s.l_get (i:=7) (by decide));have z0:s.l.getD 0 0=s.a:=rfl;have z1:s.l.getD 1 0=s.b:=rfl;have z2:s.l.getD 2 0=s.c:=rfl;have z3:s.l.getD 3 0=s.d:=rfl;have z4:s.l.getD 4 0=s.e:=rfl;have z5:s.l.getD 5 0=s.f:=rfl;have z6:s.l.getD 6 0=s.g:=rfl;have z7:s.l.getD 7 0=s.h:=rfl;rw[z0] at c0;rw[z1] at c1;rw[z2] at c2;rw[z3] at c3;rw[z4] at c4;rw[z5] at c5;rw[z6] at c6;rw[z7] at c7;simp only[show((0:Nat):Int)=0 from rfl,show((1:Nat):Int)=1 from rfl,show((2:Nat):Int)=2 from rfl,show((3:Nat):Int)=3 from rfl,show((4:Nat):Int)=4 from rfl,show((5:Nat):Int)=5 from rfl,show((6:Nat):Int)=6 from rfl,show((7:Nat):Int)=7 from rfl] at p0 p1 p2 p3 p4 p5 p6 p7;have hk:kT[i]? =some (kT.getD i 0):=by
  rw[aBM,lJ (by rw[aK6];exact hi)];rfl
 have hw:ws[i]? =some (ws.getD i 0):=by
  rw[aBM,lJ (by rw[hws];exact hi)];rfl
 obtain⟨ak,pk,ck⟩:=aFA SK hk;obtain⟨aw,pw,cw⟩:=aFA SW hw;simp only[e1,p0,p1,p2,p4,p5,p6,p7,c0,c1,c2,c4,c5,c6,c7,pk,ck,pw,cw,aQg,bAD,aEn,cE,reduceIte];refine aAb (n:=6) (by decide) (by decide) ?_;refine⟨cw,ck,c7,?_⟩;refine aAb (n:=11) (by decide) (by decide) ?_;refine⟨cw,ck,c7,?_⟩;simp only[aEn,cE,reduceIte];refine aAb (n:=25) (by decide) (by decide) ?_;refine⟨cw,ck,c7,?_⟩;simp only[aEn,aGN,cE,reduceIte];refine aAb (n:=2) (by decide) (by decide) ?_;refine aAb (n:=13) (by decide) (by decide) ?_;simp only[aEn,cE,reduceIte];refine aAb (n:=22) (by decide) (by decide) ?_;simp only[aEn,aQg,aGN,p3,c3,aZ3,e4,cE,reduceIte];intro r hr;refine fP ?_
 try rw[cW]
 refine hn _ _ ?_ (cQ.new hr);exact(eM.lit (n:=8) (aDP.rows (rnd s (kT.getD i 0) (ws.getD i 0)).l) dL (by rfl) (by decide) rfl).slR
def aXv(s t:S8){i:Nat}(hi:i<8):(s.add t).l.take (i+1)=(s.add t).l.take i++[s.l.getD i 0+t.l.getD i 0]:=by
 have:i=0∨i=1∨i=2∨i=3∨i=4∨i=5∨i=6∨i=7:=by omega
 rcases this with rfl|rfl|rfl|rfl|rfl|rfl|rfl|rfl<;>rfl
def aWA{h:PH}{b:List UInt8}(hb:b.length=64){s:S8}{kv v:Value}(SK:WSl h kv kT)(SV:WSl h v s.l){k:cD}(hk:∀h' w,WSl h' w (aKt s b).l->dD h h'->k w h'):
  aT PG aCn #[.string (tx b),kv,v] h k:=by
 apply tJ.call;unfold tJ;obtain⟨zs',hm,hz⟩:=aCq (P:=PG) (n:=64) fC.und cL.info cL.size cL.bytes cL.zero rfl (by decide) (by omega) (by omega);simp only[show((64:Nat):Int)=64 from rfl] at hm;simp only[hm,cE,reduceIte];intro r hr;refine fP ?_
 try rw[cW]
 have u1:dD h (h.set r (.cells zs' cL (0,0))):=cQ.new hr;have O1:aFE (h.set r (.cells zs' cL (0,0))) (.slice (some ⟨r,0,none⟩) 64 64) (aAZ (yP b 0)) [r]:=eM.lit (n:=64) (aDP.rows _) dL (by rw[iV,aP2 (by simp[aHT])]) (by decide) (by
  rw[hz];rfl)
 generalize h.set r (.cells zs' cL (0,0))=h1 at *;have fr:=eK.one hr;refine⟨λvs h'=>∃i:Nat,i≤16∧vs=[.string (tx b),kv,v,.slice (some ⟨r,0,none⟩) 64 64,.int .i64 (i:Int)]∧aFE h' (.slice (some ⟨r,0,none⟩) 64 64) (aAZ (yP b i)) [r]∧dD h h',gQ 16 4,⟨0,by omega,rfl,O1,u1⟩,?_⟩;rintro ρ h' ⟨i,hi,hvs,O,u⟩;simp only[iH,jA,lN,and_true] at hvs;obtain⟨v0,v1,v2,v7,v8⟩:=hvs;simp only[v0,v1,v2,v7,v8,iH,jA];by_cases hl:i<16
 ·refine rb6 hb hl O λh2 O2 u2=>⟨⟨i+1,by omega,rfl,O2,u.fresh u2 fr⟩,?_⟩;simp only[gQ,sL,qB];omega
 obtain rfl:i=16:=by omega
 unfold zN;simp only[show(((16:Nat):Int)<16)=False from eq_false (by decide),cE,reduceIte];refine⟨λvs h2=>∃i:Nat,i≤48∧vs=[kv,v,.slice (some ⟨r,0,none⟩) 64 64,.int .i64 ((i+16:Nat):Int)]∧aFE h2 (.slice (some ⟨r,0,none⟩) 64 64) (aAZ (nH b i)) [r]∧dD h h2,gQ 64 3,⟨0,by omega,rfl,O,u⟩,?_⟩;rintro ρ2 h2 ⟨i,hi,hvs,O2,u2⟩;simp only[iH,jA,lN,and_true] at hvs;obtain⟨w1,w2,w7,w9⟩:=hvs;simp only[w1,w2,w7,w9,iH,jA];by_cases hl:i<48
 ·refine bA8 hl O2 λh3 O3 u3=>⟨⟨i+1,by omega,rfl,O3,u2.fresh u3 fr⟩,?_⟩;simp only[gQ,sL,qB];omega
 obtain rfl:i=48:=by omega
 have hws:(nH b 48).length=64:=aLe b;rw[aS2 hws] at O2;unfold yE;have b0:jV PG (buildSlice fC 0 #[])=some (.cells #[] cL,λr=>pure (.slice (some ⟨r,0,none⟩) 0 0)):=by kernel_rfl
 simp only[show(((48+16:Nat):Int)<64)=False from eq_false (by decide),b0,cE,reduceIte];intro r3 hr3;refine fP ?_
 try rw[cW]
 have u3:dD h2 (h2.set r3 (.cells #[] cL)):=cQ.new hr3;have O3:aFE (h2.set r3 (.cells #[] cL)) (.slice (some ⟨r3,0,none⟩) 0 0) [] [r3]:=eM.lit (n:=0) (aDP.rows []) dL (by simp) (by decide) rfl;generalize h2.set r3 (.cells #[] cL)=h3 at *;have e3:=u2.trans u3;refine aQi O3 (SV.ext e3) (by simp[S8.l]) λx h4 F4 O4 u4 k4=>?_;rw[sK] at O4;have fr3:eK h [r3]:=eK.one (u2.none hr3);have e4:=e3.fresh u4 fr3;have SW:WSl h4 (.slice (some ⟨r,0,none⟩) 64 64) (nH b 48):=((O2.ext u3).upd u4 (λy hy hm=>by
  simp only[gB] at hy hm;subst hy;exact(O2.known y (by simp)) (by rw[hm];exact hr3))).slR
 refine⟨λvs h5=>∃(i:Nat) (x:Value),i≤64∧vs=[kv,v,.slice (some ⟨r,0,none⟩) 64 64,x,.int .i64 (i:Int)]∧WSl h5 x (aIP (nH b 48) s i).l∧dD h4 h5,gQ 64 4,⟨0,_,by omega,rfl,O4.slR,cQ.refl⟩,?_⟩;rintro ρ3 h5 ⟨i,x5,hi,hvs,S5,u5⟩;simp only[iH,jA,lN,and_true] at hvs;obtain⟨w1,w2,w7,w12,w13⟩:=hvs;simp only[w1,w2,w7,w12,w13,iH,jA];have e5:=e4.trans u5;by_cases hl:i<64
 ·refine bAp hws hl (SK.ext e5) (SW.ext u5) S5 λx' h6 S6 u6=>⟨⟨i+1,x',by omega,rfl,S6,u5.trans u6⟩,?_⟩;simp only[gQ,sL,qB];omega
 obtain rfl:i=64:=by omega
 unfold yD;simp only[show(((64:Nat):Int)<64)=False from eq_false (by decide),cE,reduceIte];have hmix:(s.add (aIP (nH b 48) s 64))=aKt s b:=rfl;generalize aIP (nH b 48) s 64=q at *;refine⟨λvs h6=>∃(i:Nat) (z:Value) (F:List Nat),i≤8∧vs=[v,x5,z,.int .i64 (i:Int)]∧aFE h6 z ((s.add q).l.take i) F∧eK h5 F∧dD h5 h6,gQ 8 3,⟨0,_,[],by omega,rfl,eM.nil,(λb hb=>by cases hb),cQ.refl⟩,?_⟩;rintro ρ4 h6 ⟨i,z,F6,hi,hvs,O6,f6,u6⟩;simp only[iH,jA,lN,and_true] at hvs;obtain⟨w2,w12,w22,w23⟩:=hvs;simp only[w2,w12,w22,w23,iH,jA];unfold aFi;by_cases hl:i<8
 ·have g1:((i:Int)<8)=True:=eq_true (by omega);have gi:=qN (i:=i) (by omega);obtain⟨a1,p1,c1⟩:=aFA ((SV.ext e5).ext u6) (s.l_get hl);obtain⟨a2,p2,c2⟩:=aFA (S5.ext u6) (q.l_get hl);simp only[g1,gi,p1,c1,p2,c2,aGN,aTb,cE,reduceIte];intro r7 hr7;refine fP ?_
  try rw[cW]
  have u7:dD h6 (h6.set r7 (.cells #[wv (s.l.getD i 0+q.l.getD i 0)] cL)):=cQ.new hr7;have S7:WSl (h6.set r7 (.cells #[wv (s.l.getD i 0+q.l.getD i 0)] cL)) (.slice (some ⟨r7,0,none⟩) 1 1) [s.l.getD i 0+q.l.getD i 0]:=(eM.lit (n:=1) (aDP.rows [_]) dL (by simp) (by decide) rfl).slR;generalize h6.set r7 (.cells #[wv (s.l.getD i 0+q.l.getD i 0)] cL)=h7 at *;refine aQi (O6.ext u7) S7 (by simp[S8.l];omega) λz' h8 F8 O8 u8 k8=>?_;rw[←aXv s q hl] at O8;have e7:=u6.trans u7;refine⟨⟨i+1,z',F8,by omega,rfl,O8,f6.grow e7 k8,e7.fresh u8 f6⟩,?_⟩;simp only[gQ,sL,qB];omega
 ·obtain rfl:i=8:=by omega
  have hfull:(s.add q).l.take 8=(aKt s b).l:=by rw[hmix];rfl
  rw[hfull] at O6;simp only[show(((8:Nat):Int)<8)=False from eq_false (by decide),cE,reduceIte];exact hk _ _ O6.slR (e5.trans u6)
end
section
open Go Bld
def aTy(m:Nat)(i:Nat):List Value->PH->Nat:=λvs _=>match vs[i]? with
 | some (.string s)=>m-s.size
 | _=>0
def aOB(n:Nat):Nat:=(119-n%64)%64
def aPh(n:Nat):aJ6 n=128::(List.replicate (aOB n) 0++be (n*8%18446744073709551616) 8):=rfl
def aZx{m j:Nat}(hj:j<8)(x:UInt8)(hx:x=UInt8.ofNat (m/256^j%256)):
  ((List.replicate (8-j) 0++(be m 8).drop (8-j)).map jQ).take (7-j)++[jQ x]++((List.replicate (8-j) 0++(be m 8).drop (8-j)).map jQ).drop (7-j+1)=(List.replicate (8-(j+1)) 0++(be m 8).drop (8-(j+1))).map jQ:=by
 have e1:(List.replicate (8-j) (0:UInt8)++(be m 8).drop (8-j)).take (7-j)=List.replicate (8-(j+1)) 0:=by
  rw[zLH (by simp;omega),List.take_replicate];congr 1;omega
 have e2:(List.replicate (8-j) (0:UInt8)++(be m 8).drop (8-j)).drop (7-j+1)=(be m 8).drop (8-j):=by
  rw[List.drop_append_of_le_length (by simp;omega)];have:(List.replicate (8-j) (0:UInt8)).drop (7-j+1)=[]:=aLf (by simp;omega);rw[this];rfl
 have e3:(be m 8).drop (8-(j+1))=x::(be m 8).drop (8-j):=by
  have hg:=aO4 m 8 (8-(j+1)) (by omega);have:8-1-(8-(j+1))=j:=by omega
  rw[this] at hg;obtain⟨hlt',hg'⟩:=zLA.1 hg;rw[aHG hlt',hg',hx];have:8-(j+1)+1=8-j:=by omega
  rw[this]
 rw[←aJo,←aL2,e1,e2,e3];simp
def aZS{h:PH}{l:List UInt8}(hl:l.length≤1000000000){k:cD}(hk:∀h',dD h h'->k (.string (tx (l++aJ6 l.length))) h'):aT PG aEF #[.string (tx l)] h k:=by
 apply xR.call;unfold xR;have w1:IntKind.u64.wrap (l.length:Int)=(l.length:Int):=gO (by omega) (by omega);have w2:IntKind.u64.wrap ((l.length:Int)*8)=((l.length*8:Nat):Int):=by rw[gO (by omega) (by omega)];omega
 simp only[bT.len,iF,aB1,w1,w2,aMX,cE,reduceIte];intro r hr;refine fP ?_
 try rw[cW]
 have u1:dD h (h.set r (.cells #[.int .u8 128] dU)):=cQ.new hr;have S1:fZ (h.set r (.cells #[.int .u8 128] dU)) 1 (.slice (some ⟨r,0,none⟩) 1 1) ([(128:UInt8)].map jQ):=(eM.lit (jQ.rows [128]) dL (by simp) (by decide) (by rfl)).slR;generalize h.set r (.cells #[.int .u8 128] dU)=h1 at *;have hcv:cG PG h1 (convert dI bT (.slice (some ⟨r,0,none⟩) 1 1))=some (.string (tx [128])):=aFH dI.und dU.und bT.und S1;have hadd:dH PG (binOp .add bT (.string (tx l)) (.string (tx [128])))=some (.string (tx (l++[128]))):=mG (by simp;omega);simp only[hcv,hadd,cE,reduceIte];have hz64:aOB l.length<64:=zLB _ (by decide);have hzd:aOB l.length=(119-l.length%64)%64:=rfl;generalize hpn:aOB l.length=z at *;refine⟨λvs h'=>∃j:Nat,j≤z∧vs=[.string (tx (l++128::List.replicate j 0)),.int .u64 ((l.length*8:Nat):Int)]∧dD h h',aTy (l.length+1+z) 0,⟨0,by omega,rfl,u1⟩,?_⟩;rintro ρ h' ⟨j,hj,hvs,u⟩;simp only[iH,jA,lN,and_true] at hvs;obtain⟨v0,v3⟩:=hvs;simp only[v0,v3,iH,jA];unfold aHH;have hlen:(l++128::List.replicate j (0:UInt8)).length=l.length+1+j:=by simp;omega
 have rm:dH PG (binOp .rem bR (.int .i64 ((l.length+1+j:Nat):Int)) (.int .i64 64))=some (.int .i64 (((l.length+1+j)%64:Nat):Int)):=by
  rw[aHO (by decide)];exact congrArg some (congrArg _ (Int.ofNat_tmod _ 64).symm)
 simp only[bT.len,iF,hlen,rm,kW,cE,reduceIte];by_cases hjz:j<z
 ·have g:((((l.length+1+j)%64:Nat):Int) !=56)=true:=by rw[bne_iff_ne];omega
  simp only[g,aMX,cE,reduceIte];intro r2 hr2;refine fP ?_
  try rw[cW]
  have u2:dD h' (h'.set r2 (.cells #[.int .u8 0] dU)):=cQ.new hr2;have S2:fZ (h'.set r2 (.cells #[.int .u8 0] dU)) 1 (.slice (some ⟨r2,0,none⟩) 1 1) ([(0:UInt8)].map jQ):=(eM.lit (jQ.rows [0]) dL (by simp) (by decide) (by rfl)).slR;generalize h'.set r2 (.cells #[.int .u8 0] dU)=h2 at *;have hcv2:cG PG h2 (convert dI bT (.slice (some ⟨r2,0,none⟩) 1 1))=some (.string (tx [0])):=aFH dI.und dU.und bT.und S2;have hadd2:dH PG (binOp .add bT (.string (tx (l++128::List.replicate j 0))) (.string (tx [0])))=some (.string (tx (l++128::List.replicate (j+1) 0))):=by
   rw[mG (by rw[hlen];simp;omega)];congr 3;rw[List.replicate_succ',nM];rfl
  simp only[hcv2,hadd2,cE,reduceIte];refine⟨⟨j+1,by omega,rfl,u.trans u2⟩,?_⟩;have hlen2:(l++128::List.replicate (j+1) (0:UInt8)).length=l.length+1+(j+1):=by simp;omega
  simp only[aTy,qB,iF,hlen,hlen2];omega
 ·obtain rfl:j=z:=by omega
  have g:((((l.length+1+j)%64:Nat):Int) !=56)=false:=by rw[bne_eq_false_iff_eq];omega
  obtain⟨zs',hm,hzz⟩:=aCq (P:=PG) (n:=8) dI.und dU.info dU.size dU.bytes dU.zero rfl (by decide) (by omega) (by omega);simp only[show((8:Nat):Int)=8 from rfl] at hm;simp only[g,hm,cE,reduceIte];intro r2 hr2;refine fP ?_
  try rw[cW]
  have u2:dD h' (h'.set r2 (.cells zs' dU (0,0))):=cQ.new hr2;have O2:eM (h'.set r2 (.cells zs' dU (0,0))) dU 1 (.slice (some ⟨r2,0,none⟩) 8 8) ((List.replicate (8-0) 0++(be (l.length*8) 8).drop (8-0)).map jQ) [r2]:=
   eM.lit (n:=8) (jQ.rows _) dL (by simp[jF]) (by decide) (by
    rw[hzz,aLf (by simp[jF])];rfl)
  generalize h'.set r2 (.cells zs' dU (0,0))=h2 at *;have fr:eK h [r2]:=eK.one (u.none hr2);have e2:=u.trans u2;generalize hm8:l.length*8=m at *;refine⟨λvs h3=>∃i:Nat,i≤8∧vs=[.string (tx (l++128::List.replicate j 0)),.int .u64 ((m/256^i:Nat):Int),.slice (some ⟨r2,0,none⟩) 8 8,.int .i64 (7-(i:Int))]∧eM h3 dU 1 (.slice (some ⟨r2,0,none⟩) 8 8) ((List.replicate (8-i) 0++(be m 8).drop (8-i)).map jQ) [r2]∧dD h h3,aPe 3,⟨0,by omega,by simp,O2,e2⟩,?_⟩;rintro ρ2 h3 ⟨i,hi,hvs,O3,u3⟩;simp only[iH,jA,lN,and_true] at hvs;obtain⟨w0,w3,w4,w5⟩:=hvs;simp only[w0,w3,w4,w5,iH,jA];unfold aG6;by_cases hi8:i<8
  ·have g1:((0:Int)≤7-(i:Int))=True:=eq_true (by omega);have g2:7-(i:Int)=((7-i:Nat):Int):=by omega
   have g3:IntKind.i64.wrap (7-(i:Int)-1)=7-((i+1:Nat):Int):=by rw[fH (by omega) (by omega)];omega
   have hle:m/256^i≤m:=Nat.div_le_self _ _;have r1:dH PG (binOp .rem cA (.int .u64 ((m/256^i:Nat):Int)) (.int .u64 256))=some (.int .u64 ((m/256^i%256:Nat):Int)):=by
    rw[aHO (by decide)];exact congrArg some (congrArg _ (Int.ofNat_tmod _ 256).symm)
   have r2':IntKind.u8.wrap ((m/256^i%256:Nat):Int)=((UInt8.ofNat (m/256^i%256)).toNat:Int):=by rw[aJV];simp
   have r3:dH PG (binOp .quo cA (.int .u64 ((m/256^i:Nat):Int)) (.int .u64 256))=some (.int .u64 ((m/256^(i+1):Nat):Int)):=by
    rw[aNB (by decide)];have:Int.tdiv ((m/256^i:Nat):Int) 256=((m/256^i/256:Nat):Int):=rfl;have hd2:m/256^i/256=m/256^(i+1):=by rw[Nat.div_div_eq_div_mul,zLR]
    rw[this,hd2,gO (Int.natCast_nonneg _) (by have:=Nat.div_le_self m (256^(i+1));omega)]
   obtain⟨a,q1,q2⟩:=O3.storeCell (t:=dI) (k:=.i64) (j:=7-i) dI.und dU.info dU.size dU.und rfl (by simp[jF];omega) (x:=.int .u8 ((UInt8.ofNat (m/256^i%256)).toNat:Int)) rfl;rw[←g2] at q1;simp only[g1,r1,aUa,r2',q1,cE,reduceIte];refine q2 _ λh4 O4 u4=>?_;have hp:=aZx (m:=m) hi8 _ rfl;simp only[jQ] at hp O4;rw[hp] at O4;simp only[r3,g3,cE,reduceIte];refine⟨⟨i+1,by omega,rfl,O4,u3.fresh u4 fr⟩,?_⟩;simp only[aPe,sL,qB];omega
  ·obtain rfl:i=8:=by omega
   have g1:((0:Int)≤7-((8:Nat):Int))=False:=eq_false (by omega);have O3':eM h3 dU 1 (.slice (some ⟨r2,0,none⟩) 8 8) ((be m 8).map jQ) [r2]:=O3;have hcv3:cG PG h3 (convert dI bT (.slice (some ⟨r2,0,none⟩) 8 8))=some (.string (tx (be m 8))):=aFH dI.und dU.und bT.und O3'.slR;have hadd3:dH PG (binOp .add bT (.string (tx (l++128::List.replicate j 0))) (.string (tx (be m 8))))=some (.string (tx ((l++128::List.replicate j 0)++be m 8))):=mG (by rw[hlen,jF];omega);simp only[g1,hcv3,hadd3,cE,reduceIte];have hfin:=hk h3 u3;rw[aPh,hpn,hm8,aFn (by omega)] at hfin;rw[nM];exact hfin
structure aAo(h:PH)(b m:Nat)(A:List Tx)(c:Bool)(K:List Nat):Prop where
 here:∃(kv hv:Value) (l:List (Tx×Tx)),h b=some (.cells #[kv,hv,.map (some m),.bool c] gA (0,0))∧WSl h kv kT∧WSl h hv S0.l∧aDG kv K∧aDG hv K∧jR tB h m (l.map λp=>(p.1,tB p.2))∧(c=false->∀a∈A,(l.find? λp=>decide (sY a=p.1)).map (·.2)=some a)
 ne:b≠m
 out:∀x∈K,x≠b∧x≠m∧h x≠none
def aAo.upd{h h':PH}{b m:Nat}{A:List Tx}{c:Bool}{K G:List Nat}(H:aAo h b m A c K)(u:cQ G h h')(hd:∀x∈b::m::K,x∉G):aAo h' b m A c K:=by
 obtain⟨kv,hv,l,h1,h2,h3,h4,h5,h6,h7⟩:=H.here;refine⟨⟨kv,hv,l,u.get h1 (hd _ (by simp)),fZ.upd h2 u λa n c' e=>hd _ (by simp[h4 a n c' e]),fZ.upd h3 u λa n c' e=>hd _ (by simp[h5 a n c' e]),h4,h5,jR.upd h6 u (hd _ (by simp)),h7⟩,H.ne,λx hx=>⟨(H.out x hx).1,(H.out x hx).2.1,?_⟩⟩;obtain⟨o,ho⟩:=aH1.1 (H.out x hx).2.2;rw[u.get ho (hd x (by simp[hx]))];simp
def aAo.ext{h h':PH}{b m:Nat}{A:List Tx}{c:Bool}{K:List Nat}(H:aAo h b m A c K)(u:dD h h'):aAo h' b m A c K:=H.upd u (by simp)
def aAo.known{h:PH}{b m:Nat}{A:List Tx}{c:Bool}{K:List Nat}(H:aAo h b m A c K):∀x∈b::m::K,h x≠none:=by
 obtain⟨kv,hv,l,h1,h2,h3,h4,h5,h6,h7⟩:=H.here;intro x hx;simp only[gU] at hx;rcases hx with rfl|rfl|hx
 ·rw[h1];simp
 ·exact jR.known h6
 ·exact(H.out x hx).2.2
def aTP(s:S8):qW s []=(s,[]):=aIc (by decide)
def aVO{h:PH}{b m:Nat}{A:List Tx}{c:Bool}{K:List Nat}(H:aAo h b m A c K){s:Tx}(hs:s.length≤100000000){k:cD}(hk:∀h',dD h h'->k (.string (tx (sY s))) h'):
  aT PG yW #[pT b 0,.string (tx s)] h k:=by
 apply oH.call;unfold oH;obtain⟨kv,hv,l,h1,h2,h3,-⟩:=H.here;refine aZS (by omega) λh4 u4=>?_;have hb:=u4.get h1;have icv:fW hv=true:=by obtain⟨_,_,e,_⟩:=h3.here;rw[e];rfl
 have c1:dB h4 ⟨b,0+1,none⟩=some hv:=by simp[dB,hb]
 simp only[gA.f1,fC.load,c1,cE,reduceIte];have hP:∃n,(s++aJ6 s.length).length=64*n:=by
  have hz:aOB s.length=(119-s.length%64)%64:=rfl;refine⟨(s.length+9+aOB s.length)/64,?_⟩;rw[aPh];simp only[jM,qE,aLX,jF];omega
 have hshow:aJT (qW S0 (s++aJ6 s.length)).1=sY s:=rfl;have hplen:(s++aJ6 s.length).length≤100000200:=by
  have hz:aOB s.length<64:=zLB _ (by decide);rw[aPh];simp only[jM,qE,aLX,jF];omega
 generalize s++aJ6 s.length=p at *;obtain⟨n,hn⟩:=hP;refine⟨λvs h'=>∃(i:Nat) (v:Value) (t:S8),i≤n∧vs=[pT b 0,.string (tx p),v,.int .i64 ((64*i:Nat):Int)]∧WSl h' v t.l∧qW t (p.drop (64*i))=qW S0 p∧dD h h',gQ (64*n) 3,⟨0,hv,S0,by omega,rfl,h3.ext u4,by simp,u4⟩,?_⟩;rintro ρ h' ⟨i,v,t,hi,hvs,St,hab,u⟩;simp only[iH,jA,lN,and_true] at hvs;obtain⟨v0,v5,v6,v7⟩:=hvs;simp only[v0,v5,v6,v7,iH,jA];unfold aDD;have hb':=u.get h1;by_cases hin:i<n
 ·have g1:(((64*i:Nat):Int)<(p.length:Int))=True:=eq_true (by omega);have g2:IntKind.i64.wrap (((64*i:Nat):Int)+64)=((64*(i+1):Nat):Int):=by rw[fH (by omega) (by omega)];omega
  have c0:dB h' ⟨b,0,none⟩=some kv:=by simp[dB,hb']
  have ec:dH PG (Instr.sliceAt bT (.string (tx p)) (some (.int .i64 ((64*i:Nat):Int))) (some (.int .i64 ((64*(i+1):Nat):Int))) none)=some (.string (tx ((p.take (64*(i+1))).drop (64*i)))):=
   aId bT.und (.inr ⟨_,rfl⟩) (.inr ⟨_,rfl⟩) (by omega) (by omega)
  simp only[bT.len,iF,g1,g2,ec,gA.f0,fC.load,c0,cE,reduceIte];refine aWA (by rw[pK,nI];omega) (h2.ext u) St λh5 w S5 u5=>?_;refine⟨⟨i+1,w,_,by omega,rfl,S5,?_,u.trans u5⟩,?_⟩
  ·rw[←hab]
   conv=>rhs;rw[aIX (by rw[pK];omega)]
   rw[aGf,zLy];congr 2
   ·congr 2;omega
  ·simp only[gQ,sL,qB];omega
 ·obtain rfl:i=n:=by omega
  have g1:(((64*i:Nat):Int)<(p.length:Int))=False:=eq_false (by omega);simp only[bT.len,iF,g1,cE,reduceIte];rw[aLf (by omega),aTP] at hab;rw[←hshow,←hab] at hk;refine⟨λvs h2=>∃(j:Nat) (z:Value) (F:List Nat),j≤8∧vs=[v,z,.int .i64 (j:Int)]∧eM h2 dU 1 z (((t.l.take j).flatMap wb).map jQ) F∧eK h' F∧dD h' h2,gQ 8 2,⟨0,_,[],by omega,rfl,eM.nil,(λb hb=>by cases hb),cQ.refl⟩,?_⟩;rintro ρ2 h2' ⟨j,z,F,hj,hvs,O,fF,u2⟩;simp only[iH,jA,lN,and_true] at hvs;obtain⟨w6,w8',w9⟩:=hvs;simp only[w6,w8',w9,iH,jA];unfold aC3;by_cases hj8:j<8
  ·have e1:((j:Int)<8)=True:=eq_true (by omega);have e2:=qN (i:=j) (by omega);obtain⟨a1,p1,c1⟩:=aFA (St.ext u2) (t.l_get hj8);have s24':dH PG (binOp .shr cL (wv (t.l.getD j 0)) (.int .u64 24))=_:=aKg (n:=24) (by decide);have s16':dH PG (binOp .shr cL (wv (t.l.getD j 0)) (.int .u64 16))=_:=aKg (n:=16) (by decide);have s8':dH PG (binOp .shr cL (wv (t.l.getD j 0)) (.int .u64 8))=_:=aKg (n:=8) (by decide);have b4:∀(a b c d:UInt8),jV PG (buildSlice dI 4 #[(0,.int .u8 (a.toNat:Int)),(1,.int .u8 (b.toNat:Int)),(2,.int .u8 (c.toNat:Int)),(3,.int .u8 (d.toNat:Int))])=some (.cells #[.int .u8 (a.toNat:Int),.int .u8 (b.toNat:Int),.int .u8 (c.toNat:Int),.int .u8 (d.toNat:Int)] dU,λr=>pure (.slice (some ⟨r,0,none⟩) 4 4)):=λa b c d=>by kernel_rfl
   simp only[e1,p1,c1,s24',s16',s8',aU6,b4,cE,reduceIte];intro r hr;refine fP ?_
   try rw[cW]
   have hdt:=aRp t hj8;generalize hx:t.l.getD j 0=x at *;have u3:dD h2' (h2'.set r (.cells #[.int .u8 ((UInt8.ofNat (x>>>24).toNat).toNat:Int),.int .u8 ((UInt8.ofNat (x>>>16).toNat).toNat:Int),.int .u8 ((UInt8.ofNat (x>>>8).toNat).toNat:Int),.int .u8 ((UInt8.ofNat x.toNat).toNat:Int)] dU)):=cQ.new hr;have S3:fZ (h2'.set r (.cells #[.int .u8 ((UInt8.ofNat (x>>>24).toNat).toNat:Int),.int .u8 ((UInt8.ofNat (x>>>16).toNat).toNat:Int),.int .u8 ((UInt8.ofNat (x>>>8).toNat).toNat:Int),.int .u8 ((UInt8.ofNat x.toNat).toNat:Int)] dU)) 1 (.slice (some ⟨r,0,none⟩) 4 4) ((wb x).map jQ):=(eM.lit (n:=4) (jQ.rows (wb x)) dL (by rfl) (by decide) rfl).slR;generalize h2'.set r (.cells #[.int .u8 ((UInt8.ofNat (x>>>24).toNat).toNat:Int),.int .u8 ((UInt8.ofNat (x>>>16).toNat).toNat:Int),.int .u8 ((UInt8.ofNat (x>>>8).toNat).toNat:Int),.int .u8 ((UInt8.ofNat x.toNat).toNat:Int)] dU)=h3' at *;refine jK dI.und dI.und dU.info dU.size dU.bytes dU.zero rfl (by decide) (O.ext u3) S3 (jQ.isCell _) (by
    have:=aSh t (show j≤8 by omega);simp only[iV,aT7];omega) ?_
   intro z' h4' F' O4 u4' k4 _;rw[←pO,←hdt] at O4;have e3:=u2.trans u3;simp only[e2,cE,reduceIte];refine⟨⟨j+1,z',F',by omega,rfl,O4,fF.grow e3 k4,e3.fresh u4' fF⟩,?_⟩;simp only[gQ,sL,qB];omega
  ·obtain rfl:j=8:=by omega
   have hfull:(t.l.take 8).flatMap wb=aJT t:=rfl;rw[hfull] at O;have hcv:cG PG h2' (convert dI bT z)=some (.string (tx (aJT t))):=aFH dI.und dU.und bT.und O.slR;simp only[show(((8:Nat):Int)<8)=False from eq_false (by decide),hcv,cE,reduceIte];exact hk _ (u.trans u2)
def aWh(a b:Option Addr)(n c n' c' m:Nat):dH PG (build gA #[(0,.slice a n c),(1,.slice b n' c'),(2,.map (some m))])=some (.agg #[.slice a n c,.slice b n' c',.map (some m),.bool false]):=by kernel_rfl
def aX5{h:PH}{k:cD}(hk:∀h' b m K,aAo h' b m [] false K->eK h (b::m::K)->dD h h'->k (pT b 0) h'):aT PG aEC #[] h k:=by
 apply aDk.call;unfold aDk;refine aRo λh1 v w F G OF OG fF fG u1=>?_;simp only[aFX,cE,reduceIte];intro m hm;refine fP ?_
 try rw[cW]
 have u2:dD h1 (h1.set m (.map #[] 0)):=cQ.new hm;have M2:jR tB (h1.set m (.map #[] 0)) m []:=jR.new;generalize h1.set m (.map #[] 0)=h2 at *;obtain⟨av,cv,ev,-⟩:=OF.slR.here;obtain⟨aw,cw,ew,-⟩:=OG.slR.here;have hb:dH PG (build gA #[(0,v),(1,w),(2,.map (some m))])=some (.agg #[v,w,.map (some m),.bool false]):=by rw[ev,ew];exact aWh ..
 simp only[hb,cE,reduceIte];intro b hbn
 try rw[cW]
 have ec:Value.cells (.agg #[v,w,.map (some m),.bool false])= #[v,w,.map (some m),.bool false]:=rfl;rw[ec];have u3:dD h2 (h2.set b (.cells #[v,w,.map (some m),.bool false] gA)):=cQ.new hbn;have a3:(h2.set b (.cells #[v,w,.map (some m),.bool false] gA)) b=some (.cells #[v,w,.map (some m),.bool false] gA (0,0)):=dL;generalize h2.set b (.cells #[v,w,.map (some m),.bool false] gA)=h3 at *;have e12:=u1.trans u2;have hmb:b≠m:=λe=>by subst e;exact M2.known hbn
 have hb1:h1 b=none:=u2.none hbn;refine hk h3 b m (F++G) ⟨⟨v,w,[],a3,((OF.ext u2).ext u3).slR,((OG.ext u2).ext u3).slR,λa n c e=>by simp[aGn OF a n c e],λa n c e=>by simp[aGn OG a n c e],M2.ext u3,λ_ a ha=>by cases ha⟩,hmb,λx hx=>?_⟩ (λx hx=>?_) (e12.trans u3)
 ·have hk1:h1 x≠none:=by
   rcases kB.1 hx with hx|hx
   ·exact OF.known x hx
   ·exact OG.known x hx
  refine⟨λe=>hk1 (by rw[e];exact hb1),λe=>hk1 (by rw[e];exact hm),λe=>hk1 ((u2.trans u3).none e)⟩
 ·simp only[gU,kB] at hx;rcases hx with rfl|rfl|hx|hx
  ·exact e12.none hbn
  ·exact u1.none hm
  ·exact fF x hx
  ·exact fG x hx
def aLY{h:PH}{b m:Nat}{A:List Tx}{c:Bool}{K:List Nat}(H:aAo h b m A c K){s:Tx}(hs:s.length≤100000000){k:cD}
  (hk:∀h' c',aAo h' b m (s::A) c' K->(c=true->c'=true)->cQ [b,m] h h'->k (.string (tx (sY s))) h'):aT PG kL #[pT b 0,.string (tx s)] h k:=by
 apply zT.call;unfold zT;refine aVO H hs λh1 u1=>?_;have H1:=H.ext u1;obtain⟨kv,hv,l,h1b,h2,h3,h4,h5,h6,h7⟩:=H1.here;have c2:dB h1 ⟨b,0+2,none⟩=some (.map (some m)):=by simp[dB,h1b]
 have c3:dB h1 ⟨b,0+3,none⟩=some (.bool c):=by simp[dB,h1b]
 have hlook:cG PG h1 (Instr.lookup dZ (.map (some m)) (.string (tx (sY s))) true)=some (.tuple #[.string (tx (((l.find? λp=>decide (sY s=p.1)).map (·.2)).getD [])),.bool ((l.find? λp=>decide (sY s=p.1)).map (·.2)).isSome]):=by
  have:=aHV aJk dZ.und bT.info bT.zero h6 (sY s) true;have e:aBH (l.map λp=>(p.1,tB p.2)) (sY s)=((l.find? λp=>decide (sY s=p.1)).map (·.2)).map tB:=by
   unfold aBH;rw[List.find?_map,Option.map_map,Option.map_map];rfl
  rw[e] at this;rw[show(.string (tx (sY s)):Value)=tB (sY s) from rfl,this];cases (l.find? λp=>decide (sY s=p.1)).map (·.2)<;>rfl
 generalize hw:(l.find? λp=>decide (sY s=p.1)).map (·.2)=was at *;have fin:∀c':Bool,(c=true->c'=true)->(c'=false->c=false∧∀x,was=some x->x=s)->dC PG (dT gT (pT b (0+3)) (.bool c')) h1 λv35 h36=>
   dY (dB h36 ⟨b,0+2,none⟩) λv39=>
   dC PG (aFV dZ v39 (.string (tx (sY s))) (.string (tx s))) h36 λv40 h41=>k (.string (tx (sY s))) h41:=by
  intro c' hc1 hc2;refine iT gT.und rfl h1b (by simp) rfl gT.info gT.size ?_;have es:(#[kv,hv,Value.map (some m),Value.bool c]:Array Value).setIfInBounds (0+3) (.bool c')= #[kv,hv,.map (some m),.bool c']:=rfl;rw[es];have u2:cQ [b] h1 (h1.set b (.cells #[kv,hv,.map (some m),.bool c'] gA (0,0))):=cQ.set (by simp);have b2:(h1.set b (.cells #[kv,hv,.map (some m),.bool c'] gA (0,0))) b=some (.cells #[kv,hv,.map (some m),.bool c'] gA (0,0)):=dL;generalize h1.set b (.cells #[kv,hv,.map (some m),.bool c'] gA (0,0))=h2' at *;have c2':dB h2' ⟨b,0+2,none⟩=some (.map (some m)):=by simp[dB,b2]
  simp only[c2',cE,reduceIte];have M2:=h6.upd u2 (by simpa using H.ne.symm);refine aKy aJk dZ.und M2 (sY s) (.string (tx s)) λh3' M3 u3=>?_;have hne:=H.ne;have hu1:cQ [b,m] h1 h3':=by
   have t1:cQ [b,m] h1 h2':=u2.mono λx hx=>.inl (by simp only[gB] at hx;simp[hx]);have t2:cQ [b,m] h2' h3':=u3.mono λx hx=>.inl (by simp only[gB] at hx;simp[hx]);exact t1.trans t2
  have hu:cQ [b,m] h h3':=u1.upd.trans hu1;have hK:∀x∈K,x∉[b,m]:=λx hx hm=>by
   have:=H1.out x hx;simp only[gU,lH,or_false] at hm;rcases hm with e|e
   ·exact this.1 e
   ·exact this.2.1 e
  obtain⟨l',e1,e2⟩:∃l':List (Tx×Tx),aDv (l.map λp=>(p.1,tB p.2)) (sY s) (.string (tx s))=l'.map (λp=>(p.1,tB p.2))∧∀d,(l'.find? λp=>decide (d=p.1)).map (·.2)=if d=sY s then some s else(l.find? λp=>decide (d=p.1)).map (·.2):=by
   have hgen:∃l':List (Tx×Tx),aDv (l.map λp=>(p.1,tB p.2)) (sY s) (.string (tx s))=l'.map (λp=>(p.1,tB p.2)):=by
    unfold aDv;split
    ·refine⟨l.map λp=>if p.1=sY s then(sY s,s) else p,?_⟩;rw[zL4,zL4];apply zL5;intro p _;show(if p.1=sY s then(sY s,Value.string (tx s)) else(p.1,tB p.2))=(λp:Tx×Tx=>(p.1,tB p.2)) (if p.1=sY s then(sY s,s) else p);split<;>rfl
    ·exact⟨l++[(sY s,s)],by rw[pO];rfl⟩
   obtain⟨l',e⟩:=hgen;refine⟨l',e,λd=>?_⟩;have hg:=aWQ (l.map λp=>(p.1,tB p.2)) (sY s) d (.string (tx s));rw[e] at hg;have eg:∀L:List (Tx×Tx),aBH (L.map λp=>(p.1,tB p.2)) d=((L.find? λp=>decide (d=p.1)).map (·.2)).map tB:=λL=>by
    unfold aBH;rw[List.find?_map,Option.map_map,Option.map_map];rfl
   rw[eg,eg] at hg;have hinj:∀{x y:Option Tx},x.map tB=y.map tB->x=y:=fun {x y} hxy=>by
    cases x<;>cases y<;>simp[tB] at hxy ⊢;exact aMe hxy
   apply hinj;rw[hg];split<;>rfl
  rw[e1] at M3;refine hk h3' c' ⟨⟨kv,hv,l',u3.get b2 (by simpa using hne),h2.upd hu1 (λa n c e=>hK _ (h4 a n c e)),h3.upd hu1 (λa n c e=>hK _ (h5 a n c e)),h4,h5,M3,λhcf a ha=>?_⟩,hne,λx hx=>?_⟩ hc1 hu
  ·obtain⟨hcc,hws⟩:=hc2 hcf;rw[e2];rcases gU.1 ha with rfl|ha
   ·rw[if_pos rfl]
   ·have hold:=h7 hcc a ha;by_cases hd:sY a=sY s
    ·rw[if_pos hd];rw[hd,hw] at hold;rw[hws a hold]
    ·rw[if_neg hd];exact hold
  ·have:=H1.out x hx;refine⟨this.1,this.2.1,?_⟩;obtain⟨o,ho⟩:=aH1.1 this.2.2;rw[hu1.get ho (hK x hx)];simp
 have yU:yV undef=none:=rfl;have gN:∀{X:(Value->PH->Prop)->Prop} {h:PH} {kv:cD} {w:Bool},mZ none w X h kv=kv undef h:=fun {X h kv w}=>by simp[mZ]
 simp only[gA.f2,gA.f3,dZ.load,gT.load,c2,c3,hlook,cE,reduceIte];cases c with
 | true=>
  simp only[yU,gN,cE,reduceIte];exact fin true (λ_=>rfl) (λh=>by cases h)
 | false=>
  cases was with
  | none=>
   simp only[zLv,yU,gN,cE,reduceIte];exact fin false (λh=>h) (λ_=>⟨rfl,λx hx=>by cases hx⟩)
  | some x=>
   simp only[aKs,aIu,yU,gN,aGC,cE,reduceIte];refine fin (!decide (x=s)) (λh=>by cases h) λhf=>⟨rfl,λy hy=>?_⟩;obtain rfl:=aLd hy;simpa using hf
def aJK(p:Pr):Tx:=0::UInt8.ofNat (p.k.length%256)::(p.k++UInt8.ofNat (p.v.length%256)::p.v)
def aFG(l r:Tx):Tx:=1::(l++r)
def aPR(n:Nat)(d:Tx):Tx:=2::(be n 8++d)
def aNv(l r:Tx):aA5 l r=sY (aFG l r):=rfl
def aJl(l:List Pr):List Tx:=if h:2≤l.length then aFG (qH (l.take (eO l.length))) (qH (l.drop (eO l.length)))::(aJl (l.drop (eO l.length))++aJl (l.take (eO l.length))) else [aJK (l.headD ⟨[],[]⟩)]
termination_by l.length
decreasing_by
 ·have:=mH h;simp;omega
 ·have:=mH h;simp;omega
def aGH(l:List Pr):List Tx:=aPR l.length (if l=[] then [] else qH l)::(if l=[] then [] else aJl l)
def tx0:({data:=#[0]}:ByteArray)=tx [0]:=rfl
def tx1:({data:=#[1]}:ByteArray)=tx [1]:=rfl
def tx2:({data:=#[2]}:ByteArray)=tx [2]:=rfl
def be1(n:Nat):be n 1=[UInt8.ofNat (n%256)]:=rfl
def aRF{h:PH}{b m:Nat}{A:List Tx}{c:Bool}{K:List Nat}(H:aAo h b m A c K){p:Pr}(hl:p.k.length+p.v.length≤10000000){k:cD}
  (hk:∀h' c',aAo h' b m (aJK p::A) c' K->(c=true->c'=true)->cQ [b,m] h h'->k (.string (tx (aGG p))) h'):aT PG uT #[pT b 0,p.val] h k:=by
 apply vU.call;unfold vU;rw[aNO];intro r hr
 try rw[cW]
 have u1:dD h (h.set r (.cells #[.string (tx p.k),.string (tx p.v)] cM)):=cQ.new hr;have a1:(h.set r (.cells #[.string (tx p.k),.string (tx p.v)] cM)) r=some (.cells #[.string (tx p.k),.string (tx p.v)] cM (0,0)):=dL;generalize h.set r (.cells #[.string (tx p.k),.string (tx p.v)] cM)=h1 at *;have c0:dB h1 ⟨r,0,none⟩=some (.string (tx p.k)):=by simp[dB,a1]
 have c1:dB h1 ⟨r,0+1,none⟩=some (.string (tx p.v)):=by simp[dB,a1]
 have w1:IntKind.u64.wrap (p.k.length:Int)=(p.k.length:Int):=gO (by omega) (by omega);have w2:IntKind.u64.wrap (p.v.length:Int)=(p.v.length:Int):=gO (by omega) (by omega);simp only[cM.f0,cM.f1,bT.load,c0,c1,bT.len,iF,aB1,w1,w2,cE,reduceIte];refine tH (n:=p.k.length) (c:=1) (by omega) (by decide) λh2 u2=>?_;have a2:=u2.get a1;have c0':dB h2 ⟨r,0,none⟩=some (.string (tx p.k)):=by simp[dB,a2]
 have c1':dB h2 ⟨r,0+1,none⟩=some (.string (tx p.v)):=by simp[dB,a2]
 have s1:dH PG (binOp .add bT (.string (tx [0])) (.string (tx (be p.k.length 1))))=some (.string (tx ([0]++be p.k.length 1))):=mG (by rw[jF];decide);have s2:dH PG (binOp .add bT (.string (tx ([0]++be p.k.length 1))) (.string (tx p.k)))=some (.string (tx (([0]++be p.k.length 1)++p.k))):=mG (by simp[jF];omega);simp only[bT.load,c0',c1',true_and,tx0,s1,s2,cE,reduceIte];refine tH (n:=p.v.length) (c:=1) (by omega) (by decide) λh3 u3=>?_;have a3:=u3.get a2;have c0'':dB h3 ⟨r,0,none⟩=some (.string (tx p.k)):=by simp[dB,a3]
 have c1'':dB h3 ⟨r,0+1,none⟩=some (.string (tx p.v)):=by simp[dB,a3]
 have s3:dH PG (binOp .add bT (.string (tx (([0]++be p.k.length 1)++p.k))) (.string (tx (be p.v.length 1))))=some (.string (tx ((([0]++be p.k.length 1)++p.k)++be p.v.length 1))):=mG (by simp[jF];omega);have s4:dH PG (binOp .add bT (.string (tx ((([0]++be p.k.length 1)++p.k)++be p.v.length 1))) (.string (tx p.v)))=some (.string (tx (aJK p))):=by
  rw[mG (by simp[jF];omega)];congr 3;simp[aJK,be1]
 have s1':=s1;simp only[bT.load,c0'',c1'',true_and,s3,s4,cE,reduceIte];have u:=(u1.trans u2).trans u3;refine aLY (H.ext u) (by simp[aJK];omega) λh' c' H' hc u'=>?_;exact hk h' c' H' hc (u.upd.trans u')
def aVp{n j:Nat}(h2:2≤n)(h1:2^j<n)(h3:¬2^j*2<n):eO n=2^j:=by
 unfold eO;congr 1;refine(Nat.log2_eq_iff (by omega)).2 ⟨by omega,?_⟩;rw[zLR];omega
def aKC{h:PH}{n:Nat}(h2:2≤n)(hn:n≤65536){k:cD}(hk:k (.int .i64 ((eO n:Nat):Int)) h):aT PG rK #[.int .i64 (n:Int)] h k:=by
 apply aCM.call;unfold aCM;refine⟨λvs h'=>∃j:Nat,2^j<n∧vs=[.int .i64 (n:Int),.int .i64 ((2^j:Nat):Int)]∧h'=h,gQ n 1,⟨0,by omega,rfl,rfl⟩,?_⟩;rintro ρ h' ⟨j,hj,hvs,rfl⟩;simp only[iH,jA,lN,and_true] at hvs;obtain⟨v0,v3⟩:=hvs;simp only[v0,v3,iH,jA];unfold aG8;have hp:0<2^j:=Nat.pow_pos (by decide);have e1:IntKind.i64.wrap (((2^j:Nat):Int)*2)=((2^(j+1):Nat):Int):=by rw[fH (by omega) (by omega),zLR];omega
 by_cases hl:2^(j+1)<n
 ·have g1:(((2^(j+1):Nat):Int)<(n:Int))=True:=eq_true (by omega);simp only[e1,g1,cE,reduceIte];refine⟨⟨j+1,hl,rfl,by trivial⟩,?_⟩;simp only[gQ,sL,qB];rw[zLR];rw[zLR] at hl;omega
 ·have g1:(((2^(j+1):Nat):Int)<(n:Int))=False:=eq_false (by omega);simp only[e1,g1,cE,reduceIte];rw[aVp h2 hj (by rw[zLR] at hl;exact hl)] at hk;exact hk
def aJF:∀(n:Nat) {h:PH} {v:Value} {l:List Pr} {b m:Nat} {A:List Tx} {c:Bool} {K:List Nat},l.length≤n->l≠[]->l.length≤65536->aAo h b m A c K->fZ h 2 v (l.map Pr.cells)->(∀a n c,v= .slice (some a) n c->a.block∉[b,m])->aAv l->∀{k:cD},
  (∀h' c',aAo h' b m (aJl l++A) c' K->(c=true->c'=true)->cQ [b,m] h h'->k (.string (tx (qH l))) h')->aT PG mQ #[pT b 0,v] h k
 | 0,_,_,l,_,_,_,_,_,h0,hne,_,_,_,_,_,_,_=>by
  have:l=[]:=zLO (by omega);exact absurd this hne
 | n+1,h,v,l,b,m,A,c,K,hn,hne,hl,H,S,hv,hs,k,hk=>by
  apply sA.call;unfold sA;have lv:=S.len (t':=bR) cJ.und;rw[iV] at lv;have hpos:0<l.length:=aIA.2 hne;by_cases h1:l.length=1
  ·have e1:((l.length:Int)==1)=true:=by simp[h1]
   obtain⟨p,hp⟩:=List.length_eq_one_iff.1 h1;obtain⟨x,o,e2,-,-,e3⟩:=S.pair (j:=0) (p:=p) (by rw[hp];rfl);rw[show((0:Nat):Int)=0 from rfl] at e2;simp only[lv,e1,e2,e3,cE,reduceIte];have hd:qH l=aGG p:=by rw[qH,dif_neg (by omega),hp];rfl
   have ha:aJl l=[aJK p]:=by rw[aJl,dif_neg (by omega),hp];rfl
   rw[hd,ha] at hk;refine aRF H (by have:=hs p (by rw[hp];simp);omega) λh' c' H' hc u=>hk h' c' H' hc u
  ·have e1:((l.length:Int)==1)=false:=by simp;omega
   have h2:2≤l.length:=by omega
   simp only[lv,e1,cE,reduceIte];refine aKC h2 hl ?_;have hlt:=mH h2;obtain⟨v1,s1,t1,x1⟩:=S.cut (lo:=none) (hi:=some (.int .i64 ((eO l.length:Nat):Int))) (l:=0) (m:=eO l.length) cJ.und cM.info cM.size (.inl ⟨rfl,rfl⟩) (.inr ⟨_,rfl⟩) (by omega) (by simp;omega);obtain⟨v2,s2,t2,x2⟩:=S.cut (lo:=some (.int .i64 ((eO l.length:Nat):Int))) (hi:=none) (l:=eO l.length) (m:=l.length) cJ.und cM.info cM.size (.inr ⟨_,rfl⟩) (.inl ⟨rfl,by simp⟩) (by omega) (by simp);rw[zLb,←aJo] at t1;rw[←aJo,←aL2,zLJ] at t2;have hv1:∀a n c,v1= .slice (some a) n c->a.block∉[b,m]:=λa n c e=>by
    obtain⟨x0,n0,c0,e0,e5⟩:=x1 a n c e;rw[e5];exact hv _ _ _ e0
   have hv2:∀a n c,v2= .slice (some a) n c->a.block∉[b,m]:=λa n c e=>by
    obtain⟨x0,n0,c0,e0,e5⟩:=x2 a n c e;rw[e5];exact hv _ _ _ e0
   simp only[s1,s2,cE,reduceIte];have hd:qH l=aA5 (qH (l.take (eO l.length))) (qH (l.drop (eO l.length))):=by rw[qH,dif_pos h2]
   have ha:aJl l=aFG (qH (l.take (eO l.length))) (qH (l.drop (eO l.length)))::(aJl (l.drop (eO l.length))++aJl (l.take (eO l.length))):=by rw[aJl,dif_pos h2]
   rw[hd,ha] at hk;refine aJF n (by simp;omega) (aKr (by rw[nI];omega)) (by simp;omega) H t1 hv1 (λp hp=>hs p (aLJ hp)) λh1 c1 H1 hc1 u1=>?_;have a1:dH PG (binOp .add bT (.string (tx [1])) (.string (tx (qH (l.take (eO l.length))))))=some (.string (tx ([1]++qH (l.take (eO l.length))))):=mG (by rw[aCB];decide);simp only[tx1,a1,cE,reduceIte];refine aJF n (by simp;omega) (aKr (by rw[pK];omega)) (by simp;omega) H1 (t2.upd u1 hv2) hv2 (λp hp=>hs p (aN3 hp)) λh2 c2 H2 hc2 u2=>?_;have a2:dH PG (binOp .add bT (.string (tx ([1]++qH (l.take (eO l.length))))) (.string (tx (qH (l.drop (eO l.length))))))=some (.string (tx (aFG (qH (l.take (eO l.length))) (qH (l.drop (eO l.length)))))):=by
    rw[mG (by rw[jM,aCB,aCB];decide)];rfl
   simp only[a2,cE,reduceIte];refine aLY H2 (by simp[aFG,aCB]) λh3 c3 H3 hc3 u3=>?_;rw[aNv] at hk;refine hk h3 c3 ?_ (λh=>hc3 (hc2 (hc1 h))) ((u1.trans u2).trans u3);rw[zLW,nM];exact H3
def aPE{h:PH}{b m:Nat}{A:List Tx}{c:Bool}{K:List Nat}(H:aAo h b m A c K){n:Nat}{d:Tx}(hn:n≤1000000)(hd:d.length≤1000000){k:cD}
  (hk:∀h' c',aAo h' b m (aPR n d::A) c' K->(c=true->c'=true)->cQ [b,m] h h'->k (.string (tx (aJ4 n d))) h'):aT PG sE #[pT b 0,.int .i64 (n:Int),.string (tx d)] h k:=by
 apply aDc.call;unfold aDc;have g1:((n:Int)<0)=False:=eq_false (by omega);have w1:IntKind.u64.wrap (n:Int)=(n:Int):=gO (by omega) (by omega);simp only[g1,cE,reduceIte];unfold aEN;simp only[aB1,w1,cE,reduceIte];refine tH (n:=n) (c:=8) (by omega) (by decide) λh1 u1=>?_;have a1:dH PG (binOp .add bT (.string (tx [2])) (.string (tx (be n 8))))=some (.string (tx ([2]++be n 8))):=mG (by rw[jF];decide);have a2:dH PG (binOp .add bT (.string (tx ([2]++be n 8))) (.string (tx d)))=some (.string (tx (aPR n d))):=by
  rw[mG (by simp[jF];omega)];congr 3
 simp only[tx2,a1,a2,cE,reduceIte];refine aLY (H.ext u1) (by simp[aPR,jF];omega) λh' c' H' hc u'=>?_;exact hk h' c' H' hc (u1.upd.trans u')
def aQ4{h:PH}{b m:Nat}{A:List Tx}{c:Bool}{K:List Nat}(H:aAo h b m A c K){v:Value}{l:List Pr}(hl:l.length≤65536)(S:fZ h 2 v (l.map Pr.cells))(hv:∀a n c,v= .slice (some a) n c->a.block∉[b,m])(hs:aAv l){k:cD}
  (hk:∀h' c',aAo h' b m (aGH l++A) c' K->(c=true->c'=true)->cQ [b,m] h h'->k (.string (tx (oD l))) h'):aT PG uY #[pT b 0,v] h k:=by
 apply aCc.call;unfold aCc;have lv:=S.len (t':=bR) cJ.und;rw[iV] at lv;by_cases h0:l=[]
 ·subst h0;simp only[lv,zLN,show(((0:Nat):Int)==0)=true from rfl,cE,reduceIte];exact aPE H (n:=0) (d:=[]) (by decide) (by decide) hk
 ·have hpos:0<l.length:=aIA.2 h0;have e1:((l.length:Int)==0)=false:=by simp;omega
  simp only[lv,e1,cE,reduceIte];refine aJF l.length (nC _) h0 hl H S hv hs λh1 c1 H1 hc1 u1=>?_;refine aPE H1 (by omega) (by rw[aCB];decide) λh2 c2 H2 hc2 u2=>?_;unfold oD aGH at hk;rw[if_neg h0] at hk;exact hk h2 c2 (by rw[if_neg h0];exact H2) (λh=>hc2 (hc1 h)) (u1.trans u2)
def Bk(b m:Nat)(A:List Tx)(K:List Nat)(h:PH):Prop:=∃c A',aAo h b m A' c K∧∀a∈A,a∈A'
def Bk.ext{b m:Nat}{A:List Tx}{K:List Nat}{h h':PH}(H:Bk b m A K h)(u:dD h h'):Bk b m A K h':=by
 obtain⟨c,A',B,hs⟩:=H;exact⟨c,A',B.ext u,hs⟩
def Bk.upd{b m:Nat}{A:List Tx}{K G:List Nat}{h h':PH}(H:Bk b m A K h)(u:cQ G h h')(hd:∀x∈b::m::K,x∉G):Bk b m A K h':=by
 obtain⟨c,A',B,hs⟩:=H;exact⟨c,A',B.upd u hd,hs⟩
def Bk.mono{b m:Nat}{A B:List Tx}{K:List Nat}{h:PH}(H:Bk b m A K h)(hs:∀a∈B,a∈A):Bk b m B K h:=by
 obtain⟨c,A',B',h1⟩:=H;exact⟨c,A',B',λa ha=>h1 a (hs a ha)⟩
def Bk.known{b m:Nat}{A:List Tx}{K:List Nat}{h:PH}(H:Bk b m A K h):∀x∈b::m::K,h x≠none:=by
 obtain⟨c,A',B,hs⟩:=H;exact B.known
def aNK{h:PH}{b m:Nat}{A:List Tx}{K:List Nat}(H:Bk b m A K h){s:Tx}(hs:s.length≤100000000){k:cD}
  (hk:∀h',Bk b m (s::A) K h'->cQ [b,m] h h'->k (.string (tx (sY s))) h'):aT PG kL #[pT b 0,.string (tx s)] h k:=by
 obtain⟨c,A',B,h1⟩:=H;refine aLY B hs λh' c' B' _ u=>hk h' ⟨c',s::A',B',λa ha=>?_⟩ u;rcases gU.1 ha with rfl|ha
 ·simp
 ·simp[h1 a ha]
def aWB{h:PH}{b m:Nat}{A:List Tx}{K:List Nat}(H:Bk b m A K h){p:Pr}(hl:p.k.length+p.v.length≤10000000){k:cD}
  (hk:∀h',Bk b m (aJK p::A) K h'->cQ [b,m] h h'->k (.string (tx (aGG p))) h'):aT PG uT #[pT b 0,p.val] h k:=by
 obtain⟨c,A',B,h1⟩:=H;refine aRF B hl λh' c' B' _ u=>hk h' ⟨c',_,B',λa ha=>?_⟩ u;rcases gU.1 ha with rfl|ha
 ·simp
 ·simp[h1 a ha]
def aXo{h:PH}{b m:Nat}{A:List Tx}{K:List Nat}(H:Bk b m A K h){n:Nat}{d:Tx}(hn:n≤1000000)(hd:d.length≤1000000){k:cD}
  (hk:∀h',Bk b m (aPR n d::A) K h'->cQ [b,m] h h'->k (.string (tx (aJ4 n d))) h'):aT PG sE #[pT b 0,.int .i64 (n:Int),.string (tx d)] h k:=by
 obtain⟨c,A',B,h1⟩:=H;refine aPE B hn hd λh' c' B' _ u=>hk h' ⟨c',_,B',λa ha=>?_⟩ u;rcases gU.1 ha with rfl|ha
 ·simp
 ·simp[h1 a ha]
def Off(b m:Nat)(v:Value):Prop:=∀a n c,v= .slice (some a) n c->a.block∉[b,m]
def aOn{h:PH}{v:Value}{l:List Pr}{b m:Nat}{A:List Tx}{K:List Nat}(hne:l≠[])(hl:l.length≤65536)(H:Bk b m A K h)(S:fZ h 2 v (l.map Pr.cells))(hv:Off b m v)(hs:aAv l){k:cD}
  (hk:∀h',Bk b m (aJl l++A) K h'->cQ [b,m] h h'->k (.string (tx (qH l))) h'):aT PG mQ #[pT b 0,v] h k:=by
 obtain⟨c,A',B,h1⟩:=H;refine aJF l.length (nC _) hne hl B S hv hs λh' c' B' _ u=>hk h' ⟨c',_,B',λa ha=>?_⟩ u;rcases kB.1 ha with ha|ha
 ·simp[ha]
 ·simp[h1 a ha]
def aVz{h:PH}{b m:Nat}{A:List Tx}{K:List Nat}(H:Bk b m A K h){v:Value}{l:List Pr}(hl:l.length≤65536)(S:fZ h 2 v (l.map Pr.cells))(hv:Off b m v)(hs:aAv l){k:cD}
  (hk:∀h',Bk b m (aGH l++A) K h'->cQ [b,m] h h'->k (.string (tx (oD l))) h'):aT PG uY #[pT b 0,v] h k:=by
 obtain⟨c,A',B,h1⟩:=H;refine aQ4 B hl S hv hs λh' c' B' _ u=>hk h' ⟨c',_,B',λa ha=>?_⟩ u;rcases kB.1 ha with ha|ha
 ·simp[ha]
 ·simp[h1 a ha]
def eK.off{h:PH}{F:List Nat}(f:eK h F){b m:Nat}(hb:h b≠none)(hm:h m≠none):∀x∈F,x∉[b,m]:=λx hx hm'=>by
 simp only[gU,lH,or_false] at hm';rcases hm' with rfl|rfl
 ·exact hb (f _ hx)
 ·exact hm (f _ hx)
def cQ.grow2{h h1:PH}{b m:Nat}(u:cQ [b,m] h h1)(hb:h1 b≠none)(hm:h1 m≠none){x:Nat}(hx:h1 x=none):h x=none:=by
 cases e:h x with
 | none=>rfl
 | some o=>
  exfalso;by_cases c:x∈[b,m]
  ·simp only[gU,lH,or_false] at c;rcases c with rfl|rfl
   ·exact hb hx
   ·exact hm hx
  ·have:=u x o e c;rw[hx] at this;cases this
def aNy:∀(n:Nat) {h:PH} {v:Value} {l:List Pr} {j:Nat} {b m:Nat} {A:List Tx} {K:List Nat},l.length≤n->j<l.length->l.length≤65536->Bk b m A K h->fZ h 2 v (l.map Pr.cells)->Off b m v->aAv l->∀{k:cD},
  (∀h' v' F,Bk b m A K h'->eM h' bT 1 v' ((oT l j).map jJ) F->eK h F->cQ [b,m] h h'->k v' h')->aT PG vE #[pT b 0,v,.int .i64 (j:Int)] h k
 | 0,_,_,l,j,_,_,_,_,h0,hj,_,_,_,_,_,_,_=>by omega
 | n+1,h,v,l,j,b,m,A,K,hn,hj,hl,H,S,hv,hs,k,hk=>by
  apply vW.call;unfold vW;have lv:=S.len (t':=bR) cJ.und;rw[iV] at lv;have g1:((j:Int)<0)=False:=eq_false (by omega);have g2:((l.length:Int)≤(j:Int))=False:=eq_false (by omega);by_cases h1:l.length=1
  ·have e1:((l.length:Int)==1)=true:=by simp[h1]
   simp only[g1,lv,g2,iG,e1,cE,reduceIte,cZ,Nat.reduceAdd];have hp:oT l j=[]:=by rw[oT,dif_neg (by omega)]
   rw[hp] at hk;exact hk h _ [] H eM.nil (λb hb=>by cases hb) cQ.refl
  ·have e1:((l.length:Int)==1)=false:=by simp;omega
   have h2:2≤l.length:=by omega
   have hlt:=mH h2;have kb:=H.known b (by simp);have km:=H.known m (by simp);simp only[g1,lv,g2,iG,e1,cE,reduceIte,cZ,Nat.reduceAdd];refine aKC h2 hl ?_;obtain⟨v1,s1,t1,x1⟩:=S.cut (lo:=none) (hi:=some (.int .i64 ((eO l.length:Nat):Int))) (l:=0) (m:=eO l.length) cJ.und cM.info cM.size (.inl ⟨rfl,rfl⟩) (.inr ⟨_,rfl⟩) (by omega) (by simp;omega);obtain⟨v2,s2,t2,x2⟩:=S.cut (lo:=some (.int .i64 ((eO l.length:Nat):Int))) (hi:=none) (l:=eO l.length) (m:=l.length) cJ.und cM.info cM.size (.inr ⟨_,rfl⟩) (.inl ⟨rfl,by simp⟩) (by omega) (by simp);rw[zLb,←aJo] at t1;rw[←aJo,←aL2,zLJ] at t2;have hv1:Off b m v1:=λa n c e=>by
    obtain⟨x0,n0,c0,e0,e5⟩:=x1 a n c e;rw[e5];exact hv _ _ _ e0
   have hv2:Off b m v2:=λa n c e=>by
    obtain⟨x0,n0,c0,e0,e5⟩:=x2 a n c e;rw[e5];exact hv _ _ _ e0
   have fin:∀{h3:PH} {v3:Value} {F3:List Nat} {q:List Tx} {d:Tx},Bk b m A K h3->eM h3 bT 1 v3 (q.map jJ) F3->eK h F3->cQ [b,m] h h3->q.length≤20->oT l j=q++[d]->dY (jV PG (buildSlice cP 1 #[(0,.string (tx d))])) λx40=>∀r39,h3 r39=none->dY (dH PG (x40.2 r39)) λv41=>eN (PH.set h3 r39 x40.1) λh42=>dC PG (Builtin.append_ #[cP,cP] cP #[v3,v41]) h42 λv43 h44=>k v43 h44:=by
    intro h3 v3 F3 q d B3 O3 f3 u3 hq hp;simp only[aNX,cE,reduceIte,cZ,Nat.reduceAdd];intro r hr;refine fP ?_
    try rw[cW]
    have u4:dD h3 (h3.set r (.cells #[.string (tx d)] bT)):=cQ.new hr;have s4:fZ (h3.set r (.cells #[.string (tx d)] bT)) 1 (.slice (some ⟨r,0,none⟩) 1 1) ([d].map jJ):=(eM.lit (n:=1) (rows:=[d].map jJ) (λr hr=>by simp only[iH,jA,gB] at hr;subst hr;rfl) dL (by simp) (by decide) rfl).slR;generalize h3.set r (.cells #[.string (tx d)] bT)=h4 at *;have k3b:=B3.known b (by simp);have k3m:=B3.known m (by simp);refine jK cP.und cP.und bT.info bT.size bT.bytes bT.zero rfl (by decide) (O3.ext u4) s4 (λr hr u hu=>by
     obtain⟨y,hy,rfl⟩:=mJ.1 hr;exact jJ.isC y u hu) (by simp only[iV,zLT];omega) ?_
    intro v5 h5 F5 O5 u5 k5 _;rw[←pO,←hp] at O5;refine hk h5 v5 F5 ((B3.ext u4).upd u5 (λx hx hm'=>?_)) O5 (λx hx=>?_) ((u3.trans u4.upd).then u5 (λx hx=>.inr (f3 x hx)))
    ·have:h x≠none:=H.known x hx;exact this (f3 x hm')
    ·rcases k5 x hx with hx|hx
     ·exact f3 x hx
     ·exact u3.grow2 k3b k3m (u4.none hx)
   have deep:∀(l':List Pr) (j':Nat),l'.length≤65536->(oT l' j').length≤20:=λl' j' hl'=>by
    have:=aFR 16 l' j' hl';omega
   by_cases hjm:j<eO l.length
   ·have g3:((j:Int)<((eO l.length:Nat):Int))=True:=eq_true (by omega);simp only[g3,s1,s2,cE,reduceIte,cZ,Nat.reduceAdd];refine aNy n (l:=l.take (eO l.length)) (by rw[nI];omega) (by rw[nI];omega) (by rw[nI];omega) H t1 hv1 (λp hp=>hs p (aLJ hp)) λh3 v3 F3 B3 O3 f3 u3=>?_;refine aOn (aKr (by rw[pK];omega)) (by rw[pK];omega) B3 (t2.upd u3 hv2) hv2 (λp hp=>hs p (aN3 hp)) λh4 B4 u4=>?_;refine fin (q:=oT (l.take (eO l.length)) j) (B4.mono λa ha=>by simp[ha]) (O3.upd u4 (f3.off kb km)) f3 (u3.trans u4) (deep _ _ (by rw[nI];omega)) ?_;rw[oT,dif_pos h2,if_pos hjm]
   ·have g3:((j:Int)<((eO l.length:Nat):Int))=False:=eq_false (by omega);have w1:IntKind.i64.wrap ((j:Int)-((eO l.length:Nat):Int))=((j-eO l.length:Nat):Int):=by rw[fH (by omega) (by omega)];omega
    simp only[g3,s1,s2,w1,cE,reduceIte,cZ,Nat.reduceAdd];refine aNy n (l:=l.drop (eO l.length)) (by rw[pK];omega) (by rw[pK];omega) (by rw[pK];omega) H t2 hv2 (λp hp=>hs p (aN3 hp)) λh3 v3 F3 B3 O3 f3 u3=>?_;refine aOn (aKr (by rw[nI];omega)) (by rw[nI];omega) B3 (t1.upd u3 hv1) hv1 (λp hp=>hs p (aLJ hp)) λh4 B4 u4=>?_;refine fin (q:=oT (l.drop (eO l.length)) (j-eO l.length)) (B4.mono λa ha=>by simp[ha]) (O3.upd u4 (f3.off kb km)) f3 (u3.trans u4) (deep _ _ (by rw[pK];omega)) ?_;rw[oT,dif_pos h2,if_neg hjm]
def gY(i n:Nat):Nat:=if h:2≤n then(if i<eO n then 1+gY i (eO n) else 1+gY (i-eO n) (n-eO n)) else 0
termination_by n
decreasing_by
 ·have:=mH h;omega
 ·have:=mH h;omega
def wB(p:Pr)(i n:Nat)(path:List Tx):Tx:=
 if h:2≤n then(if i<eO n then aA5 (wB p i (eO n) path) (path.getD (gY i n-1) []) else aA5 (path.getD (gY i n-1) []) (wB p (i-eO n) (n-eO n) path)) else aGG p
termination_by n
decreasing_by
 ·have:=mH h;omega
 ·have:=mH h;omega
def upA(p:Pr)(i n:Nat)(path:List Tx):List Tx:=
 if h:2≤n then(if i<eO n then aFG (wB p i (eO n) path) (path.getD (gY i n-1) [])::upA p i (eO n) path else aFG (path.getD (gY i n-1) []) (wB p (i-eO n) (n-eO n) path)::upA p (i-eO n) (n-eO n) path) else [aJK p]
termination_by n
decreasing_by
 ·have:=mH h;omega
 ·have:=mH h;omega
def aKO:∀(d i n:Nat),n≤2^d->gY i n≤d
 | 0,i,n,h=>by rw[gY,dif_neg (by simp at h;omega)];exact nC _
 | d+1,i,n,h=>by
  by_cases h2:2≤n
  ·obtain⟨a,b⟩:=aFM h2 h;rw[gY,dif_pos h2];split
   ·have:=aKO d i (eO n) a;omega
   ·have:=aKO d (i-eO n) (n-eO n) b;omega
  ·rw[gY,dif_neg h2];omega
def aLb:∀(n:Nat) (p:Pr) (i:Nat) (q r:List Tx),gY i n≤q.length->wB p i n (q++r)=wB p i n q:=by
 intro n;induction n using Nat.strongRecOn with
 | ind n ih=>
  intro p i q r hq;by_cases h2:2≤n
  ·obtain⟨m1,m2⟩:=mH h2;rw[gY,dif_pos h2] at hq;rw[wB,dif_pos h2]
   conv=>rhs;rw[wB,dif_pos h2]
   have hg:(q++r).getD (gY i n-1) []=q.getD (gY i n-1) []:=by
    have hd:gY i n-1<q.length:=by
     by_cases hi:i<eO n
     ·rw[if_pos hi] at hq;rw[gY,dif_pos h2,if_pos hi];omega
     ·rw[if_neg hi] at hq;rw[gY,dif_pos h2,if_neg hi];omega
    rw[aBM,aBM,List.getElem?_append_left hd]
   rw[hg];by_cases hi:i<eO n
   ·rw[if_pos hi] at hq;rw[if_pos hi,if_pos hi,ih (eO n) m2 p i q r (by omega)]
   ·rw[if_neg hi] at hq;rw[if_neg hi,if_neg hi,ih (n-eO n) (by omega) p (i-eO n) q r (by omega)]
  ·rw[wB,dif_neg h2]
   conv=>rhs;rw[wB,dif_neg h2]
def aW8:∀(n:Nat) (p:Pr) (i:Nat) (path:List Tx),upP p i n path=if gY i n≤path.length∧∀d∈path.drop (path.length-gY i n),d.length=32 then some (wB p i n (path.drop (path.length-gY i n)),path.take (path.length-gY i n)) else none:=by
 intro n;induction n using Nat.strongRecOn with
 | ind n ih=>
  intro p i path;by_cases h2:2≤n
  ·obtain⟨m1,m2⟩:=mH h2;rcases List.eq_nil_or_concat path with rfl|⟨q,x,rfl⟩
   ·rw[upP,dif_pos h2,if_neg]
    ·rfl
    ·rintro⟨h,-⟩;rw[gY,dif_pos h2] at h;split at h<;>simp at h<;>omega
   ·rw[List.concat_eq_append];have key:∀(d:Nat) (Y:Tx->Tx) (U:List Tx->Tx) (o:Option (Tx×List Tx)),gY i n=1+d->(∀z,d≤z.length->U (z++[x])=U z)->
      o=(if d≤q.length∧∀y∈q.drop (q.length-d),y.length=32 then some (U (q.drop (q.length-d)),q.take (q.length-d)) else none)->(∀z,z.length=d->wB p i n (z++[x])=Y (U z))->
      (if x.length≠32 then none else o.map λy=>(Y y.1,y.2))=if gY i n≤(q++[x]).length∧∀y∈(q++[x]).drop ((q++[x]).length-gY i n),y.length=32 then some (wB p i n ((q++[x]).drop ((q++[x]).length-gY i n)),(q++[x]).take ((q++[x]).length-gY i n)) else none:=by
     intro d Y U o hd hU ho hY;have hl:(q++[x]).length-gY i n=q.length-d:=by rw[hd,jM,zLT];omega
     rw[hl,hd];by_cases hdq:d≤q.length
     ·have e1:(q++[x]).drop (q.length-d)=q.drop (q.length-d)++[x]:=List.drop_append_of_le_length (by omega);have e2:(q++[x]).take (q.length-d)=q.take (q.length-d):=zLH (by omega);rw[e1,e2];by_cases hx:x.length=32
      ·rw[if_neg (by simpa using hx),ho];by_cases hall:∀y∈q.drop (q.length-d),y.length=32
       ·rw[if_pos ⟨hdq,hall⟩,if_pos ⟨by simp;omega,λy hy=>by
         rcases kB.1 hy with hy|hy
         ·exact hall y hy
         ·simp only[gB] at hy;rw[hy];exact hx⟩,hY _ (by rw[pK];omega)]
        rfl
       ·rw[if_neg (λh=>hall h.2),if_neg (λh=>hall λy hy=>h.2 y (by simp[hy]))];rfl
      ·rw[if_pos hx,if_neg (λh=>hx (h.2 x (by simp)))]
     ·have ho':o=none:=by rw[ho,if_neg (λh=>hdq h.1)]
      have hno:¬(1+d≤(q++[x]).length∧∀y∈(q++[x]).drop (q.length-d),y.length=32):=λh=>hdq (by have:=h.1;rw[jM,zLT] at this;omega);rw[ho',if_neg hno];split<;>rfl
    rw[upP,dif_pos h2,List.getLast?_concat,List.dropLast_concat];simp only;by_cases hi:i<eO n
    ·have hd:gY i n=1+gY i (eO n):=by rw[gY,dif_pos h2,if_pos hi]
     simp only[hi,if_true];refine key (gY i (eO n)) (λy=>aA5 y x) (λz=>wB p i (eO n) z) _ hd (λz hz=>aLb _ _ _ _ _ hz) (ih (eO n) m2 p i q) (λz hz=>?_)
     conv=>lhs;rw[wB,dif_pos h2,if_pos hi]
     rw[aLb _ _ _ _ _ (by omega),hd,aBM,show 1+gY i (eO n)-1=z.length by omega,List.getElem?_concat_length];rfl
    ·have hd:gY i n=1+gY (i-eO n) (n-eO n):=by rw[gY,dif_pos h2,if_neg hi]
     simp only[hi,if_false];refine key (gY (i-eO n) (n-eO n)) (λy=>aA5 x y) (λz=>wB p (i-eO n) (n-eO n) z) _ hd (λz hz=>aLb _ _ _ _ _ hz) (ih (n-eO n) (by omega) p (i-eO n) q) (λz hz=>?_)
     conv=>lhs;rw[wB,dif_pos h2,if_neg hi]
     rw[aLb _ _ _ _ _ (by omega),hd,aBM,show 1+gY (i-eO n) (n-eO n)-1=z.length by omega,List.getElem?_concat_length];rfl
  ·have h0:gY i n=0:=by rw[gY,dif_neg h2]
   rw[upP,dif_neg h2,h0,Nat.sub_zero,if_pos ⟨aFl _,λd hd=>by simp at hd⟩,zLJ,wB,dif_neg h2]
structure OkC(f:Lf):Prop where
 n1:1≤f.n
 n2:f.n≤4096
 i1:0≤f.i
 i2:f.i<f.n
 len:f.path.length=gY f.i.toNat f.n.toNat
 all:∀d∈f.path,d.length=32
def aPf(f:Lf):Tx:=wB f.p f.i.toNat f.n.toNat f.path
def aMa(f:Lf):List Tx:=aPR f.n.toNat (aPf f)::upA f.p f.i.toNat f.n.toNat f.path
def aUL{f:Lf}(H:OkC f):qU f=some (aJ4 f.n.toNat (aPf f)):=by
 have h1:=H.n1;have h2:=H.n2;have h3:=H.i1;have h4:=H.i2;unfold qU;rw[if_neg (by omega),aW8,←H.len,aKu,zLb,List.take_zero,if_pos ⟨nC _,H.all⟩];rfl
def aUC{f:Lf}(H:¬OkC f):qU f=none:=by
 unfold qU;by_cases c:f.n<1∨4096<f.n∨f.i<0∨f.n≤f.i
 ·rw[if_pos c]
 ·rw[if_neg c,aW8];by_cases d:gY f.i.toNat f.n.toNat≤f.path.length∧∀d∈f.path.drop (f.path.length-gY f.i.toNat f.n.toNat),d.length=32
  ·rw[if_pos d];obtain⟨d1,d2⟩:=d;by_cases e:f.path.length=gY f.i.toNat f.n.toNat
   ·exfalso;rw[←e,aKu,zLb] at d2;exact H ⟨by omega,by omega,by omega,by omega,e,d2⟩
   ·have hne:f.path.take (f.path.length-gY f.i.toNat f.n.toNat)≠[]:=aKr (by rw[nI];omega);cases ht:f.path.take (f.path.length-gY f.i.toNat f.n.toNat) with
    | nil=>exact absurd ht hne
    | cons x xs=>rfl
  ·rw[if_neg d];rfl
def aKZ:∀(d:Nat) {h:PH} {i n:Nat},n≤2^d->1≤n->n≤4096->i<n->∀{k:cD},k (.int .i64 ((gY i n:Nat):Int)) h->aT PG qO #[.int .i64 (i:Int),.int .i64 (n:Int)] h k
 | d,h,i,n,hd,h1,hn,hi,k,hk=>by
  apply aBu.call;unfold aBu;by_cases e1:n=1
  ·have q:((n:Int)==1)=true:=by simp[e1]
   simp only[iG,q,cE,reduceIte,cZ,Nat.reduceAdd];have:gY i n=0:=by rw[gY,dif_neg (by omega)]
   rw[this] at hk;exact hk
  ·have q:((n:Int)==1)=false:=by simp;omega
   have h2:2≤n:=by omega
   obtain⟨m1,m2⟩:=mH h2;cases d with
   | zero=>simp at hd;omega
   | succ d=>
    obtain⟨a,b⟩:=aFM h2 hd;simp only[iG,q,cE,reduceIte,cZ,Nat.reduceAdd];refine aKC h2 (by omega) ?_;have hdl:=aKO 12 i n (by omega);by_cases c:i<eO n
    ·have g:((i:Int)<((eO n:Nat):Int))=True:=eq_true (by omega);have he:gY i n=1+gY i (eO n):=by rw[gY,dif_pos h2,if_pos c]
     have w:IntKind.i64.wrap (1+((gY i (eO n):Nat):Int))=((gY i n:Nat):Int):=by rw[fH (by omega) (by omega)];omega
     simp only[g,cE,reduceIte,cZ,Nat.reduceAdd];refine aKZ d a (by omega) (by omega) c ?_;simp only[w,cE,reduceIte,cZ,Nat.reduceAdd];exact hk
    ·have g:((i:Int)<((eO n:Nat):Int))=False:=eq_false (by omega);have he:gY i n=1+gY (i-eO n) (n-eO n):=by rw[gY,dif_pos h2,if_neg c]
     have w:IntKind.i64.wrap (1+((gY (i-eO n) (n-eO n):Nat):Int))=((gY i n:Nat):Int):=by rw[fH (by omega) (by omega)];omega
     have w1:IntKind.i64.wrap ((i:Int)-((eO n:Nat):Int))=((i-eO n:Nat):Int):=by rw[fH (by omega) (by omega)];omega
     have w2:IntKind.i64.wrap ((n:Int)-((eO n:Nat):Int))=((n-eO n:Nat):Int):=by rw[fH (by omega) (by omega)];omega
     simp only[g,w1,w2,cE,reduceIte,cZ,Nat.reduceAdd];refine aKZ d b (by omega) (by omega) (by omega) ?_;simp only[w,cE,reduceIte,cZ,Nat.reduceAdd];exact hk
end
section
open Go
def aXt{hs:List Int}{l:List hZ}(R:wV hs l)(hpos:∀y∈hts l,0≤y){best:Int}(h1:best=0∨best∈hts l)(h2:∀y∈hts l,y≤best)(h0:0≤best):aLT hs=best:=by
 unfold aLT;rcases List.eq_nil_or_concat hs with rfl|⟨ys,y,rfl⟩
 ·rcases h1 with h|h
  ·exact h.symm
  ·exact absurd (R.mem.2 h) (by simp)
 ·have hy:y∈hts l:=R.mem.1 (by simp);have e1:=h2 y hy;have e0:=hpos y hy;simp only[List.concat_eq_append,List.getLast?_append,List.getLast?_singleton,Option.some_or,aIu];rcases h1 with h|h
  ·omega
  ·have:=R.mem.2 h;rcases kB.1 (by simpa[List.concat_eq_append] using this:best∈ys++[y]) with hb|hb
   ·have hup:=R.up;rw[List.concat_eq_append,List.pairwise_append] at hup;have:=hup.2.2 best hb y (by simp);omega
   ·simp at hb;exact hb.symm
def fZ.kn{h:PH}{x:Value}{xs:List hZ}(H:fZ h 2 x (xs.map hZ.cells)){k:IntKind}{j:Nat}{m:hZ}(hm:xs[j]? =some m):
  ∃b o,dH PG (indexAt dW x (.int k j))=some (pT b o)∧dB h ⟨b,o,none⟩=some (.int .u64 m.height)∧dB h ⟨b,o+1,none⟩=some (.string m.root)∧cG PG h (loadAt eV (pT b o))=some (.agg m.cells.toArray):=by
 obtain⟨b,o,h1,h2,h3⟩:=H.fields dW.und eV.info eV.size (k:=k) (j:=j) (r:=m.cells) (by rw[wA,hm];rfl);exact⟨b,o,h1,h2 0 _ rfl,h2 1 _ rfl,h3 _ eV.und rfl⟩
structure yS(h:PH)(a:Nat)(l:List hZ)(F:List Nat):Prop where
 here:∃v G,h a=some (.cells #[v] gG (0,0))∧eM h eV 2 v (l.map hZ.cells) G∧F=a::G∧a∉G
def yS.known{h:PH}{a:Nat}{l:List hZ}{F:List Nat}(H:yS h a l F):∀b∈F,h b≠none:=by
 obtain⟨v,G,ha,hO,rfl,hn⟩:=H;intro b hb;rcases gU.1 hb with rfl|hb
 ·rw[ha];simp
 ·exact hO.known b hb
def yS.upd{h h':PH}{a:Nat}{l:List hZ}{F G:List Nat}(H:yS h a l F)(u:cQ G h h')(hd:∀b∈F,b∉G):yS h' a l F:=by
 obtain⟨v,G',ha,hO,rfl,hn⟩:=H;exact⟨v,G',u.get ha (hd a (by simp)),hO.upd u (λb hb=>hd b (by simp[hb])),rfl,hn⟩
def yS.ext{h h':PH}{a:Nat}{l:List hZ}{F:List Nat}(H:yS h a l F)(u:dD h h'):yS h' a l F:=H.upd u (by simp)
def aLg{h:PH}{a:Nat}{l:List hZ}{F:List Nat}(hR:yS h a l F)(hl:l.length≤1000000)(x:Int){k:cD}
  (hk:k (.tuple #[.string ((mC l x).getD ⟨#[]⟩),.bool (mC l x).isSome]) h):aT PG mY #[pT a 0,.int .u64 x] h k:=by
 obtain⟨v,G,ha,hO,rfl,hn⟩:=hR;have lv:=hO.slR.len (t':=bR) dW.und;rw[iV] at lv;apply vB.call;unfold vB;refine⟨λvs h'=>∃i:Nat,i≤l.length∧vs=[pT a 0,.int .u64 x,.int .i64 i]∧h'=h∧mC l x=mC (l.drop i) x,gQ l.length 2,⟨0,by omega,rfl,rfl,rfl⟩,?_⟩;rintro ρ h' ⟨i,hi,hvs,rfl,hr⟩;simp only[iH,jA,lN,and_true] at hvs;obtain⟨e0,e1,e5⟩:=hvs;rw[e0,e1,e5];unfold aDB;by_cases hlt:i<l.length
 ·have hd:((i:Int)<(l.length:Int))=True:=by apply eq_true;omega
  obtain⟨m,hm⟩:∃m,l[i]? =some m:=⟨_,lJ hlt⟩;obtain⟨b,o,a1,a2,a3,-⟩:=hO.slR.kn (k:=.i64) hm;have e2:=qN (i:=i) (by omega);have ha':dB h' ⟨a,0,none⟩=some v:=by simp[dB,ha]
  have hdr:l.drop i=m::l.drop (i+1):=by
   rw[aHG hlt];rw[lJ hlt] at hm;simp at hm;rw[hm]
  simp only[gG.f0,dW.load,ha',lv,hd,a1,eV.f0,eV.f1,cA.load,bT.load,a2,a3,e2,cE,reduceIte];by_cases e:x=m.height
  ·have e3:(m.height==x)=true:=by simp[e]
   have e4:mC l x=some m.root:=by rw[hr,hdr];simp[mC,e]
   rw[e4] at hk;simp only[e3,cE,reduceIte];exact hk
  ·have e3:(m.height==x)=false:=by simp;exact λh=>e h.symm
   simp only[e3,cE,reduceIte];refine⟨⟨i+1,by omega,rfl,by trivial,?_⟩,by simp[gQ,e5];omega⟩;rw[hr,hdr];simp[mC,e]
 ·have hd:((i:Int)<(l.length:Int))=False:=by apply eq_false;omega
  have ha':dB h' ⟨a,0,none⟩=some v:=by simp[dB,ha]
  simp only[gG.f0,dW.load,ha',lv,hd,cE,reduceIte];have e4:mC l x=none:=by rw[hr,aLf (by omega)];rfl
  rw[e4] at hk;exact hk
def aLp{l:List hZ}{i:Nat}{m:hZ}(hm:l[i]? =some m):hts (l.take (i+1))=hts (l.take i)++[m.height]:=by
 rw[zLU,hm];simp[hts]
def aTY{h:PH}{a:Nat}{l:List hZ}{hs:List Int}{F:List Nat}(hR:yS h a l F)(hl:l.length≤1000000)(R:wV hs l)(hpos:∀y∈hts l,0≤y){k:cD}
  (hk:k (.int .u64 (aLT hs)) h):aT PG wE #[pT a 0] h k:=by
 obtain⟨v,G,ha,hO,rfl,hn⟩:=hR;have lv:=hO.slR.len (t':=bR) dW.und;rw[iV] at lv;apply sQ.call;unfold sQ;refine⟨λvs h'=>∃(i:Nat) (best:Int),i≤l.length∧vs=[pT a 0,.int .u64 best,.int .i64 i]∧h'=h∧(best=0∨best∈hts (l.take i))∧(∀y∈hts (l.take i),y≤best)∧0≤best,gQ l.length 2,⟨0,0,by omega,rfl,rfl,.inl rfl,by simp[hts],by omega⟩,?_⟩;rintro ρ h' ⟨i,best,hi,hvs,rfl,q1,q2,q3⟩;simp only[iH,jA,lN,and_true] at hvs;obtain⟨e0,e1,e5⟩:=hvs;rw[e0,e1,e5];unfold aCL;have ha':dB h' ⟨a,0,none⟩=some v:=by simp[dB,ha]
 by_cases hlt:i<l.length
 ·have hd:((i:Int)<(l.length:Int))=True:=by apply eq_true;omega
  obtain⟨m,hm⟩:∃m,l[i]? =some m:=⟨_,lJ hlt⟩;obtain⟨b,o,a1,a2,a3,-⟩:=hO.slR.kn (k:=.i64) hm;have e2:=qN (i:=i) (by omega);have hmp:0≤m.height:=hpos _ (zL8 (tA hm));simp only[gG.f0,dW.load,ha',lv,hd,a1,eV.f0,cA.load,a2,cE,reduceIte];by_cases e:best<m.height
  ·simp only[e,cE,reduceIte];unfold qD uS;simp only[e2,cE,reduceIte];refine⟨⟨i+1,m.height,by omega,rfl,by trivial,.inr ?_,?_,hmp⟩,by simp[gQ,e5];omega⟩
   ·rw[aLp hm];simp
   ·intro y hy;rw[aLp hm] at hy;rcases kB.1 hy with hy|hy
    ·have:=q2 y hy;omega
    ·simp at hy;omega
  ·simp only[e,cE,reduceIte];unfold qD uS;simp only[e2,cE,reduceIte];refine⟨⟨i+1,best,by omega,rfl,by trivial,?_,?_,q3⟩,by simp[gQ,e5];omega⟩
   ·rw[aLp hm];simp;rcases q1 with h|h
    ·exact .inl h
    ·exact .inr (.inl h)
   ·intro y hy;rw[aLp hm] at hy;rcases kB.1 hy with hy|hy
    ·exact q2 y hy
    ·simp at hy;omega
 ·have hd:((i:Int)<(l.length:Int))=False:=by apply eq_false;omega
  simp only[gG.f0,dW.load,ha',lv,hd,cE,reduceIte];rw[lY (by omega)] at q1 q2;rw[aXt R hpos q1 q2 q3] at hk;exact hk
def aYZ:jV PG (buildSlice dW 0 #[])=some (.cells #[] eV,λr=>pure (.slice (some ⟨r,0,none⟩) 0 0)):=by kernel_rfl
def aXg(m:hZ):jV PG (buildSlice dW 1 #[(0,.agg m.cells.toArray)])=some (.cells m.cells.toArray eV,λr=>pure (.slice (some ⟨r,0,none⟩) 1 1)):=by kernel_rfl
def aWL(m:hZ):dH PG (build eV #[(0,.int .u64 m.height),(1,.string m.root)])=some (.agg m.cells.toArray):=by kernel_rfl
def aXf{h:PH}{a:Nat}{l:List hZ}{F:List Nat}(hR:yS h a l F)(hl:l.length≤4096)(x:hZ){k:cD}
  (hk:∀h' F',yS h' a (aAq l x).2 F'->cQ [a] h h'->(∀b∈F',b∈F∨h b=none)->k (.int .i64 (aAq l x).1) h'):aT PG sX #[pT a 0,.int .u64 x.height,.string x.root] h k:=by
 apply wT.call;unfold wT;unfold aAq at hk;simp only[bT.len,cE,reduceIte];by_cases c1:x.root.size=32
 ·have e1:((x.root.size:Int) !=32)=false:=by simp[c1]
  rw[if_neg (by simpa using c1)] at hk;simp only[e1,cE,reduceIte];refine aLg hR (by omega) x.height ?_;simp only[aOL,cE,reduceIte];by_cases c2:x.height∈hts l
  ·simp only[c2,cE,reduceIte];rw[if_pos c2] at hk;exact hk _ _ hR cQ.refl (λb hb=>.inl hb)
  ·rw[if_neg c2] at hk;obtain⟨v,G,ha,hO,hF,hn⟩:=hR.here;have lv:=hO.slR.len (t':=bR) dW.und;rw[iV] at lv;have ha':dB h ⟨a,0,none⟩=some v:=by simp[dB,ha]
   simp only[c2,gG.f0,dW.load,ha',lv,cE,reduceIte];by_cases c3:4096≤l.length
   ·have e3:((4096:Int)≤(l.length:Int))=True:=by apply eq_true;omega
    simp only[e3,cE,reduceIte];rw[if_pos c3] at hk;exact hk _ _ hR cQ.refl (λb hb=>.inl hb)
   ·have e3:((4096:Int)≤(l.length:Int))=False:=by apply eq_false;omega
    rw[if_neg c3] at hk;simp only[e3,aYZ,cE,reduceIte];intro r hr;refine fP ?_;have u1:dD h (h.set r (.cells #[] eV)):=cQ.new hr;have hN:eM (h.set r (.cells #[] eV)) eV 2 (.slice (some ⟨r,0,none⟩) 0 0) [] [r]:=eM.lit (by intro r hr;cases hr) dL rfl (by simp) rfl;have f1:eK h [r]:=eK.one hr;generalize h.set r (.cells #[] eV)=h1 at *;have ha1:dB h1 ⟨a,0,none⟩=some v:=by simp[dB,u1.get ha]
    simp only[ha1,cE,reduceIte];refine jK dW.und dW.und eV.info eV.size eV.bytes eV.zero rfl (by decide) hN (hO.slR.ext u1) (hZ.isCell _) (by simp;omega) ?_;intro v2 h2 F2 hO2 u2 k2 _;have w2:=u1.fresh u2 f1;have f2:=f1.grow u1 k2;rw[sK] at hO2;simp only[aWL,aXg,cE,reduceIte];intro r3 hr3;refine fP ?_;have u3:dD h2 (h2.set r3 (.cells x.cells.toArray eV)):=cQ.new hr3;have hx3:fZ (h2.set r3 (.cells x.cells.toArray eV)) 2 (.slice (some ⟨r3,0,none⟩) 1 1) ([x].map hZ.cells):=(eM.lit (hZ.rows _) dL (by simp) (by decide) (by simp)).slR;generalize h2.set r3 (.cells x.cells.toArray eV)=h3 at *;refine jK dW.und dW.und eV.info eV.size eV.bytes eV.zero rfl (by decide) (hO2.ext u3) hx3 (hZ.isCell _) (by simp;omega) ?_;intro v4 h4 F4 hO4 u4 k4 _;have w4:=(w2.trans u3).fresh u4 f2;have f4:=f2.grow (w2.trans u3) k4;rw[←pO] at hO4;have ha4:=w4.get ha;have na4:a∉F4:=λhm'=>by have:=f4 a hm';rw[ha] at this;cases this
    refine iT dW.und rfl ha4 (by simp) ?_ dW.info dW.size ?_
    ·obtain⟨_,_,rfl,-⟩:=hO4.slR.here;rfl
    refine hk _ (a::F4) ⟨v4,F4,by simpa using dL,hO4.upd (cQ.set (F:=[a]) (by simp)) (λb hb=>by simp;rintro rfl;exact na4 hb),rfl,na4⟩ (w4.upd.trans (cQ.set (by simp))) ?_;intro b hb;simp only[gU] at hb;rcases hb with rfl|hb
    ·exact .inl (by rw[hF];simp)
    ·exact .inr (f4 b hb)
 ·have e1:((x.root.size:Int) !=32)=true:=by simp;omega
  rw[if_pos (by simpa using c1)] at hk;simp only[e1,cE,reduceIte];exact hk _ _ hR cQ.refl (λb hb=>.inl hb)
def neqPtrSelf{h:PH}{x y:Operand}(a:Addr):cG PG h (jT .neq eD x y (.pointer (some a)) (.pointer (some a)))=some (.bool false):=by
 show cG PG h (Op.equalIn (9999+1) eD (.pointer (some a)) (.pointer (some a)) >>= λb=>(pure (Value.bool (!b)):Sem Value))=_;rw[kC];have:cG PG h (Op.equalIn (9999+1) eD (.pointer (some a)) (.pointer (some a)))=some true:=by
  rw[Op.equalIn,kM eD.und];simp only[kP];rw[aBZ dN.info];simp[dN.size,sameAddr,cG,pure]
 rw[this];rfl
def semE_viewAt{h:PH}{r:Nat}{x:TypeId×Nat}{α:Type}(hs:kI h r=some (some x))(f:Option (Addr×TypeId)->Sem α):cG PG h (viewAt r >>= f)=cG PG h (f none):=by
 rw[kC];have:cG PG h (viewAt r)=some none:=by
  show(kI h r).bind _=_;rw[hs];rfl
 rw[this];rfl
def semE_seenAt{h:PH}{a:Addr}{x:TypeId×Nat}{α:Type}(hs:kI h a.block=some (some x))(f:Addr->Sem α):cG PG h (Conv.seenAt a >>= f)=cG PG h (f a):=by
 rw[kC];have:cG PG h (Conv.seenAt a)=some a:=by
  unfold Conv.seenAt;rw[semE_viewAt hs];rfl
 rw[this];rfl
def semE_cellsIn{h:PH}{r:Nat}{x:TypeId×Nat}{α:Type}(hs:kI h r=some (some x))(f:Option Nat->Sem α):cG PG h (cellsIn r >>= f)=cG PG h (f (some x.2)):=by
 rw[kC];have:cG PG h (cellsIn r)=some (some x.2):=by
  show(kI h r).bind _=_;rw[hs];rfl
 rw[this];rfl
def to_unsafe{h:PH}{a:Nat}{c:Array Value}(ha:h a=some (.cells c fR (0,0)))(hc:1<c.size):cG PG h (convert eD iM (pT a 1))=some (pT a 1):=by
 have hs:kI h a=some (some (fR,c.size)):=by unfold kI;rw[ha]
 show cG PG h (underlying eD >>= _)=_;rw[kM eD.und];show cG PG h (underlying iM >>= _)=_;rw[kM iM.und];show cG PG h (underlying eD >>= _)=_;rw[kM eD.und];show cG PG h (underlying iM >>= _)=_;rw[kM iM.und];show cG PG h (Conv.seenAt ⟨a,1,none⟩ >>= _)=_;rw[semE_seenAt (a:=⟨a,1,none⟩) hs];show cG PG h (cellsIn a >>= _)=_;rw[semE_cellsIn hs];have h1:¬(1 ≥ c.size):=by omega
 simp only[kP];rw[aBZ dN.info];simp[dN.size,h1,cG,pure]
def from_unsafe{h:PH}{a:Nat}{c:Array Value}(ha:h a=some (.cells c fR (0,0)))(hc:c.size=3):cG PG h (convert iM eD (pT a 1))=some (pT a 1):=by
 have hs:kI h a=some (some (fR,c.size)):=by unfold kI;rw[ha]
 rw[hc] at hs;show cG PG h (underlying iM >>= _)=_;rw[kM iM.und];show cG PG h (underlying eD >>= _)=_;rw[kM eD.und];show cG PG h (underlying iM >>= _)=_;rw[kM iM.und];show cG PG h (underlying eD >>= _)=_;rw[kM eD.und];show cG PG h (Conv.seenAt ⟨a,1,none⟩ >>= _)=_;rw[semE_seenAt (a:=⟨a,1,none⟩) hs];have hv:cG PG h (variablesAt ⟨a,1,none⟩ dN 1)=some true:=by
  show(kI h a).bind _=_;rw[hs]
  kernel_rfl
 simp only[kP];rw[aBZ dN.info];simp only[dN.size];rw[kC,hv];simp[cG,pure]
def NoEscape_ok{h:PH}{v:Value}{k:cD}(hk:k v h):aT PG aAw #[v] h k:=
 aT.entry (v:=v) (by kernel_rfl) hk
structure WAt(h:PH)(a:Nat)(e:Int)(bs:List UInt8)(F:List Nat):Prop where
 here:∃p v G,h a=some (.cells #[.int .i64 e,p,v] fR (0,0))∧(p= .pointer none∨p=pT a 1)∧eM h dU 1 v (bs.map jQ) G∧F=a::G∧a∉G
def WAt.known{h:PH}{a:Nat}{e:Int}{bs:List UInt8}{F:List Nat}(H:WAt h a e bs F):∀b∈F,h b≠none:=by
 obtain⟨p,v,G,ha,hp,hO,rfl,hn⟩:=H;intro b hb;rcases gU.1 hb with rfl|hb
 ·rw[ha];simp
 ·exact hO.known b hb
def WAt.upd{h h':PH}{a:Nat}{e:Int}{bs:List UInt8}{F G:List Nat}(H:WAt h a e bs F)(u:cQ G h h')(hd:∀b∈F,b∉G):WAt h' a e bs F:=by
 obtain⟨p,v,G',ha,hp,hO,rfl,hn⟩:=H;exact⟨p,v,G',u.get ha (hd a (by simp)),hp,hO.upd u (λb hb=>hd b (by simp[hb])),rfl,hn⟩
def WAt.ext{h h':PH}{a:Nat}{e:Int}{bs:List UInt8}{F:List Nat}(H:WAt h a e bs F)(u:dD h h'):WAt h' a e bs F:=H.upd u (by simp)
def aHD(h:PH)(a:Nat)(F:List Nat)(e:Int)(bs:List UInt8)(k:PH->Prop):Prop:=∀h' F',WAt h' a e bs F'->cQ F h h'->(∀b∈F',b∈F∨h b=none)->k h'
def copyCheck_ok{h:PH}{a:Nat}{m p v:Value}(ha:h a=some (.cells #[m,p,v] fR (0,0)))(hp:p= .pointer none∨p=pT a 1){k:cD}
  (hk:∀h',h' a=some (.cells #[m,pT a 1,v] fR (0,0))->cQ [a] h h'->(∀b,b≠a->h' b=h b)->k (.tuple #[]) h'):aT PG mS #[pT a 1] h k:=by
 apply nW.call;unfold nW;have hc:dB h ⟨a,1,none⟩=some p:=by simp[dB,ha]
 simp only[dN.f0,eD.load,hc,cE,reduceIte];rcases hp with rfl|rfl
 ·simp only[aDA eD.und,Option.isNone_none,cE,reduceIte];refine cG.semH (to_unsafe ha (by simp)) ?_;refine NoEscape_ok ?_;refine cG.semH (from_unsafe ha (by simp)) ?_;refine iT eD.und rfl ha (by simp) rfl eD.info eD.size ?_;exact hk _ dL (cQ.set (by simp)) (λb hb=>qY hb)
 ·simp only[aDA eD.und,Option.isNone_some,neqPtrSelf,dN.f0,eD.load,hc,cE,reduceIte];exact hk _ ha cQ.refl (λ_ _=>rfl)
def byte_lit(x:Int):jV PG (buildSlice dI 1 #[(0,.int .u8 x)])=some (.cells #[.int .u8 x] dU,λr=>pure (.slice (some ⟨r,0,none⟩) 1 1)):=by kernel_rfl
def buf_app{h:PH}{a:Nat}{e:Int}{p v x:Value}{bs ys:List UInt8}{G:List Nat}{t2 e2:TypeId}(hu2:PG.underlying t2=some (.slice e2))(ha:h a=some (.cells #[.int .i64 e,p,v] fR (0,0)))(hp:p= .pointer none∨p=pT a 1)(hO:eM h dU 1 v (bs.map jQ) G)(hn:a∉G)
  (hx:fZ h 1 x (ys.map jQ)) (hl:bs.length+ys.length≤140737488355328) {k:PH->Prop} (hk:aHD h a (a::G) e (bs++ys) k):
  dC PG (Builtin.append_ #[dI,t2] dI #[v,x]) h λv' h'=>dC PG (dT dI (pT a 2) v') h' λ_ h''=>k h'':=by
 refine jK dI.und hu2 dU.info dU.size dU.bytes dU.zero rfl (by decide) hO hx (jQ.isCell _) (by simp;omega) ?_;intro v2 h2 F2 hO2 u2 k2 _;rw[←pO] at hO2;have ha2:=u2.get ha hn;have hn2:a∉F2:=λhm=>by
  rcases k2 a hm with h1|h1
  ·exact hn h1
  ·rw[ha] at h1;cases h1
 refine iT dI.und rfl ha2 (by simp) ?_ dI.info dI.size ?_
 ·obtain⟨_,_,rfl,-⟩:=hO2.slR.here;rfl
 ·refine hk _ (a::F2) ⟨p,v2,F2,dL,hp,hO2.upd (cQ.set (F:=[a]) (by simp)) (λb hb=>by simp;rintro rfl;exact hn2 hb),rfl,hn2⟩ ((u2.mono λb hb=>.inl (by simp[hb])).trans (cQ.set (by simp))) (λb hb=>?_);rcases gU.1 hb with rfl|hb
  ·exact .inl (by simp)
  ·rcases k2 b hb with h1|h1
   ·exact .inl (by simp[h1])
   ·exact .inr h1
def WriteByte_ok{h:PH}{a:Nat}{e:Int}{bs:List UInt8}{F:List Nat}(hW:WAt h a e bs F)(hl:bs.length+1≤140737488355328)(x:UInt8){k:cD}(hk:aHD h a F e (bs++[x]) (k .nilIface)):
  aT PG mR #[pT a 1,.int .u8 x.toNat] h k:=by
 obtain⟨p,v,G,ha,hp,hO,rfl,hn⟩:=hW;apply nU.call;unfold nU;refine copyCheck_ok ha hp λh1 ha1 u1 o1=>?_;have hc:dB h1 ⟨a,2,none⟩=some v:=by simp[dB,ha1]
 have hO1:=hO.upd u1 (λb hb hf=>by simp at hf;subst hf;exact hn hb);simp only[dN.f1,dI.load,hc,byte_lit,cE,reduceIte];intro r hr;refine fP ?_;have u2:dD h1 (h1.set r (.cells #[.int .u8 x.toNat] dU)):=cQ.new hr;have s2:fZ (h1.set r (.cells #[.int .u8 x.toNat] dU)) 1 (.slice (some ⟨r,0,none⟩) 1 1) ([x].map jQ):=(eM.lit (jQ.rows [x]) dL (by simp) (by decide) (by simp[jQ])).slR;refine buf_app dI.und (u2.get ha1) (.inr rfl) (hO1.ext u2) hn s2 (by simpa using hl) ?_;intro h3 F3 hW3 u3 k3;refine hk _ F3 hW3 ((u1.mono λb hb=>.inl (by simp at hb;simp[hb])).trans (u2.upd.trans u3)) λb hb=>?_;rcases k3 b hb with h'|h'
 ·exact .inl h'
 ·by_cases hba:b=a
  ·exact .inl (by simp[hba])
  ·have:=u2.none h';rw[o1 b hba] at this;exact .inr this
def buf_str{h:PH}{a:Nat}{e:Int}{p v:Value}{bs ys:List UInt8}{G:List Nat}(ha:h a=some (.cells #[.int .i64 e,p,v] fR (0,0)))(hp:p= .pointer none∨p=pT a 1)(hO:eM h dU 1 v (bs.map jQ) G)(hn:a∉G)
  (hl:bs.length+ys.length≤140737488355328) {k:PH->Prop} (hk:aHD h a (a::G) e (bs++ys) k):
  dC PG (Builtin.append_ #[dI,bT] dI #[v,.string (tx ys)]) h λv' h'=>dC PG (dT dI (pT a 2) v') h' λ_ h''=>k h'':=by
 refine aOr dI.und bT.und dU.info dU.size dU.bytes dU.zero rfl (by decide) hO (by simp;omega) ?_;intro v2 h2 F2 hO2 u2 k2 _;rw[←pO] at hO2;have ha2:=u2.get ha hn;have hn2:a∉F2:=λhm=>by
  rcases k2 a hm with h1|h1
  ·exact hn h1
  ·rw[ha] at h1;cases h1
 refine iT dI.und rfl ha2 (by simp) ?_ dI.info dI.size ?_
 ·obtain⟨_,_,rfl,-⟩:=hO2.slR.here;rfl
 ·refine hk _ (a::F2) ⟨p,v2,F2,dL,hp,hO2.upd (cQ.set (F:=[a]) (by simp)) (λb hb=>by simp;rintro rfl;exact hn2 hb),rfl,hn2⟩ ((u2.mono λb hb=>.inl (by simp[hb])).trans (cQ.set (by simp))) (λb hb=>?_);rcases gU.1 hb with rfl|hb
  ·exact .inl (by simp)
  ·rcases k2 b hb with h1|h1
   ·exact .inl (by simp[h1])
   ·exact .inr h1
def WriteString_ok{h:PH}{a:Nat}{e:Int}{bs ys:List UInt8}{F:List Nat}(hW:WAt h a e bs F)(hl:bs.length+ys.length≤140737488355328){k:cD}(hk:aHD h a F e (bs++ys) (k (.tuple #[.int .i64 ys.length,.nilIface]))):
  aT PG lC #[pT a 1,.string (tx ys)] h k:=by
 obtain⟨p,v,G,ha,hp,hO,rfl,hn⟩:=hW;apply kZ.call;unfold kZ;refine copyCheck_ok ha hp λh1 ha1 u1 o1=>?_;have hc:dB h1 ⟨a,2,none⟩=some v:=by simp[dB,ha1]
 have hO1:=hO.upd u1 (λb hb hf=>by simp at hf;subst hf;exact hn hb);simp only[dN.f1,dI.load,hc,bT.len,iF,cE,reduceIte];refine buf_str ha1 (.inr rfl) hO1 hn hl ?_;intro h3 F3 hW3 u3 k3;refine hk _ F3 hW3 ((u1.mono λb hb=>.inl (by simp at hb;simp[hb])).trans u3) λb hb=>?_;rcases k3 b hb with h'|h'
 ·exact .inl h'
 ·by_cases hba:b=a
  ·exact .inl (by simp[hba])
  ·rw[o1 b hba] at h';exact .inr h'
def semE_loadBytes{h:PH}:∀(l:List UInt8) (a:Addr) (acc:ByteArray),a.spot=none->(∀j x,l[j]? =some x->dB h (a.add j)=some (.int .u8 x.toNat))->cG PG h (loadBytes a acc l.length)=some ⟨acc.data++l.toArray⟩
 | [],a,acc,_,_=>by show some acc=_;simp
 | x::xs,a,acc,hsp,hc=>by
  have h0:=hc 0 x rfl;have ha0:a.add 0=a:=by obtain⟨b,o,w⟩:=a;cases w<;>simp[Addr.add]
  rw[ha0] at h0;show(dB h a).bind _=_;rw[h0,aDW];show cG PG h (loadBytes (a.add 1) (acc.push ((x.toNat:Int).toNat.toUInt8)) xs.length)=_;rw[semE_loadBytes xs (a.add 1) _ (by obtain⟨b,o,w⟩:=a;simp at hsp;subst hsp;rw[lP]) λj y hy=>?_]
  ·congr 1;apply ByteArray.ext;show(acc.push _).data++xs.toArray=_;rw[ByteArray.data_push];apply zLw;simp
  ·have:=hc (j+1) y (by simpa using hy);have e:(a.add 1).add j=a.add (j+1):=by
    obtain⟨b,o,w⟩:=a;simp at hsp;subst hsp;rw[lP,lP,lP];congr 1;omega
   rw[e];exact this
def unsafeStr{h:PH}{g:Nat}{cs:Array Value}{bs:List UInt8}(hb:h g=some (.cells cs dU (0,0)))(hle:bs.length≤cs.size)(hcs:cs.toList.take bs.length=bs.map λb=>Value.int .u8 b.toNat)(hne:bs≠[])(hmax:bs.length≤rB){k:cD}
  (hk:∀h',cQ [g] h h'->k (.string (tx bs)) h'):dC PG (Builtin.unsafeString_ #[oX,bR] bT #[pT g 0,.int .i64 bs.length]) h k:=by
 have hl:bs.length≠0:=by simpa using hne
 have h63:¬((bs.length:Int)>IntKind.i64.max):=by
  have:IntKind.i64.max=9223372036854775807:=rfl;unfold rB at hmax;omega
 have hneg:¬(bs.length:Int)<0:=by omega
 have hz:¬(bs.length:Int)=0:=by omega
 have hdef:Builtin.unsafeString_ #[oX,bR] bT #[pT g 0,.int .i64 bs.length]=
   (do
    let n ←asInt (.int .i64 bs.length)
    if n<0 then runtimePanic (.error "unsafe.String: len out of range")
    if n>IntKind.i64.max then unsupported (.unsafePointer "String: a length above the largest int")
    if n=0 then pure (.string .empty)
    else if ←variablesAt ⟨g,0,none⟩ (←elemOf oX) n.toNat then do
     let s ←loadBytes ⟨g,0,none⟩ .empty n.toNat
     freeze ⟨g,0,none⟩ n.toNat
     pure (.string s)
    else unsupported (.unsafePointer "String: not so many bytes at ptr")):=rfl
 rw[hdef];have hs:kI h g=some (some (dU,cs.size)):=by unfold kI;rw[hb]
 have hv:cG PG h (variablesAt ⟨g,0,none⟩ dU bs.length)=some true:=by
  show(kI h g).bind _=_;rw[hs];have hc1:PG.cellsOf dU=1:=by kernel_rfl
  have:=Go.Lib.liesAt_bytes (P:=PG) hc1 (cs.size/PG.cellsOf dU) bs.length (by rw[hc1];simpa using hle);show some (liesAt PG PG.depth dU (cs.size/PG.cellsOf dU) 0 dU bs.length)=some true;rw[this]
 have hlb:=semE_loadBytes (h:=h) bs ⟨g,0,none⟩ .empty rfl (λj x hx=>by
  rw[lP];unfold dB;simp only[hb,fQ];have hj:j<bs.length:=(zLA.1 hx).1;have:(cs.toList.take bs.length)[j]? =some (.int .u8 x.toNat):=by rw[hcs,wA,hx];rfl
  rw[aJ9,if_pos hj] at this;simpa using this)
 have helem:cG PG h (elemOf oX)=some dU:=by kernel_rfl
 simp only[asInt,asIntOf,pure_bind,map_pure,hneg,h63,hz,if_false,rA];refine iD helem ?_;refine iD hv ?_;simp only[if_true];refine iD hlb ?_;show(∃o,h g=some o)∧_;refine⟨⟨_,hb⟩,?_⟩;have hfin:=hk (nJ h ⟨g,0,none⟩ bs.length) (λb o hbo hn=>by
  unfold nJ;rw[if_neg hl,if_neg (by simpa using hn)];exact hbo)
 show k (.string _) _;have e:(⟨ByteArray.empty.data++bs.toArray⟩:ByteArray)=tx bs:=by apply ByteArray.ext;simp[tx]
 rw[e];exact hfin
def unsafeNone{h:PH}{q:Option Addr}:cG PG h (Builtin.unsafeString_ #[oX,bR] bT #[.pointer q,.int .i64 0])=some (.string (tx [])):=by
 cases q<;>rfl
def String_ok{h:PH}{a:Nat}{e:Int}{bs:List UInt8}{F:List Nat}(hW:WAt h a e bs F){k:cD}(hk:∀h',cQ F h h'->k (.string (tx bs)) h'):
  aT PG kU #[pT a 1] h k:=by
 obtain⟨p,v,G,ha,hp,hO,rfl,hn⟩:=hW;have hc:dB h ⟨a,2,none⟩=some v:=by simp[dB,ha]
 have lv:=hO.slR.len (t':=bR) dI.und;rw[iV] at lv;apply lB.call;unfold lB;simp only[dN.f1,dI.load,hc,lv,cE,reduceIte];have hload:∀h',dB h' ⟨a,2,none⟩=some v->cG PG h' (loadAt dI (pT a 2))=some v:=λh' h1=>by rw[dI.load];exact h1
 rcases hO.here with⟨rfl,hr,rfl⟩|⟨g,cap,cs,rfl,rfl,hb,hle,hmax,hsz,htk⟩
 ·have hnil:bs=[]:=by simpa using hr
  subst hnil;refine cG.semH (a:=.pointer none) rfl ?_;refine⟨hc,?_⟩;refine cG.semH unsafeNone ?_;exact hk _ cQ.refl
 ·simp only[iV] at *;by_cases hne:bs=[]
  ·subst hne;by_cases hc0:cap=0
   ·subst hc0;have hs:kI h g=some (some (dU,cs.size)):=by unfold kI;rw[hb]
    show dC PG (viewAt g >>= _) h _;refine iD (a:=none) (by rw[show viewAt g=(viewAt g >>= λx=>pure x) by simp,semE_viewAt hs];rfl) ?_;refine iD (a:=dU) (by kernel_rfl) ?_;intro r hr;have u:dD h (h.set r (.view ⟨g,0,none⟩ dU)):=cQ.new hr;refine⟨by rw[dB];simp[u.get ha],?_⟩;refine cG.semH unsafeNone ?_;exact hk _ u.upd
   ·refine cG.semH (a:=pT g 0) ?_ ?_
    ·show cG PG h (if cap≠0 then _ else _)=_;rw[if_pos hc0];rfl
    ·refine⟨hc,?_⟩;refine cG.semH unsafeNone ?_;exact hk _ cQ.refl
  ·have hpos:0<bs.length:=aIA.2 hne;refine cG.semH (a:=pT g 0) ?_ ?_
   ·show cG PG h (if cap≠0 then _ else _)=_;rw[if_pos (by omega)];rfl
   ·refine⟨hc,?_⟩;rw[Nat.mul_one,jQ.flat] at htk;refine unsafeStr hb (by omega) htk hne (by omega) λh' u=>?_;exact hk _ (u.mono λb hb=>.inl (by simp at hb;simp[hb]))
structure WS(h0:PH)(F0:List Nat)(h:PH)(a:Nat)(e:Int)(bs:List UInt8)(F:List Nat):Prop where
 at_:WAt h a e bs F
 upd:cQ F0 h0 h
 grow:∀b∈F,b∈F0∨h0 b=none
def WS.refl{h:PH}{a:Nat}{e:Int}{bs:List UInt8}{F:List Nat}(H:WAt h a e bs F):WS h F h a e bs F:=⟨H,cQ.refl,λb hb=>.inl hb⟩
def WS.step{h0 h h':PH}{F0 F F':List Nat}{a:Nat}{e e':Int}{bs bs':List UInt8}(S:WS h0 F0 h a e bs F)(H:WAt h' a e' bs' F')(u:cQ F h h')(g:∀b∈F',b∈F∨h b=none):WS h0 F0 h' a e' bs' F':=
 ⟨H,S.upd.then u S.grow,λb hb=>by
  rcases g b hb with h1|h1
  ·exact S.grow b h1
  ·by_cases hF:b∈F0
   ·exact .inl hF
   ·right;cases hh:h0 b with
    | none=>rfl
    | some o=>rw[S.upd.get hh hF] at h1;cases h1⟩
def WS.ext{h0 h h':PH}{F0 F:List Nat}{a:Nat}{e:Int}{bs:List UInt8}(S:WS h0 F0 h a e bs F)(u:dD h h'):WS h0 F0 h' a e bs F:=S.step (S.at_.ext u) u.upd (λb hb=>.inl hb)
def WS.next{h:PH}{a:Nat}{F:List Nat}{e:Int}{bs:List UInt8}{k:PH->Prop}(hk:aHD h a F e bs k){h':PH}{F':List Nat}(S:WS h F h' a e bs F'):k h':=hk h' F' S.at_ S.upd S.grow
def aSm(x:Int):dH PG (convert bR cA (.int .i64 x))=some (.int .u64 (IntKind.u64.wrap x)):=by kernel_rfl
def aXa(x:Int):dH PG (convert cA dU (.int .u64 x))=some (.int .u8 (IntKind.u8.wrap x)):=by kernel_rfl
def aJQ(x:Int):dH PG (convert cA bR (.int .u64 x))=some (.int .i64 (IntKind.i64.wrap x)):=by kernel_rfl
def aSW(x:Int):dH PG (convert dU cA (.int .u8 x))=some (.int .u64 (IntKind.u64.wrap x)):=by kernel_rfl
def aVQ{n k:Nat}(hk:k<8):((n:Int).fdiv (2^(min (((8*k:Nat):Int)).toNat IntKind.u64.bits)))=((n/256^k:Nat):Int):=by
 have e1:min (((8*k:Nat):Int)).toNat IntKind.u64.bits=8*k:=by
  have:IntKind.u64.bits=64:=rfl;rw[this];omega
 have e2:(2:Nat)^(8*k)=256^k:=by rw[Nat.pow_mul]
 rw[e1];have e3:((2:Int)^(8*k))=((256^k:Nat):Int):=by
  rw[←e2];exact(Int.natCast_pow 2 (8*k)).symm
 rw[e3,Int.fdiv_eq_ediv_of_nonneg _ (Int.natCast_nonneg _)];exact(Int.natCast_ediv n (256^k)).symm
def aRC{h:PH}{a:Nat}{e:Int}{bs:List UInt8}{F:List Nat}(hW:WAt h a e bs F){n c:Nat}(hc:c≤8)(hn:n<18446744073709551616)(hl:bs.length≤140737488355000){k:cD}(hk:aHD h a F e (bs++be n c) (k (.tuple #[]))):
  aT PG yJ #[pT a 0,.int .u64 n,.int .i64 c] h k:=by
 apply zL.call;unfold zL;have e0:IntKind.i64.wrap ((c:Int)-1)=(c:Int)-1:=fH (by omega) (by omega);simp only[e0,cE,reduceIte];refine⟨λvs h'=>∃(i:Nat) (F':List Nat),i≤c∧vs=[pT a 0,.int .u64 n,.int .i64 ((c:Int)-1-i)]∧WS h F h' a e (bs++(be n c).take i) F',λvs _=>match vs with|[_,_,.int _ j]=>(j+1).toNat|_=>0,⟨0,F,by omega,by simp,by simpa using WS.refl hW⟩,?_⟩;rintro ρ h' ⟨i,F',hi,hvs,S⟩;simp only[iH,jA,lN,and_true] at hvs;obtain⟨s0,s1,s2⟩:=hvs;rw[s0,s1,s2];unfold aIZ;by_cases hlt:i<c
 ·have hd:(0≤(c:Int)-1-i)=True:=by apply eq_true;omega
  obtain⟨q,hq⟩:∃q:Nat,c-1-i=q:=⟨_,rfl⟩;have hqi:(c:Int)-1-i=(q:Int):=by omega
  have e1:IntKind.i64.wrap (8*(q:Int))=((8*q:Nat):Int):=by rw[fH (by omega) (by omega)];omega
  have e2:IntKind.i64.wrap ((q:Int)-1)=(c:Int)-1-((i+1:Nat):Int):=by rw[fH (by omega) (by omega)];omega
  have h8:(0:Int)≤((8*q:Nat):Int):=by omega
  have e3:IntKind.u8.wrap (((n/256^q:Nat):Int))=((UInt8.ofNat (n/256^q%256)).toNat:Int):=by
   rw[aJV];simp
  rw[hqi] at hd ⊢;simp only[hd,fR.f1,fQ,e1,aJn h8,aVQ (show q<8 by omega),aXa,e3,e2,cE,reduceIte];have hlen:(bs++(be n c).take i).length≤140737488355100:=by
   rw[jM,nI,jF];omega
  refine WriteByte_ok S.at_ (by omega) _ λh3 F3 hW3 u3 k3=>?_;have ht:=aKA (n:=n) hlt;rw[hq] at ht;rw[nM,←ht] at hW3;exact⟨⟨i+1,F3,by omega,rfl,S.step hW3 u3 k3⟩,by simp[s2];omega⟩
 ·have hd:(0≤(c:Int)-1-i)=False:=by apply eq_false;omega
  rw[lY (by rw[jF];omega)] at S;simp only[hd,cE,reduceIte];exact S.next hk
def aSN{h:PH}{a:Nat}{e:Int}{bs:List UInt8}{F:List Nat}(hW:WAt h a e bs F)(x:Int){k:cD}(hk:aHD h a F (if e=0 then x else e) bs (k (.tuple #[]))):
  aT PG lM #[pT a 0,.int .i64 x] h k:=by
 have hW':=hW;obtain⟨p,v,G,ha,hp,hO,rfl,hn⟩:=hW;have hc:dB h ⟨a,0,none⟩=some (.int .i64 e):=by simp[dB,ha]
 apply qS.call;unfold qS;by_cases h0:e=0
 ·have q:(e==0)=true:=by simp[h0]
  rw[if_pos h0] at hk;simp only[oF.f0,fY.load,hc,q,cE,reduceIte];refine iT fY.und rfl ha (by simp) rfl fY.info fY.size ?_;refine hk _ (a::G) ⟨p,v,G,dL,hp,hO.upd (cQ.set (F:=[a]) (by simp)) (λb hb=>by simp;rintro rfl;exact hn hb),rfl,hn⟩ (cQ.set (by simp)) (λb hb=>.inl hb)
 ·have q:(e==0)=false:=by simp[h0]
  rw[if_neg h0] at hk;simp only[oF.f0,fY.load,hc,q,cE,reduceIte];exact hk _ _ hW' cQ.refl (λb hb=>.inl hb)
def aHF(s:Int×List UInt8)(n:Int):Int×List UInt8:=if 0≤n∧n≤255 then(s.1,s.2++be n.toNat 1) else(if s.1=0 then 1 else s.1,s.2)
def aKD(s:Int×List UInt8)(l:List UInt8):Int×List UInt8:=if l.length≤65535 then(s.1,s.2++(be l.length 2++l)) else(if s.1=0 then 1 else s.1,s.2)
def aXr{h:PH}{a:Nat}{e:Int}{bs:List UInt8}{F:List Nat}(hW:WAt h a e bs F)(hl:bs.length≤140737488355000)(n:Int){k:cD}(hk:aHD h a F (aHF (e,bs) n).1 (aHF (e,bs) n).2 (k (.tuple #[]))):
  aT PG oC #[pT a 0,.int .i64 n] h k:=by
 apply aDh.call;unfold aDh;unfold aHF at hk;have bad:¬(0≤n∧n≤255)->aT PG lM #[pT a 0,.int .i64 1] h λv12 h13=>k (.tuple #[]) h13:=by
  intro hb;rw[if_neg hb] at hk;exact aSN hW 1 hk
 by_cases h1:n<0
 ·simp only[h1,fR.f0,cE,reduceIte];exact bad (by omega)
 ·by_cases h2:255<n
  ·simp only[h1,h2,fR.f0,cE,reduceIte];exact bad (by omega)
  ·rw[if_pos (by omega)] at hk;obtain⟨m,rfl⟩:=zLn (a:=n) (by omega);have e1:IntKind.u64.wrap (m:Int)=(m:Int):=gO (by omega) (by omega);simp only[h1,h2,aSm,e1,cE,reduceIte];exact aRC hW (c:=1) (by omega) (by omega) hl hk
def aUY{h:PH}{a:Nat}{e:Int}{bs:List UInt8}{F:List Nat}(hW:WAt h a e bs F)(hl:bs.length≤140737488355000){n:Nat}(hn:n<18446744073709551616){k:cD}(hk:aHD h a F e (bs++be n 8) (k (.tuple #[]))):
  aT PG mX #[pT a 0,.int .u64 n] h k:=by
 apply aBd.call;unfold aBd;exact aRC hW (c:=8) (by omega) hn hl hk
def aSj{h:PH}{a:Nat}{e:Int}{bs ys:List UInt8}{F:List Nat}(hW:WAt h a e bs F)(hl:bs.length+ys.length≤140737488355328){k:cD}(hk:aHD h a F e (bs++ys) (k (.tuple #[]))):
  aT PG tU #[pT a 0,.string (tx ys)] h k:=by
 apply aES.call;unfold aES;simp only[fR.f1,fQ,cE,reduceIte];exact WriteString_ok hW hl hk
def aXz{h:PH}{a:Nat}{e:Int}{bs ys:List UInt8}{F:List Nat}(hW:WAt h a e bs F)(hl:bs.length≤140737488200000){k:cD}(hk:aHD h a F (aKD (e,bs) ys).1 (aKD (e,bs) ys).2 (k (.tuple #[]))):
  aT PG sC #[pT a 0,.string (tx ys)] h k:=by
 apply aDa.call;unfold aDa;unfold aKD at hk;by_cases h1:ys.length≤65535
 ·have q:((65535:Int)<(ys.length:Int))=False:=by apply eq_false;omega
  rw[if_pos h1] at hk;have e1:IntKind.u64.wrap (ys.length:Int)=(ys.length:Int):=gO (by omega) (by omega);simp only[bT.len,iF,q,aSm,e1,cE,reduceIte];refine aRC hW (c:=2) (by omega) (by omega) (by omega) λh2 F2 hW2 u2 k2=>?_;have hl2:=jF ys.length 2;refine aSj hW2 (by rw[jM,hl2];omega) λh3 F3 hW3 u3 k3=>?_;rw[nM] at hW3;exact WS.next hk (((WS.refl hW).step hW2 u2 k2).step hW3 u3 k3)
 ·have q:((65535:Int)<(ys.length:Int))=True:=by apply eq_true;omega
  rw[if_neg h1] at hk;simp only[bT.len,iF,q,fR.f0,cE,reduceIte];exact aSN hW 1 hk
def aNJ{h:PH}{a:Nat}{e:Int}{c:Array Value}{T:TypeId}{fr:Nat×Nat}(ha:h a=some (.cells c T fr))(hc:c[0]? =some (.int .i64 e)){k:cD}(hk:k (.int .i64 e) h):aT PG oW #[pT a 0] h k:=by
 apply aEq.call;unfold aEq;have hc':dB h ⟨a,0,none⟩=some (.int .i64 e):=by simp[dB,ha,hc]
 simp only[oF.f0,fY.load,hc',cE,reduceIte];exact hk
def aJd(s:Int×List UInt8):List UInt8×Int:=if s.1=0 then(s.2,0) else([],s.1)
def aOJ{h:PH}{a:Nat}{e:Int}{bs:List UInt8}{F:List Nat}(hW:WAt h a e bs F){k:cD}(hk:∀h',cQ F h h'->k (.tuple #[.string (tx (aJd (e,bs)).1),.int .i64 (aJd (e,bs)).2]) h'):
  aT PG vD #[pT a 0] h k:=by
 have hW':=hW;obtain⟨p,v,G,ha,hp,hO,rfl,hn⟩:=hW;apply aCd.call;unfold aCd;unfold aJd at hk;simp only[fR.f0,fR.f1,fQ,cE,reduceIte];refine aNJ ha rfl ?_;by_cases h0:e=0
 ·have q:(e !=0)=false:=by simp[h0]
  rw[if_pos h0] at hk;simp only[q,cE,reduceIte];exact String_ok hW' hk
 ·have q:(e !=0)=true:=by simp[h0]
  rw[if_neg h0] at hk;simp only[q,cE,reduceIte];exact hk _ cQ.refl
def aZ8{t:TypeId}{x b:Nat}(hx:x*256+255<18446744073709551616)(hb:b<256):dH PG (binOp .or t (.int .u64 ((x*256:Nat):Int)) (.int .u64 (b:Int)))=some (.int .u64 ((x*256+b:Nat):Int)):=by
 have e:dH PG (binOp .or t (.int .u64 ((x*256:Nat):Int)) (.int .u64 (b:Int)))=some (.int .u64 (IntKind.u64.wrap ((BitVec.ofInt IntKind.u64.bits ((x*256:Nat):Int) ||| BitVec.ofInt IntKind.u64.bits (b:Int)).toNat))):=rfl;rw[e];congr 2;have h64:IntKind.u64.bits=64:=rfl;rw[h64,BitVec.toNat_or,BitVec.ofInt_natCast,BitVec.ofInt_natCast,BitVec.toNat_ofNat,BitVec.toNat_ofNat,aFn (by omega),aFn (by omega)];have:=Nat.shiftLeft_add_eq_or_of_lt (i:=8) (b:=b) (by omega) x;rw[Nat.shiftLeft_eq] at this;have e2:(x*256 ||| b)=x*256+b:=this.symm;rw[e2,gO (by omega) (by omega)]
structure rQ(h:PH)(a:Nat)(e:Int)(s:List UInt8):Prop where
 here:h a=some (.cells #[.int .i64 e,.string (tx s)] gL (0,0))
def rQ.upd{h h':PH}{a:Nat}{e:Int}{s:List UInt8}{G:List Nat}(H:rQ h a e s)(u:cQ G h h')(hd:a∉G):rQ h' a e s:=⟨u.get H.here hd⟩
def rQ.ext{h h':PH}{a:Nat}{e:Int}{s:List UInt8}(H:rQ h a e s)(u:dD h h'):rQ h' a e s:=H.upd u (by simp)
def aQ9{h:PH}(s:List UInt8){k:cD}(hk:∀a h',rQ h' a 0 s->dD h h'->h a=none->k (pT a 0) h'):aT PG aFk #[.string (tx s)] h k:=by
 apply aFb.call;unfold aFb;have e1:dH PG (build gL #[(1,.string (tx s))])=some (.agg #[.int .i64 0,.string (tx s)]):=by kernel_rfl
 simp only[e1,cE,reduceIte];intro r hr;exact hk r _ ⟨dL⟩ (cQ.new hr) hr
def jY(st:Int×List UInt8)(n:Int):List UInt8×(Int×List UInt8):=
 if st.1=0∧0≤n∧n≤st.2.length then(st.2.take n.toNat,(0,st.2.drop n.toNat)) else([],(if st.1=0 then 6 else st.1,st.2))
def aQ1{h:PH}{a:Nat}{e:Int}{s:List UInt8}(hR:rQ h a e s)(n:Int){k:cD}(hk:∀h',rQ h' a (jY (e,s) n).2.1 (jY (e,s) n).2.2->cQ [a] h h'->k (.string (tx (jY (e,s) n).1)) h'):
  aT PG yX #[pT a 0,.int .i64 n] h k:=by
 have ha:=hR.here;have c1:dB h ⟨a,1,none⟩=some (.string (tx s)):=by simp[dB,ha]
 have c0:dB h ⟨a,0,none⟩=some (.int .i64 e):=by simp[dB,ha]
 apply aEg.call;unfold aEg;have tail:∀(e':Int),(e'≠0->∀h',h' a=some (.cells #[.int .i64 e',.string (tx s)] gL (0,0))->cQ [a] h h'->k (.string (tx [])) h')->(e'=0->0≤n∧n≤s.length)->(e'=0->e=0)->∀h',h' a=some (.cells #[.int .i64 e',.string (tx s)] gL (0,0))->cQ [a] h h'->wZ k (pT a 0) (.int .i64 n) h':=by
  intro e' hbad hgood he h' ha' u';unfold wZ;simp only[gL.f0,gL.f1,fQ,cE,reduceIte];refine aNJ ha' rfl ?_;by_cases h0:e'=0
  ·have q:(e' !=0)=false:=by simp[h0]
   obtain⟨g1,g2⟩:=hgood h0;have c1':dB h' ⟨a,1,none⟩=some (.string (tx s)):=by simp[dB,ha']
   obtain⟨m,rfl⟩:=zLn g1;have hm:m≤s.length:=by omega
   simp only[q,gL.f1,fQ,bT.load,c1',aId (lo:=none) bT.und (.inl ⟨rfl,rfl⟩) (.inr ⟨.i64,rfl⟩) (aFl m) hm,aId (hi:=none) bT.und (.inr ⟨.i64,rfl⟩) (.inl ⟨rfl,rfl⟩) hm (nC _),cE,reduceIte];refine iT bT.und rfl ha' (by simp) rfl bT.info bT.size ?_;have hr:jY (e,s) (m:Int)=(s.take m,(0,s.drop m)):=by
    unfold jY;rw[if_pos ⟨he h0,by omega,by simpa using hm⟩];simp
   rw[hr] at hk;rw[zLb,lY (nC _)];refine hk _ ⟨?_⟩ (u'.trans (cQ.set (by simp)));rw[dL,h0];rfl
  ·have q:(e' !=0)=true:=by simp[h0]
   simp only[q,cE,reduceIte];exact hbad h0 h' ha' u'
 have hin:e=0->¬(0≤n∧n≤s.length)->jY (e,s) n=([],(6,s)):=λh0 hb=>by
  unfold jY;rw[if_neg (by rintro⟨_,h2⟩;exact hb h2),if_pos h0]
 have hne:e≠0->jY (e,s) n=([],(e,s)):=λh0=>by
  unfold jY;rw[if_neg (by rintro⟨h1,_⟩;exact h0 h1),if_neg h0]
 have fails:¬(0≤n∧n≤s.length)->aT PG lM #[pT a 0,.int .i64 6] h λv h'=>wZ k (pT a 0) (.int .i64 n) h':=by
  intro hb;apply qS.call;unfold qS;by_cases h0:e=0
  ·have q:(e==0)=true:=by simp[h0]
   simp only[oF.f0,fY.load,c0,q,cE,reduceIte];refine iT fY.und rfl ha (by simp) rfl fY.info fY.size ?_;refine tail 6 (λ_ h' ha' u'=>?_) (λh=>absurd h (by decide)) (λh=>absurd h (by decide)) _ dL (cQ.set (by simp));have:=hk h';rw[hin h0 hb] at this;exact this ⟨ha'⟩ u'
  ·have q:(e==0)=false:=by simp[h0]
   simp only[oF.f0,fY.load,c0,q,cE,reduceIte];refine tail e (λ_ h' ha' u'=>?_) (λh1=>absurd h1 h0) (λh1=>h1) _ ha cQ.refl;have:=hk h';rw[hne h0] at this;exact this ⟨ha'⟩ u'
 by_cases h1:n<0
 ·simp only[h1,gL.f0,cE,reduceIte];exact fails (by omega)
 ·by_cases h2:(s.length:Int)<n
  ·simp only[h1,gL.f0,gL.f1,fQ,bT.load,c1,bT.len,iF,h2,cE,reduceIte];exact fails (by omega)
  ·simp only[h1,gL.f1,fQ,bT.load,c1,bT.len,iF,h2,cE,reduceIte];refine tail e (λh0 h' ha' u'=>?_) (λ_=>by omega) (λh1=>h1) _ ha cQ.refl;have:=hk h';rw[hne h0] at this;exact this ⟨ha'⟩ u'
def gV(st:Int×List UInt8)(c:Nat):Nat×(Int×List UInt8):=(val (jY st c).1,(jY st c).2)
def aJW(st:Int×List UInt8)(c:Nat):(jY st c).1.length≤c:=by
 unfold jY;split
 ·simp;omega
 ·simp
def aQv{l:List UInt8}{i:Nat}{b:UInt8}(hb:l[i]? =some b):val (l.take (i+1))=val (l.take i)*256+b.toNat:=by
 rw[zLU,hb];exact aLL _ _
def aQV{l:List UInt8}{i:Nat}(hi:i<l.length)(hl:l.length≤8):val (l.take i)*256+255<18446744073709551616:=by
 have h1:=aOw (l.take i);rw[nI,aHZ (by omega)] at h1;have h2:256^i≤256^7:=aLi (by decide) (by omega);have h3:(256:Nat)^7=72057594037927936:=by decide
 omega
def aRV{h:PH}{a:Nat}{e:Int}{s:List UInt8}(hR:rQ h a e s){c:Nat}(hc:c≤8){k:cD}(hk:∀h',rQ h' a (gV (e,s) c).2.1 (gV (e,s) c).2.2->cQ [a] h h'->k (.int .u64 (gV (e,s) c).1) h'):
  aT PG yT #[pT a 0,.int .i64 c] h k:=by
 apply aEo.call;unfold aEo;refine aQ1 hR c λh1 hR1 u1=>?_;have hlen:=aJW (e,s) c;unfold gV at hk;generalize hrr:jY (e,s) (c:Int)=rr at *;refine aWc bT.und dI.und dU.und (by omega) λv h2 hS u2=>?_;have lv:=hS.len (t':=bR) dI.und;rw[iV] at lv;simp only[lv,cE,reduceIte];refine⟨λvs h'=>∃i:Nat,i≤rr.1.length∧vs=[.int .u64 (val (rr.1.take i)),v,.int .i64 rr.1.length,.int .i64 i]∧h'=h2,gQ rr.1.length 3,⟨0,by omega,rfl,rfl⟩,?_⟩;rintro ρ h' ⟨i,hi,hvs,rfl⟩;simp only[iH,jA,lN,and_true] at hvs;obtain⟨s0,s1,s2,s3⟩:=hvs;rw[s0,s1,s2,s3];unfold aIW;by_cases hlt:i<rr.1.length
 ·have hd:((i:Int)<(rr.1.length:Int))=True:=by apply eq_true;omega
  obtain⟨b,hb⟩:∃b,rr.1[i]? =some b:=⟨_,lJ hlt⟩;obtain⟨p,p1,p2⟩:=hS.loadCell dI.und dU.info dU.size dU.und rfl (k:=.i64) (j:=(i:Int)) (x:=.int .u8 b.toNat) (by omega) (by simp[wA,hb,jQ]);have hsm:=aQV hlt (by omega);have ei:=qN (i:=i) (by omega);have e1:min (8:Int).toNat IntKind.u64.bits=8:=by decide
  have e2:IntKind.u64.wrap ((val (rr.1.take i):Int)*2^8)=((val (rr.1.take i)*256:Nat):Int):=by rw[gO (by omega) (by omega)];omega
  have hb8:=b.toNat_lt;have e3:IntKind.u64.wrap (b.toNat:Int)=(b.toNat:Int):=gO (by omega) (by omega);simp only[hd,p1,p2,aRW (show(0:Int)≤8 by decide),e1,e2,aSW,e3,aZ8 hsm hb8,ei,cE,reduceIte];exact⟨⟨i+1,by omega,by rw[aQv hb],by trivial⟩,by simp[gQ,s3];omega⟩
 ·have hd:((i:Int)<(rr.1.length:Int))=False:=by apply eq_false;omega
  rw[lY (by omega)];simp only[hd,cE,reduceIte];exact hk _ (hR1.ext u2) (u1.trans u2.upd)
def aN4{h:PH}{a:Nat}{e:Int}{s:List UInt8}(hR:rQ h a e s){k:cD}(hk:∀h',rQ h' a (gV (e,s) 1).2.1 (gV (e,s) 1).2.2->cQ [a] h h'->k (.int .i64 (gV (e,s) 1).1) h'):
  aT PG wX #[pT a 0] h k:=by
 apply aDg.call;unfold aDg;refine aRV hR (c:=1) (by omega) λh1 hR1 u1=>?_;have hlt:=aOw (jY (e,s) ((1:Nat):Int)).1;have hlen:=aJW (e,s) 1;have h2:256^(jY (e,s) ((1:Nat):Int)).1.length≤256^1:=aLi (by decide) hlen;have e1:IntKind.i64.wrap ((gV (e,s) 1).1:Int)=((gV (e,s) 1).1:Int):=by unfold gV;rw[fH (by omega) (by omega)]
 simp only[aJQ,e1,cE,reduceIte];exact hk _ hR1 u1
def aTm{h:PH}{a:Nat}{e:Int}{s:List UInt8}(hR:rQ h a e s){k:cD}(hk:∀h',rQ h' a (gV (e,s) 8).2.1 (gV (e,s) 8).2.2->cQ [a] h h'->k (.int .u64 (gV (e,s) 8).1) h'):
  aT PG aCt #[pT a 0] h k:=by
 apply aB0.call;unfold aB0;exact aRV hR (c:=8) (by omega) hk
def mW(st:Int×List UInt8):List UInt8×(Int×List UInt8):=jY (gV st 2).2 (gV st 2).1
def aH6(st:Int×List UInt8)(c:Nat):(gV st c).1<256^c:=by
 unfold gV;have hlt:=aOw (jY st (c:Int)).1;exact aLl hlt (aLi (by decide) (aJW st c))
def aRh{h:PH}{a:Nat}{e:Int}{s:List UInt8}(hR:rQ h a e s){k:cD}(hk:∀h',rQ h' a (mW (e,s)).2.1 (mW (e,s)).2.2->cQ [a] h h'->k (.string (tx (mW (e,s)).1)) h'):
  aT PG aAy #[pT a 0] h k:=by
 apply aDQ.call;unfold aDQ;refine aRV hR (c:=2) (by omega) λh1 hR1 u1=>?_;have hlt:=aH6 (e,s) 2;have e1:IntKind.i64.wrap ((gV (e,s) 2).1:Int)=((gV (e,s) 2).1:Int):=by rw[fH (by omega) (by omega)]
 simp only[aJQ,e1,cE,reduceIte];exact aQ1 hR1 _ λh2 hR2 u2=>hk _ hR2 (u1.trans u2)
def aVX{h:PH}{a:Nat}{e:Int}{s:List UInt8}(hR:rQ h a e s){k:cD}(hk:k (.int .i64 (if e=0 then(s.length:Int) else 0)) h):
  aT PG aEH #[pT a 0] h k:=by
 have ha:=hR.here;have c1:dB h ⟨a,1,none⟩=some (.string (tx s)):=by simp[dB,ha]
 apply aDi.call;unfold aDi;simp only[gL.f0,cE,reduceIte];refine aNJ ha rfl ?_;by_cases h0:e=0
 ·have q:(e !=0)=false:=by simp[h0]
  rw[if_pos h0] at hk;simp only[q,gL.f1,fQ,bT.load,c1,bT.len,iF,cE,reduceIte];exact hk
 ·have q:(e !=0)=true:=by simp[h0]
  rw[if_neg h0] at hk;simp only[q,cE,reduceIte];exact hk
abbrev kX:=Int×List UInt8
def aI1(st:kX)(n:Nat):kX:=(st.1,st.2++be n 8)
def aVJ(st:kX)(n:Int):(aHF st n).2.length≤st.2.length+1:=by
 unfold aHF;split<;>simp[jF]
def aRq(st:kX)(n:Nat):(aI1 st n).2.length≤st.2.length+8:=by simp[aI1,jF]
abbrev WN(h0:PH)(h:PH)(a:Nat)(st:kX)(F:List Nat):Prop:=WS h0 [] h a st.1 st.2 F
def WN.upd{h0 h:PH}{a:Nat}{st:kX}{F:List Nat}(S:WN h0 h a st F):dD h0 h:=WS.upd S
def WN.fresh{h0 h:PH}{a:Nat}{st:kX}{F:List Nat}(S:WN h0 h a st F):eK h0 F:=λb hb=>by
 rcases S.grow b hb with h1|h1
 ·cases h1
 ·exact h1
def aGW(h:PH)(F:List Nat)(h':PH)(F':List Nat):Prop:=∀r o,h r=some o->r∉F->h' r=some o∧r∉F'
def aOs{h h':PH}{F F':List Nat}(u:cQ F h h')(g:∀b∈F',b∈F∨h b=none):aGW h F h' F':=λr o hr hn=>⟨u.get hr hn,λhm=>by
 rcases g r hm with h1|h1
 ·exact hn h1
 ·rw[h1] at hr;cases hr⟩
def aMl{h0 h:PH}{a:Nat}{st:kX}{F:List Nat}(S:WN h0 h a st F)(hl:st.2.length≤1000000000)(n:Int){k:cD}(hk:∀h' F' x,x=aHF st n->WN h0 h' a x F'->aGW h F h' F'->k (.tuple #[]) h'):aT PG oC #[pT a 0,.int .i64 n] h k:=
 aXr S.at_ (by omega) n λh' F' hW u g=>hk h' F' _ rfl (S.step hW u g) (aOs u g)
def aJj{h0 h:PH}{a:Nat}{st:kX}{F:List Nat}(S:WN h0 h a st F)(hl:st.2.length≤1000000000){n:Nat}(hn:n<18446744073709551616){k:cD}(hk:∀h' F' x,x=aI1 st n->WN h0 h' a x F'->aGW h F h' F'->k (.tuple #[]) h'):aT PG mX #[pT a 0,.int .u64 n] h k:=
 aUY S.at_ (by omega) hn λh' F' hW u g=>hk h' F' (aI1 st n) rfl (S.step hW u g) (aOs u g)
def aRY{h0 h:PH}{a:Nat}{st:kX}{F:List Nat}(S:WN h0 h a st F)(hl:st.2.length≤1000000000)(ys:List UInt8){k:cD}(hk:∀h' F' x,x=aKD st ys->WN h0 h' a x F'->aGW h F h' F'->k (.tuple #[]) h'):aT PG sC #[pT a 0,.string (tx ys)] h k:=
 aXz S.at_ (by omega) λh' F' hW u g=>hk h' F' _ rfl (S.step hW u g) (aOs u g)
def WN.box{h0 h:PH}{a:Nat}{st:kX}{F:List Nat}(S:WN h0 h a st F){r:Nat}(hr:h r=none):r∉F:=λhm=>S.at_.known r hm hr
def WN.new{h0 h:PH}{a:Nat}{st:kX}{F:List Nat}(S:WN h0 h a st F){r:Nat}(hr:h r=none)(o:Obj):WN h0 (h.set r o) a st F:=WS.ext S (cQ.new hr)
def zW:dV PG fR= #[.int .i64 0,.pointer none,.slice none 0 0]:=by rw[fR.zc];rfl
def WN.start{h:PH}{r:Nat}(hr:h r=none):WN h (h.set r (.cells (dV PG fR) fR)) r (0,[]) [r]:=by
 have hW:WAt (h.set r (.cells (dV PG fR) fR)) r 0 [] [r]:=by
  rw[zW];exact⟨_,_,[],dL,.inl rfl,eM.nil,rfl,by simp⟩
 exact⟨hW,cQ.new hr,λb hb=>.inr (by simp only[gB] at hb;subst hb;exact hr)⟩
def aW6{h0 h:PH}{a:Nat}{st:kX}{F:List Nat}(S:WN h0 h a st F)(hl:st.2.length≤1000000000){ys:List UInt8}(hy:ys.length≤1000000000){k:cD}(hk:∀h' F' x,x=(st.1,st.2++ys)->WN h0 h' a x F'->aGW h F h' F'->k (.tuple #[]) h'):aT PG tU #[pT a 0,.string (tx ys)] h k:=
 aSj S.at_ (by omega) λh' F' hW u g=>hk h' F' (st.1,st.2++ys) rfl (S.step hW u g) (aOs u g)
def Pk.tx(p:Pk):Tx:=p.d.data.toList
def wPk(st:kX)(p:Pk):kX:=if p.right then aKD (aI1 (aI1 (aHF st p.f) p.s.toNat) p.t.toNat) p.tx else aHF st (-1)
structure Pl where
 h:Int
 i:Int
 deriving DecidableEq
def Pl.cells(q:Pl):List Value:=[.int .u64 q.h,.int .i64 q.i]
def Pk.bs(p:Pk):Tx:=be p.f.toNat 1++(be p.s.toNat 8++(be p.t.toNat 8++(be p.tx.length 2++p.tx)))
def aRx(p:Pk):p.tx.length=p.d.size:=rfl
def Pk.right_iff{p:Pk}:p.right=true↔0≤p.f∧p.f≤1∧p.s≠0∧p.t≠0∧p.d.size≤64:=by
 unfold Pk.right;simp only[yH,decide_eq_true_eq,and_assoc]
def aVs{p:Pk}(h:p.right=true)(b:Tx):wPk (0,b) p=(0,b++p.bs):=by
 obtain⟨h1,h2,-,-,h5⟩:=Pk.right_iff.1 h;unfold wPk;rw[if_pos h];unfold aHF aI1 aKD;rw[if_pos (show p.tx.length≤65535 by rw[aRx];omega),if_pos (show 0≤p.f∧p.f≤255 from⟨h1,by omega⟩)];simp only[Pk.bs,nM]
def aVI{p:Pk}(h:p.right=false)(b:Tx):(wPk (0,b) p).1=1:=by
 unfold wPk;rw[if_neg (by simp[h])];rfl
def aW7(x:Int×Pk):Prop:=0≤x.1∧x.1≤255∧x.2.right=true
instance (x:Int×Pk):Decidable (aW7 x):=by unfold aW7;infer_instance
def aYk(q:Pl):Prop:=0≤q.i∧q.i≤65535
instance (q:Pl):Decidable (aYk q):=by unfold aYk;infer_instance
def aLa(st:kX)(e:Int):kX:=(if st.1=0 then e else st.1,st.2)
structure aIF{α:Type}(R:kX->α×kX)(bs:Tx)(v:α):Prop where
 all:∀rest,R (0,bs++rest)=(v,(0,rest))
 cut:∀n,n<bs.length->(R (0,bs.take n)).2.1=6
def aOP{α:Type}(R:kX->α×kX):Prop:=∀e s,e≠0->(R (e,s)).2.1=e
def aOP.keep{α:Type}{R:kX->α×kX}(h:aOP R){st:kX}{e:Int}(he:st.1=e)(h0:e≠0):(R st).2.1=e:=by
 obtain⟨a,b⟩:=st;simp only at he;subst he;exact h _ _ h0
def aIF.bind{α β γ:Type}{R:kX->α×kX}{S:α->kX->β×kX}{f:α->β->γ}{bs cs:Tx}{v:α}{w:β}(h1:aIF R bs v)(h2:aIF (S v) cs w)(hs:∀x,aOP (S x)):
  aIF (λst=>(f (R st).1 (S (R st).1 (R st).2).1,(S (R st).1 (R st).2).2)) (bs++cs) (f v w):=by
 refine⟨λrest=>?_,λn hn=>?_⟩
 ·simp only[nM,h1.all,h2.all]
 ·simp only;by_cases hb:n<bs.length
  ·have e:(bs++cs).take n=bs.take n:=by rw[zLH (by omega)]
   rw[e];exact(hs _).keep (h1.cut n hb) (by decide)
  ·have e:(bs++cs).take n=bs++cs.take (n-bs.length):=by
    rw[List.take_append,lY (by omega)]
   rw[e,h1.all];exact h2.cut _ (by rw[jM] at hn;omega)
def aJI(l:Tx):aIF (λst=>jY st (l.length:Int)) l l:=by
 refine⟨λrest=>?_,λn hn=>?_⟩
 ·unfold jY;rw[if_pos ⟨rfl,by omega,by rw[jM];omega⟩];simp
 ·unfold jY;rw[if_neg (by simp;omega)];rfl
def aR7(n:Int):aOP (λst=>jY st n):=λe s h=>by
 simp only[jY];rw[if_neg (by simp[h])];simp[h]
def yC{n c:Nat}(h:n<256^c):aIF (λst=>gV st c) (be n c) n:=by
 have:=aJI (be n c);rw[jF] at this;refine⟨λrest=>?_,λm hm=>?_⟩
 ·unfold gV;rw[this.all,aZY,aFn h]
 ·unfold gV;exact this.cut m hm
def aIE{l:Tx}(h:l.length≤65535):aIF mW (be l.length 2++l) l:=
 aIF.bind (R:=λst=>gV st 2) (S:=λn st=>jY st (n:Int)) (f:=λ_ w=>w) (yC (by omega)) (aJI l) λx=>aR7 _
def Pk.wf(p:Pk):Prop:=0≤p.s∧p.s<18446744073709551616∧0≤p.t∧p.t<18446744073709551616
def aXO(p:Pk):tx p.tx=p.d:=aNI p.d
def aGW.trans{h h1 h2:PH}{F F1 F2:List Nat}(a:aGW h F h1 F1)(b:aGW h1 F1 h2 F2):aGW h F h2 F2:=λr o hr hn=>b r o (a r o hr hn).1 (a r o hr hn).2
def aGW.ext{h h1:PH}{F:List Nat}(u:dD h h1):aGW h F h1 F:=λr o hr hn=>⟨u.get hr,hn⟩
structure BK(h:PH)(F:List Nat)(r:Nat)(cs:List Value):Prop where
 bx:Bx h r cs
 out:r∉F
def BK.keep{h h':PH}{F F':List Nat}{r:Nat}{cs:List Value}(H:BK h F r cs)(K:aGW h F h' F'):BK h' F' r cs:=by
 obtain⟨e,h1⟩:=H.bx;exact⟨⟨e,(K r _ h1 H.out).1⟩,(K r _ h1 H.out).2⟩
def BK.ext{h h':PH}{F:List Nat}{r:Nat}{cs:List Value}(H:BK h F r cs)(u:dD h h'):BK h' F r cs:=⟨H.bx.ext u,H.out⟩
def bAQ{h0 h:PH}{a:Nat}{st:kX}{F:List Nat}(S:WN h0 h a st F)(hl:st.2.length≤900000000)(p:Pk)(w:p.wf){k:cD}(hk:∀h' F',WN h0 h' a (wPk st p) F'->aGW h F h' F'->k (.tuple #[]) h'):
  aT PG aIv #[pT a 0,.agg p.cells.toArray] h k:=by
 apply aJH.call;unfold aJH;intro r hr
 try rw[cW]
 have S1:=S.new hr (.cells (Value.cells (.agg p.cells.toArray)) aR);have u1:dD h (h.set r (.cells (Value.cells (.agg p.cells.toArray)) aR)):=cQ.new hr;have B1:BK (h.set r (.cells (Value.cells (.agg p.cells.toArray)) aR)) F r p.cells:=⟨Bx.new,S.box hr⟩;generalize h.set r (.cells (Value.cells (.agg p.cells.toArray)) aR)=h1 at *;have l1:cG PG h1 (loadAt aR (pT r 0))=some (.agg p.cells.toArray):=aR.agg B1.bx (by show 0+4≤4;decide);simp only[l1,cE,reduceIte];refine aLq p λh2 u2=>?_;have S2:=WS.ext S1 u2;have B2:=B1.ext u2;have K2:aGW h F h2 F:=aGW.ext (u1.trans u2);unfold wPk at hk;obtain⟨w1,w2,w3,w4⟩:=w;cases hp:p.right with
 | false=>
  rw[hp] at hk;simp only[zLu,if_false,kW,show((1:Int) !=0)=true from rfl,cE,reduceIte] at hk ⊢;exact aMl S2 (by omega) (-1) λh3 F3 x e S3 K3=>by subst e;exact hk _ _ S3 (K2.trans K3)
 | true=>
  rw[hp] at hk;have n1:((p.s.toNat:Nat):Int)=p.s:=Int.toNat_of_nonneg w1;have n2:((p.t.toNat:Nat):Int)=p.t:=Int.toNat_of_nonneg w3;have n3:p.d=tx p.tx:=(aXO p).symm;simp only[if_true,kW,show((0:Int) !=0)=false from rfl,aR.f0,bR.load,B2.bx.cell,Pk.cells,cE,reduceIte] at hk ⊢;refine aMl S2 (by omega) p.f λh3 F3 x3 e3 S3 K3=>?_;have B3:=B2.keep K3;have b3:=aVJ st p.f;rw[←e3] at b3 hk;simp only[aR.f1,cA.load,B3.bx.cell,Pk.cells,fQ,cE,reduceIte];rw[←n1];refine aJj S3 (by omega) (n:=p.s.toNat) (by omega) λh4 F4 x4 e4 S4 K4=>?_;have B4:=B3.keep K4;have b4:=aRq x3 p.s.toNat;rw[←e4] at b4 hk;simp only[aR.f2,cA.load,B4.bx.cell,Pk.cells,fQ,cE,reduceIte];rw[←n2];refine aJj S4 (by omega) (n:=p.t.toNat) (by omega) λh5 F5 x5 e5 S5 K5=>?_;have B5:=B4.keep K5;have b5:=aRq x4 p.t.toNat;rw[←e5] at b5 hk;simp only[aR.f3,bT.load,B5.bx.cell,Pk.cells,fQ,cE,reduceIte];rw[n3];refine aRY S5 (by omega) p.tx λh6 F6 x6 e6 S6 K6=>?_;subst e6;exact hk _ _ S6 ((((K2.trans K3).trans K4).trans K5).trans K6)
def aJU(x:Int):dH PG (convert bR cA (.int .i64 x))=some (.int .u64 (IntKind.u64.wrap x)):=by kernel_rfl
def aOR{h:PH}{p:Pk}(w:p.wf)(hr:p.right=true){k:cD}(hk:∀h',dD h h'->k (.string (tx p.bs)) h'):aT PG zQ #[.agg p.cells.toArray] h k:=by
 obtain⟨r1,r2,-,-,r5⟩:=Pk.right_iff.1 hr;obtain⟨w1,w2,w3,w4⟩:=w;have ed:=aXO p;have el:=aRx p;obtain⟨f,s,t,d⟩:=p;obtain⟨f,rfl⟩:=zLn r1;obtain⟨s,rfl⟩:=zLn w1;obtain⟨t,rfl⟩:=zLn w3;simp only at r2 w2 w4 r5;unfold Pk.bs at hk;simp only[rA] at hk;generalize Pk.tx ⟨(f:Int),(s:Int),(t:Int),d⟩=l at *;subst ed;simp only[iF] at el r5;apply uD.call;unfold uD;intro r hr
 try rw[cW]
 have u1:dD h (h.set r (.cells (Value.cells (.agg (Pk.cells ⟨(f:Int),(s:Int),(t:Int),tx l⟩).toArray)) aR)):=cQ.new hr;have B1:Bx (h.set r (.cells (Value.cells (.agg (Pk.cells ⟨(f:Int),(s:Int),(t:Int),tx l⟩).toArray)) aR)) r (Pk.cells ⟨(f:Int),(s:Int),(t:Int),tx l⟩):=Bx.new;generalize h.set r (.cells (Value.cells (.agg (Pk.cells ⟨(f:Int),(s:Int),(t:Int),tx l⟩).toArray)) aR)=h1 at *;have l0:∀{h':PH},dD h1 h'->cG PG h' (loadAt bR (pT r 0))=some (.int .i64 (f:Int)):=λu=>by rw[bR.load,(B1.ext u).cell];rfl
 have l1:∀{h':PH},dD h1 h'->cG PG h' (loadAt cA (pT r 1))=some (.int .u64 (s:Int)):=λu=>by rw[cA.load,(B1.ext u).cell];rfl
 have l2:∀{h':PH},dD h1 h'->cG PG h' (loadAt cA (pT r 2))=some (.int .u64 (t:Int)):=λu=>by rw[cA.load,(B1.ext u).cell];rfl
 have l3:∀{h':PH},dD h1 h'->cG PG h' (loadAt bT (pT r 3))=some (.string (tx l)):=λu=>by rw[bT.load,(B1.ext u).cell];rfl
 have c1:IntKind.u64.wrap (f:Int)=(f:Int):=gO (by omega) (by omega);have c2:IntKind.u64.wrap (l.length:Int)=(l.length:Int):=gO (by omega) (by omega);have ln:dH PG (Builtin.len_ #[bT] bR #[.string (tx l)])=some (.int .i64 (l.length:Int)):=by rw[lS bT.und,iF]
 simp only[aR.f0,aR.f1,aR.f2,aR.f3,l0 cQ.refl,l1 cQ.refl,l2 cQ.refl,l3 cQ.refl,ln,aJU,c1,c2,cE,reduceIte,cZ,Nat.reduceAdd];refine tH (by omega) (by decide) λh2 u2=>?_;simp only[fQ,l1 u2,l2 u2,l3 u2,eq_self,true_and];refine tH (by omega) (by decide) λh3 u3=>?_;have e3:=u2.trans u3;have a1:dH PG (binOp .add bT (.string (tx (be f 1))) (.string (tx (be s 8))))=some (.string (tx (be f 1++be s 8))):=mG (by simp only[jF];decide);simp only[l2 e3,l3 e3,a1,eq_self,true_and,cE,reduceIte,cZ,Nat.reduceAdd];refine tH (by omega) (by decide) λh4 u4=>?_;have e4:=e3.trans u4;have a2:dH PG (binOp .add bT (.string (tx (be f 1++be s 8))) (.string (tx (be t 8))))=some (.string (tx ((be f 1++be s 8)++be t 8))):=mG (by simp only[jF,jM];decide);simp only[l3 e4,a2,eq_self,true_and,cE,reduceIte,cZ,Nat.reduceAdd];refine tH (by omega) (by decide) λh5 u5=>?_;have e5:=e4.trans u5;have a3:dH PG (binOp .add bT (.string (tx ((be f 1++be s 8)++be t 8))) (.string (tx (be l.length 2))))=some (.string (tx (((be f 1++be s 8)++be t 8)++be l.length 2))):=mG (by simp only[jF,jM];decide);have a4:dH PG (binOp .add bT (.string (tx (((be f 1++be s 8)++be t 8)++be l.length 2))) (.string (tx l)))=some (.string (tx ((((be f 1++be s 8)++be t 8)++be l.length 2)++l))):=mG (by simp only[jF,jM];omega);simp only[l3 e5,a3,a4,eq_self,true_and,cE,reduceIte,cZ,Nat.reduceAdd];rw[nM,nM,nM];exact hk _ (u1.trans e5)
def Pk.v(p:Pk):Value:=.agg p.cells.toArray
def aGm(p:Pk):Tx×Int:=if p.right then(p.bs,0) else([],1)
def aTp(p:Pk):aJd (wPk (0,[]) p)=aGm p:=by
 unfold aGm;cases hr:p.right with
 | true=>rw[aVs hr];rfl
 | false=>
  unfold aJd;rw[aVI hr,if_neg (by decide)];rfl
def aTR{h:PH}{p:Pk}(w:p.wf){k:cD}(hk:∀h',dD h h'->k (.tuple #[.string (tx (aGm p).1),.int .i64 (aGm p).2]) h'):aT PG aHa #[p.v] h k:=by
 apply aHL.call;unfold aHL;intro r1 hr1
 try rw[cW]
 have u1:dD h (h.set r1 (.cells (Value.cells p.v) aR)):=cQ.new hr1;have B1:Bx (h.set r1 (.cells (Value.cells p.v) aR)) r1 p.cells:=Bx.new;generalize h.set r1 (.cells (Value.cells p.v) aR)=h1 at *;intro r3 hr3
 try rw[cW]
 have S0:=WN.start hr3;have u3:dD h1 (h1.set r3 (.cells (dV PG fR) fR)):=cQ.new hr3;generalize h1.set r3 (.cells (dV PG fR) fR)=h3 at *;have lp:cG PG h3 (loadAt aR (pT r1 0))=some (.agg p.cells.toArray):=(B1.ext u3).pk rfl;simp only[lp,cE,reduceIte,cZ,Nat.reduceAdd];refine bAQ S0 (by simp) p w λh4 F4 S4 K4=>?_;refine aOJ S4.at_ λh5 u5=>?_;simp only[cE,reduceIte,cZ,Nat.reduceAdd];have:=hk h5 (u1.trans (S4.upd.fresh u5 S4.fresh));rw[←aTp] at this;exact this
def Pk.eqD{h:PH}{d:Nat}(m m':Pk):cG PG h (Op.equalIn (d+1+1) aR m.v m'.v)=some (decide (m=m')):=by
 have:cG PG h (Op.equalIn (d+1+1) aR m.v m'.v)=some (m.f==m'.f&&(m.s==m'.s&&(m.t==m'.t&&(m.d==m'.d&&true)))):=by
  refine(aB9 aR.und (by kernel_rfl) (λf=>match f.offset with|0=>m.f==m'.f|1=>m.s==m'.s|2=>m.t==m'.t|_=>m.d==m'.d) ?_);intro f hf;simp only[gU,lH,or_false] at hf;rcases hf with rfl|rfl|rfl|rfl
  ·exact⟨by decide,_,_,jX bR.und rfl rfl,jX bR.und rfl rfl,xL bR.und⟩
  ·exact⟨by decide,_,_,jX cA.und rfl rfl,jX cA.und rfl rfl,xL cA.und⟩
  ·exact⟨by decide,_,_,jX cA.und rfl rfl,jX cA.und rfl rfl,xL cA.und⟩
  ·exact⟨by decide,_,_,jX bT.und rfl rfl,jX bT.und rfl rfl,aF1 bT.und⟩
 rw[this,aE4];congr 1;rw[zLm];obtain⟨a,b,c,e⟩:=m;obtain⟨a',b',c',e'⟩:=m';simp
def Pk.eql{h:PH}{x y:Operand}(m m':Pk):cG PG h (jT .eql aR x y m.v m'.v)=some (.bool (decide (m=m'))):=aMm (by kernel_rfl) (Pk.eqD (d:=9998) m m')
def Pk.zb:dH PG (build aR #[])=some (Pk.v default):=by kernel_rfl
def aJ5(ahead:List Tx)(p:Pk):Tx:=if p.right then sY (ahead.flatten++p.bs) else []
def aN7{p:Pk}(h:p.right=true):p.bs.length≤83:=by
 have:=(Pk.right_iff.1 h).2.2.2.2;simp only[Pk.bs,jM,jF,aRx];omega
def aSX{h00 h:PH}{p:Pk}(w:p.wf)(hK:oP h00){ahead:List Tx}{v:Value}{F:List Nat}(O:eM h bT 1 v (ahead.map jJ) F)(e0:dD h00 h)(f0:eK h00 F)(hl:ahead.flatten.length≤1000)(hl2:ahead.length≤10){k:cD}(hk:∀h',dD h00 h'->k (.string (tx (aJ5 ahead p))) h'):aT PG aDn #[p.v,v] h k:=by
 apply aGV.call;unfold aGV;intro r1 hr1
 try rw[cW]
 have u1:dD h (h.set r1 (.cells (Value.cells p.v) aR)):=cQ.new hr1;have B1:Bx (h.set r1 (.cells (Value.cells p.v) aR)) r1 p.cells:=Bx.new;generalize h.set r1 (.cells (Value.cells p.v) aR)=h1 at *;have lp:∀{h':PH},dD h1 h'->cG PG h' (loadAt aR (pT r1 0))=some p.v:=λu=>(B1.ext u).pk rfl;simp only[lp cQ.refl,cE,reduceIte,cZ,Nat.reduceAdd];refine aTR w λh2 u2=>?_;have e2:=u1.trans u2;cases hr:p.right with
 | false=>
  have n1:((1:Int) !=0)=true:=by decide
  have eb:aGm p=([],1):=by unfold aGm;rw[hr];rfl
  have ed:aJ5 ahead p=[]:=by unfold aJ5;rw[hr];rfl
  rw[ed] at hk;simp only[eb,kW,n1,cE,reduceIte,cZ,Nat.reduceAdd];exact hk _ (e0.trans e2)
 | true=>
  have eb:aGm p=(p.bs,0):=by unfold aGm;rw[hr];rfl
  have ed:aJ5 ahead p=sY (ahead.flatten++p.bs):=by unfold aJ5;rw[hr];rfl
  have ne:¬p=default:=λe=>by rw[e] at hr;exact absurd hr (by decide)
  have nd:=decide_eq_false ne;have hb:=aN7 hr;rw[ed] at hk;simp only[eb,kW,lp u2,Pk.zb,Pk.eql,nd,aNX,cE,reduceIte,cZ,Nat.reduceAdd];intro r22 hr22;refine fP ?_
  try rw[cW]
  have u3:dD h2 (h2.set r22 (.cells #[.string (tx p.bs)] bT)):=cQ.new hr22;have s1:fZ (h2.set r22 (.cells #[.string (tx p.bs)] bT)) 1 (.slice (some ⟨r22,0,none⟩) 1 1) ([p.bs].map jJ):=(eM.lit (jJ.rows [p.bs]) dL (by simp) (by decide) (by simp[jJ])).slR;generalize h2.set r22 (.cells #[.string (tx p.bs)] bT)=h3 at *;have e3:=e2.trans u3;refine jK cP.und cP.und bT.info bT.size bT.bytes bT.zero rfl (by decide) (O.ext e3) s1 (λr hr u hu=>by
   obtain⟨s,-,rfl⟩:=mJ.1 hr;exact jJ.isC s u hu) (by simp;omega) ?_
  intro v4 h4 F4 O4 u4 g4 _;rw[←pO] at O4;have e4:dD h00 h4:=(e0.trans e3).fresh u4 f0;refine aOQ (hK.ext e4) O4.slR (by rw[zLG,jM,show [p.bs].flatten=p.bs by simp];omega) λh5 u5=>?_;have:=hk h5 (e4.trans u5);rw[zLG,show [p.bs].flatten=p.bs by simp];exact this
def rJ(p:Pk):Tx:=aJ5 [] p
def aEv(p:Pk):Tx:=aJ5 [[97,99,107]] p
def aIz{h:PH}{p:Pk}(w:p.wf)(hK:oP h){k:cD}(hk:∀h',dD h h'->k (.string (tx (rJ p))) h'):aT PG vK #[p.v] h k:=by
 apply aCQ.call;unfold aCQ;intro r1 hr1
 try rw[cW]
 have u1:dD h (h.set r1 (.cells (Value.cells p.v) aR)):=cQ.new hr1;have B1:Bx (h.set r1 (.cells (Value.cells p.v) aR)) r1 p.cells:=Bx.new;generalize h.set r1 (.cells (Value.cells p.v) aR)=h1 at *;have lp:cG PG h1 (loadAt aR (pT r1 0))=some p.v:=B1.pk rfl;simp only[lp,cE,reduceIte,cZ,Nat.reduceAdd];exact aSX w hK (ahead:=[]) eM.nil u1 (λb hb=>by cases hb) (by simp) (by simp) hk
def aP4{h:PH}{p:Pk}(w:p.wf)(hK:oP h){k:cD}(hk:∀h',dD h h'->k (.string (tx (aEv p))) h'):aT PG aDH #[p.v] h k:=by
 apply aGE.call;unfold aGE;intro r1 hr1
 try rw[cW]
 have u1:dD h (h.set r1 (.cells (Value.cells p.v) aR)):=cQ.new hr1;have B1:Bx (h.set r1 (.cells (Value.cells p.v) aR)) r1 p.cells:=Bx.new;generalize h.set r1 (.cells (Value.cells p.v) aR)=h1 at *;have lp:cG PG h1 (loadAt aR (pT r1 0))=some p.v:=B1.pk rfl;have q:({data:=#[97,99,107]}:ByteArray)=tx [97,99,107]:=rfl;simp only[lp,q,aNX,cE,reduceIte,cZ,Nat.reduceAdd];intro r4 hr4;refine fP ?_
 try rw[cW]
 have u2:dD h1 (h1.set r4 (.cells #[.string (tx [97,99,107])] bT)):=cQ.new hr4;have O:eM (h1.set r4 (.cells #[.string (tx [97,99,107])] bT)) bT 1 (.slice (some ⟨r4,0,none⟩) 1 1) ([[97,99,107]].map jJ) [r4]:=eM.lit (jJ.rows [[97,99,107]]) dL (by simp) (by decide) (by simp[jJ]);exact aSX w hK (ahead:=[[97,99,107]]) O (u1.trans u2) (eK.one (u1.none hr4)) (by simp) (by simp) hk
def iZ(c:UInt8)(n:Nat):Tx:=c::be n 8
def aAA(c:UInt8)(n:Nat):(iZ c n).length=9:=by simp[iZ,jF]
def aR4{h:PH}{c:UInt8}{n:Nat}(hn:n<18446744073709551616){k:cD}(hk:∀h',dD h h'->k (.string (tx (iZ c n))) h'):aT PG aD3 #[.string (tx [c]),.int .u64 (n:Int)] h k:=by
 apply aJG.call;unfold aJG;intro r1 hr1
 try rw[cW]
 have S0:=WN.start hr1;generalize h.set r1 (.cells (dV PG fR) fR)=h1 at *;refine aW6 S0 (by simp) (by simp) λh2 F2 x2 e2 S2 K2=>?_;refine aJj S2 (by rw[e2];simp) hn λh3 F3 x3 e3 S3 K3=>?_;refine aOJ S3.at_ λh4 u4=>?_;have eb:aJd (x3.1,x3.2)=(iZ c n,0):=by rw[e3,e2];rfl
 simp only[eb,cE,reduceIte,cZ,Nat.reduceAdd];exact hk _ (S3.upd.fresh u4 S3.fresh)
def aNa{h:PH}{n:Nat}(hn:n<18446744073709551616){k:cD}(hk:∀h',dD h h'->k (.string (tx (iZ 99 n))) h'):aT PG aAi #[.int .u64 (n:Int)] h k:=by
 apply aIO.call;unfold aIO;exact aR4 (c:=99) hn hk
def aKn{h:PH}{n:Nat}(hn:n<18446744073709551616){k:cD}(hk:∀h',dD h h'->k (.string (tx (iZ 114 n))) h'):aT PG yI #[.int .u64 (n:Int)] h k:=by
 apply aEd.call;unfold aEd;exact aR4 (c:=114) hn hk
def aNe{h:PH}{n:Nat}(hn:n<18446744073709551616){k:cD}(hk:∀h',dD h h'->k (.string (tx (iZ 97 n))) h'):aT PG aBq #[.int .u64 (n:Int)] h k:=by
 apply aEi.call;unfold aEi;exact aR4 (c:=97) hn hk
def aAk{h:PH}{c:UInt8}{n:Nat}(hn:n<18446744073709551616){k:cD}(hk:∀h',dD h h'->k (.string (tx (iZ c n))) h'):aT PG jS #[.string (tx [c]),.int .u64 (n:Int)] h k:=by
 apply aDS.call;unfold aDS;refine tH hn (by decide) λh2 u2=>?_;exact aSs (mG (by simp[jF])) (hk _ u2)
def aXH(i:Nat):List Value->PH->Nat:=λvs _=>match vs[i]? with
 | some (Value.int _ j)=>j.toNat
 | _=>0
def aPo{h:PH}{a:Nat}{st:kX}(R:rQ h a st.1 st.2){k:cD}(hk:k (.int .i64 st.1) h):aT PG oW #[pT a 0] h k:=
 aNJ R.here rfl hk
def aRD{h:PH}{a:Nat}{st:kX}(R:rQ h a st.1 st.2)(x:Int){k:cD}(hk:∀h',rQ h' a (aLa st x).1 (aLa st x).2->cQ [a] h h'->k (.tuple #[]) h'):aT PG lM #[pT a 0,.int .i64 x] h k:=by
 apply qS.call;unfold qS;have ha:=R.here;have c0:dB h ⟨a,0,none⟩=some (.int .i64 st.1):=by simp[dB,ha]
 unfold aLa at hk;by_cases h0:st.1=0
 ·have q:(st.1==0)=true:=by simp[h0]
  rw[if_pos h0] at hk;simp only[oF.f0,fY.load,c0,iG,q,cE,reduceIte];refine iT fY.und rfl ha (by simp) rfl fY.info fY.size ?_;exact hk _ ⟨dL⟩ (cQ.set (by simp))
 ·have q:(st.1==0)=false:=by simp[h0]
  rw[if_neg h0] at hk;simp only[oF.f0,fY.load,c0,iG,q,cE,reduceIte];exact hk h ⟨ha⟩ cQ.refl
def aMb(st:kX):Int:=if st.1=0∧st.2≠[] then 7 else st.1
def aXW{h:PH}{a:Nat}{st:kX}(R:rQ h a st.1 st.2){k:cD}(hk:k (.int .i64 (aMb st)) h):aT PG aE7 #[pT a 0] h k:=by
 apply aEU.call;unfold aEU;refine aVX R ?_;unfold aMb at hk;by_cases h0:st.1=0∧st.2≠[]
 ·rw[if_pos h0] at hk;have hp:=aIA.2 h0.2;have g:((0:Int)<(st.2.length:Int))=True:=eq_true (by omega);simp only[h0.1,if_true,g,cE,reduceIte];exact hk
 ·rw[if_neg h0] at hk;have g:((0:Int)<(if st.1=0 then(st.2.length:Int) else 0))=False:=by
   apply eq_false;split
   ·rename_i h1;have:st.2=[]:=Classical.byContradiction λh2=>h0 ⟨h1,h2⟩;rw[this];simp
   ·decide
  simp only[g,gL.f0,cE,reduceIte];exact aPo R hk
def aV7(x:Nt):jV PG (buildSlice cU 1 #[(0,.agg x.cells.toArray)])=some (.cells x.cells.toArray dA (0,0),λr=>pure (.slice (some ⟨r,0,none⟩) 1 1)):=by kernel_rfl
def Nt.isC(l:List Nt):∀r∈l.map Nt.cells,∀u∈r,fW u=true:=λr hr u hu=>by
 obtain⟨m,_,rfl⟩:=mJ.1 hr;simp only[Nt.cells,gU,lH,or_false] at hu;rcases hu with rfl|rfl|rfl|rfl|rfl<;>rfl
def aNx{h:PH}{l:List UInt8}(hl:l.length≤8){k:cD}(hk:k (.int .u64 (val l)) h):aT PG uC #[.string (tx l)] h k:=by
 apply aBh.call;unfold aBh;refine⟨λvs h'=>∃i:Nat,i≤l.length∧vs=[.string (tx l),.int .u64 (val (l.take i)),.int .i64 i]∧h'=h,gQ l.length 2,⟨0,by omega,rfl,rfl⟩,?_⟩;rintro ρ h' ⟨i,hi,hvs,rfl⟩;simp only[iH,jA,lN,and_true] at hvs;obtain⟨s0,s1,s3⟩:=hvs;rw[s0,s1,s3];unfold aG1;by_cases hlt:i<l.length
 ·have hd:((i:Int)<(l.length:Int))=True:=by apply eq_true;omega
  obtain⟨b,hb⟩:∃b,l[i]? =some b:=⟨_,lJ hlt⟩;have hsm:=aQV hlt hl;have hb8:=b.toNat_lt;have ei:=qN (i:=i) (by omega);have e2:IntKind.u64.wrap ((val (l.take i):Int)*256)=((val (l.take i)*256:Nat):Int):=by rw[gO (by omega) (by omega)];omega
  have e3:IntKind.u64.wrap (b.toNat:Int)=(b.toNat:Int):=gO (by omega) (by omega);have e4:IntKind.u64.wrap (((val (l.take i)*256:Nat):Int)+(b.toNat:Int))=((val (l.take (i+1)):Nat):Int):=by rw[aQv hb,gO (by omega) (by omega)];omega
  simp only[bT.len,iF,hd,e2,aAu bT.und hb,aSW,e3,e4,ei,cE,reduceIte];exact⟨⟨i+1,by omega,rfl,by trivial⟩,by simp[gQ,s3];omega⟩
 ·have hd:((i:Int)<(l.length:Int))=False:=by apply eq_false;omega
  rw[lY (by omega)];simp only[bT.len,iF,hd,cE,reduceIte];exact hk
structure xF(h:PH)(a:Nat)(S:List UInt8)(e:Int)(s:List UInt8):Prop where
 here:h a=some (.cells #[.string (tx S),.int .i64 ((S.length-s.length:Nat):Int),.int .i64 e] fE (0,0))
 suf:s=S.drop (S.length-s.length)
 le:s.length≤S.length
def xF.upd{h h':PH}{a:Nat}{S:List UInt8}{e:Int}{s:List UInt8}{G:List Nat}(H:xF h a S e s)(u:cQ G h h')(hd:a∉G):xF h' a S e s:=⟨u.get H.here hd,H.suf,H.le⟩
def xF.ext{h h':PH}{a:Nat}{S:List UInt8}{e:Int}{s:List UInt8}(H:xF h a S e s)(u:dD h h'):xF h' a S e s:=H.upd u (by simp)
def aK2{h:PH}{a:Nat}{S:List UInt8}{e:Int}{s:List UInt8}(hR:xF h a S e s)(hS:S.length≤1000000000000)(n:Int){k:cD}
  (hk:∀h',xF h' a S (jY (e,s) n).2.1 (jY (e,s) n).2.2->cQ [a] h h'->k (.tuple #[.string (tx (jY (e,s) n).1),.bool (decide (e=0∧0≤n∧n≤s.length))]) h'):
  aT PG lZ #[pT a 0,.int .i64 n] h k:=by
 have ha:=hR.here;have hle:=hR.le;have c0:dB h ⟨a,0,none⟩=some (.string (tx S)):=by simp[dB,ha]
 have c1:dB h ⟨a,1,none⟩=some (.int .i64 ((S.length-s.length:Nat):Int)):=by simp[dB,ha]
 have c2:dB h ⟨a,2,none⟩=some (.int .i64 e):=by simp[dB,ha]
 apply oL.call;unfold oL;unfold jY at hk;by_cases h0:e=0
 ·have q:(e !=0)=false:=by simp[h0]
  have bad:¬(0≤n∧n≤(s.length:Int))->dC PG (dT bR (pT a 2) (.int .i64 6)) h λv54 h55=>k (.tuple #[.string {data:=#[]},.bool false]) h55:=by
   intro hb;rw[if_neg (by rintro⟨_,h2⟩;exact hb h2),if_pos h0] at hk;have hdec:decide (e=0∧0≤n∧n≤(s.length:Int))=false:=by simp only[decide_eq_false_iff_not];rintro⟨_,h2⟩;exact hb h2
   rw[hdec] at hk;refine iT bR.und rfl ha (by simp) rfl bR.info bR.size ?_;exact hk _ ⟨by rw[dL];rfl,hR.suf,hR.le⟩ (cQ.set (by simp))
  have esub:IntKind.i64.wrap ((S.length:Int)-((S.length-s.length:Nat):Int))=(s.length:Int):=by rw[fH (by omega) (by omega)];omega
  by_cases h1:n<0
  ·simp only[fE.f2,fQ,bR.load,c2,q,h1,cE,reduceIte];exact bad (by omega)
  ·by_cases h2:(s.length:Int)<n
   ·simp only[fE.f0,fE.f1,fE.f2,fQ,bR.load,bT.load,c0,c1,c2,q,h1,bT.len,iF,esub,h2,cE,reduceIte];exact bad (by omega)
   ·obtain⟨m,rfl⟩:=zLn (a:=n) (by omega);have hm:m≤s.length:=by omega
    have eadd:IntKind.i64.wrap (((S.length-s.length:Nat):Int)+(m:Int))=((S.length-(s.length-m):Nat):Int):=by rw[fH (by omega) (by omega)];omega
    have esub2:IntKind.i64.wrap (((S.length-(s.length-m):Nat):Int)-(m:Int))=((S.length-s.length:Nat):Int):=by rw[fH (by omega) (by omega)];omega
    rw[if_pos ⟨h0,by omega,by simpa using hm⟩] at hk;have hdec:decide (e=0∧0≤(m:Int)∧(m:Int)≤(s.length:Int))=true:=by simp only[decide_eq_true_eq];exact⟨h0,by omega,by omega⟩
    rw[hdec] at hk;simp only[fE.f0,fE.f1,fE.f2,fQ,bR.load,bT.load,c0,c1,c2,q,h1,bT.len,iF,esub,h2,eadd,cE,reduceIte];refine iT bR.und rfl ha (by simp) rfl bR.info bR.size ?_;have hb:(h.set a (.cells (#[Value.string (tx S),.int .i64 ((S.length-s.length:Nat):Int),.int .i64 e].setIfInBounds 1 (.int .i64 ((S.length-(s.length-m):Nat):Int))) fE (0,0))) a=some (.cells #[.string (tx S),.int .i64 ((S.length-(s.length-m):Nat):Int),.int .i64 e] fE (0,0)):=dL;have ub:cQ [a] h (h.set a (.cells (#[Value.string (tx S),.int .i64 ((S.length-s.length:Nat):Int),.int .i64 e].setIfInBounds 1 (.int .i64 ((S.length-(s.length-m):Nat):Int))) fE (0,0))):=cQ.set (by simp);generalize h.set a (.cells (#[Value.string (tx S),.int .i64 ((S.length-s.length:Nat):Int),.int .i64 e].setIfInBounds 1 (.int .i64 ((S.length-(s.length-m):Nat):Int))) fE (0,0))=h2 at *;have d0:dB h2 ⟨a,0,none⟩=some (.string (tx S)):=by simp[dB,hb]
    have d1:dB h2 ⟨a,1,none⟩=some (.int .i64 ((S.length-(s.length-m):Nat):Int)):=by simp[dB,hb]
    have hcut:=aId (P:=PG) (l:=S) (i:=S.length-s.length) (j:=S.length-(s.length-m)) (lo:=some (.int .i64 ((S.length-s.length:Nat):Int))) (hi:=some (.int .i64 ((S.length-(s.length-m):Nat):Int))) bT.und (.inr ⟨.i64,rfl⟩) (.inr ⟨.i64,rfl⟩) (by omega) (by omega);have hlist:(S.take (S.length-(s.length-m))).drop (S.length-s.length)=s.take m:=by
     conv=>rhs;rw[hR.suf]
     rw[zLy];congr 1;omega
    rw[hlist] at hcut;simp only[d0,d1,esub2,hcut,cE,reduceIte];rw[rA,h0] at hk;have hlen:(s.drop m).length=s.length-m:=pK;refine hk _ ⟨?_,?_,by rw[hlen];omega⟩ ub
    ·rw[hlen,hb,h0]
    ·rw[hlen];have h1:S.drop (S.length-(s.length-m))=(S.drop (S.length-s.length)).drop m:=by
      rw[aGf];congr 1;omega
     rw[h1,←hR.suf]
 ·have q:(e !=0)=true:=by simp[h0]
  rw[if_neg (by rintro⟨h1,_⟩;exact h0 h1),if_neg h0] at hk;have hdec:decide (e=0∧0≤n∧n≤(s.length:Int))=false:=by simp only[decide_eq_false_iff_not];rintro⟨h1,_⟩;exact h0 h1
  rw[hdec] at hk;simp only[fE.f2,fQ,bR.load,c2,q,cE,reduceIte];exact hk _ hR cQ.refl
end
end Go.Proofs.YtppgkeodaejgcaaGreatDoor
