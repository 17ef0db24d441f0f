/- The texts of this claim, put together. -/
import Derived.Test.YtppgkeodaejgcaaGreatDoorRlKVC4
import Derived.Lib.UnsafeStr
set_option linter.unusedSimpArgs false
set_option linter.unusedVariables false
set_option linter.unusedSectionVars false
set_option maxRecDepth 100000
open Go.Instr (loadAt fieldAt indexAt extract buildSlice build)
namespace Go.Proofs.YtppgkeodaejgcaaGreatDoor
open Go
def P64:List Nat:=[2,3,5,7,11,13,17,19,23,29,31,37,41,43,47,53,59,61,67,71,73,79,83,89,97,101,103,107,109,113,127,131,137,139,149,151,157,163,167,173,179,181,191,193,197,199,211,223,227,229,233,239,241,251,257,263,269,271,277,281,283,293,307,311]
def RT:List Nat:=[5411319704,6194414737,7344290767,8215976869,9551921755,10098905585,11043570340,11460697813,12214315672,13195500289,13492127166,14311783875,14809980276,15046980094,15499789991,16133124468,16720292289,16907126662,17444216262,17784676812,17950125167,18429019306,18734950876,19175934170,19734090066,20001703533,20132865992,20390182855,20516441075,20764397895,21588763473,21813078375,22141143685,22248366392,22769593852,22871018771,23170020180,23461497531,23651862830,23931792517,24205322401,24295138891,24734567280,24820601251,24990902297,25075189284,25569408389,26045227120,26200031510,26276752392,26428864332,26653801653,26727943347,27092625994,27306805839,27517677555,27725365998,27793908591,27997534228,28131656200,28198240250,28526537963,28973835255,29099129074]
def RS:List Nat:=[6074000999,7439101573,9603838834,11363415354,14244795007,15485724812,17708603819,18721328409]
def H8:List W:=[1779033703,3144134277,1013904242,2773480762,1359893119,2600822924,528734635,1541459225]
theorem aYU:(List.range 64).all (λi=>decide ((RT.getD i 0)^3≤P64.getD i 0*4294967296^3)&&decide (P64.getD i 0*4294967296^3<(RT.getD i 0+1)^3)&&decide (RT.getD i 0%4294967296=(kT.getD i 0).toNat)&&decide (P64.getD i 0*4294967296^3<68719476736^3)&&decide (P64.getD i 0<4294967296))=true:=by kernel_rfl
theorem aX6:(List.range 8).all (λi=>decide ((RS.getD i 0)^2≤P64.getD i 0*4294967296^2)&&decide (P64.getD i 0*4294967296^2<(RS.getD i 0+1)^2)&&decide (RS.getD i 0%4294967296=(H8.getD i 0).toNat)&&decide (P64.getD i 0*4294967296^2<68719476736^2))=true:=by kernel_rfl
def aJw:Nat->List Nat->Nat->Option (List Nat)
 | 0,_,_=>none
 | f+1,out,x=>if out.length<64 then aJw f (if out.all (λd=>decide (x%d≠0)) then out++[x] else out) (x+1) else some out
theorem aSi:aJw 400 [] 2=some P64:=by kernel_rfl
theorem aQj{h:PH}{v:Value}{l:List Nat}(S:fR h 1 v (l.map oV))(i:Nat){k:cD}(hk:k (.int .u64 ((l.getD i 0:Nat):Int)) h):aT PG yK #[v,.int .i64 (i:Int)] h k:=by
 apply aBU.call;unfold aBU;have lv:=aKf S;by_cases hl:i<l.length
 ·have g1:((i:Int)<(l.length:Int))=True:=eq_true (by omega);obtain⟨pa,p1,p2⟩:=aLo S (lU hl);simp only[lv,g1,p1,p2,cG,reduceIte];rw[aAT,lU hl] at hk;exact hk
 ·have g1:((i:Int)<(l.length:Int))=False:=eq_false (by omega);simp only[lv,g1,cG,reduceIte];rw[aAT,List.getElem?_eq_none (by omega)] at hk;exact hk
def aXw:List Value->PH->Nat:=λvs _=>match vs[2]? with
 | some (Value.int _ x)=>(x+1).toNat
 | _=>0
theorem aVe{h:PH}{v w:Value}{a b:List Nat}(S:fR h 1 v (a.map oV))(T:fR h 1 w (b.map oV))(ha:Dig a)(hb:Dig b)(hla:a.length≤1000)(hlb:b.length≤1000){k:cD}(hk:k (.bool (decide (jL b<jL a))) h):aT PG aCE #[v,w] h k:=by
 apply aBY.call;unfold aBY;have lv:=aKf S;have lw:=aKf T;have e1:IntKind.i64.wrap ((a.length:Int)+(b.length:Int))=((a.length+b.length+1:Nat):Int)-1:=by rw[eX (by omega) (by omega)];omega
 simp only[lv,lw,e1,cG,reduceIte];have hA:jL a/4294967296^(a.length+b.length+1)=jL b/4294967296^(a.length+b.length+1):=by
  have h1:jL a<4294967296^(a.length+b.length+1):=aKh (aJs ha) (aKT (by decide) (by omega));have h2:jL b<4294967296^(a.length+b.length+1):=aKh (aJs hb) (aKT (by decide) (by omega));rw[Nat.div_eq_of_lt h1,Nat.div_eq_of_lt h2]
 refine⟨λvs h'=>∃m:Nat,m≤2001∧vs=[v,w,.int .i64 ((m:Int)-1)]∧h'=h∧jL a/4294967296^m=jL b/4294967296^m,aXw,⟨_,by omega,rfl,rfl,hA⟩,?_⟩;rintro ρ h' ⟨m,hm,hvs,rfl,hq⟩;simp only[iJ,iV,kW,and_true] at hvs;obtain⟨v0,v1,v5⟩:=hvs;simp only[v0,v1,v5,iJ,iV];unfold aF6;cases m with
 | zero=>
  have g1:((0:Int)≤((0:Nat):Int)-1)=False:=eq_false (by decide);simp only[g1,cG,reduceIte];rw[Nat.pow_zero,Nat.div_one,Nat.div_one] at hq;have:decide (jL b<jL a)=false:=by simp[hq]
  rw[this] at hk;exact hk
 | succ m=>
  have g0:((m+1:Nat):Int)-1=(m:Int):=by omega
  have g1:((0:Int)≤(m:Int))=True:=eq_true (by omega);have g2:IntKind.i64.wrap ((m:Int)-1)=(m:Int)-1:=eX (by omega) (by omega);rw[g0];simp only[g1,cG,reduceIte];refine aQj S m ?_;refine aQj T m ?_;have da:=aJ7 ha m;have db:=aJ7 hb m;have sa:jL a/4294967296^m/4294967296=jL a/4294967296^(m+1):=by rw[Nat.div_div_eq_div_mul,zLQ]
  have sb:jL b/4294967296^m/4294967296=jL b/4294967296^(m+1):=by rw[Nat.div_div_eq_div_mul,zLQ]
  have mono:∀{x y:Nat},x/4294967296^m<y/4294967296^m->x<y:=fun {x y} hxy=>by
   refine Nat.lt_of_not_le λhle=>?_;have:=Nat.div_le_div_right (c:=4294967296^m) hle;omega
  generalize a.getD m 0=p at *;generalize b.getD m 0=q at *;by_cases he:p=q
  ·subst he;simp only[bne_self_eq_false,g2,cG,reduceIte];refine⟨⟨m,by omega,rfl,(by trivial),?_⟩,?_⟩
   ·omega
   ·simp only[aXw,rY,pR];omega
  ·have g3:((p:Int) !=(q:Int))=true:=by rw[bne_iff_ne];omega
   have g4:decide ((q:Int)<(p:Int))=decide (jL b<jL a):=by
    by_cases hlt:q<p
    ·have:jL b<jL a:=mono (by omega);have h2:(q:Int)<(p:Int):=by omega
     simp only[this,h2]
    ·have:jL a<jL b:=mono (by omega);have hn:¬jL b<jL a:=by omega
     have h2:¬(q:Int)<(p:Int):=by omega
     simp only[hn,h2]
   simp only[g3,aQU,g4,cG,reduceIte];exact hk
theorem aUg{h:PH}(x n:Nat)(third:Bool)(hx:x≤68719476736)(hn:n<4294967296){k:cD}(hk:∀h',dD h h'->k (.bool (decide (x^(if third then 3 else 2)≤n*4294967296^(if third then 3 else 2)))) h'):
  aT PG aCX #[.int .u64 (x:Int),.int .u64 (n:Int),.bool third] h k:=by
 apply aBE.call;unfold aBE;have b1:jM PG (buildSlice dP 1 #[(0,.int .u64 (x:Int))])=some (.cells #[.int .u64 (x:Int)] cA,λr=>pure (.slice (some ⟨r,0,none⟩) 1 1)):=by kernel_rfl
 simp only[b1,cG,reduceIte];intro r hr;refine fL ?_
 try rw[cZ]
 have u1:dD h (h.set r (.cells #[.int .u64 (x:Int)] cA)):=cU.new hr;have S1:fR (h.set r (.cells #[.int .u64 (x:Int)] cA)) 1 (.slice (some ⟨r,0,none⟩) 1 1) ([x].map oV):=(eD.lit (n:=1) (oV.rows [x]) dM (by simp) (by decide) rfl).slR;generalize h.set r (.cells #[.int .u64 (x:Int)] cA)=h1 at *;have key:∀t:Nat,1≤t->t≤2->(∀h',dD h h'->k (.bool (decide (x^(t+1)≤n*4294967296^(t+1)))) h')->yL k (.int .u64 (x:Int)) (.int .u64 (n:Int)) (.slice (some ⟨r,0,none⟩) 1 1) (.int .i64 (t:Int)) h1:=by
  intro t ht1 ht2 hkt;unfold yL;refine⟨λvs h'=>∃(j:Nat) (w:Value) (l:List Nat),j≤t∧vs=[.int .u64 (x:Int),.int .u64 (n:Int),w,.int .i64 (t:Int),.int .i64 (j:Int)]∧fR h' 1 w (l.map oV)∧(∀d∈l,d≤18446744069414584320)∧jL l<4294967296^(l.length+1)∧l.length≤1+4*j∧jL l=x^(j+1)∧(1≤j->Dig l)∧l≠[]∧dD h h',gY t 4,⟨0,_,[x],by omega,rfl,S1,by simp;omega,by simp only[jL,uW,zLM];omega,by simp,by simp[jL],by omega,by simp,u1⟩,?_⟩;rintro ρ h' ⟨j,w,l,hj,hvs,S,hs,hd,hl,hv,hdg,hln,u⟩;simp only[iJ,iV,kW,and_true] at hvs;obtain⟨v0,v1,v7,v8,v9⟩:=hvs;simp only[v0,v1,v7,v8,v9,iJ,iV];unfold aF8;by_cases hlt:j<t
  ·have g1:((j:Int)<(t:Int))=True:=eq_true (by omega);have gi:=qG (i:=j) (by omega);simp only[g1,cG,reduceIte];refine aQt S hs hd (by omega) x (by omega) λh2 w2 l2 F2 O2 hd2 hl2 hv2 f2 u2=>?_;simp only[gi,cG,reduceIte];refine⟨⟨j+1,w2,l2,by omega,rfl,O2.slR,λd hd=>by have:=hd2 d hd;omega,aKh (aJs hd2) (aKT (by decide) (by omega)),by omega,by rw[hv2,hv,←zLQ],λ_=>hd2,aJj (by omega),u.trans u2⟩,?_⟩;simp only[gY,rY,pR];omega
  ·have g1:((j:Int)<(t:Int))=False:=eq_false (by omega);have hjt:j=t:=by omega
   subst hjt;have g2:IntKind.i64.wrap ((j:Int)+2)=((j+2:Nat):Int):=by rw[eX (by omega) (by omega)];omega
   have g3:=qG (i:=j) (by omega);obtain⟨zs,m1,m2⟩:=aQW (h:=h) (n:=j+2) (by omega);simp only[g1,g2,g3,m1,cG,reduceIte];intro r2 hr2;refine fL ?_
   try rw[cZ]
   have u2:dD h' (h'.set r2 (.cells zs cA (0,0))):=cU.new hr2;have O2:aGn (h'.set r2 (.cells zs cA (0,0))) (.slice (some ⟨r2,0,none⟩) (j+2) (j+2)) (List.replicate (j+2) 0) [r2]:=eD.lit (n:=j+2) (oV.rows _) dM (by simp) (by unfold qN;omega) m2;generalize h'.set r2 (.cells zs cA (0,0))=h2 at *;obtain⟨pb,q1,q2⟩:=O2.storeCell (t:=dP) (k:=.i64) (j:=j+1) dP.und cA.info cA.size cA.und rfl (by simp) (x:=.int .u64 (n:Int)) rfl;simp only[q1,cG,reduceIte];refine q2 _ λh3 O3 u3=>?_;have hrows:((List.replicate (j+2) 0).map oV).take (j+1)++[[(.int .u64 (n:Int):Value)]]++((List.replicate (j+2) 0).map oV).drop (j+1+1)=((List.replicate (j+2) 0).set (j+1) n).map oV:=by
    rw[List.set_eq_take_append_cons_drop,if_pos (by simp),qX,iJ,aH0,List.map_drop];simp[oV]
   rw[hrows] at O3;have hdw:Dig ((List.replicate (j+2) 0).set (j+1) n):=λz hz=>by
    rcases List.mem_or_eq_of_mem_set hz with hz|rfl
    ·exact aLT _ z hz
    ·exact hn
   have hvw:jL ((List.replicate (j+2) 0).set (j+1) n)=n*4294967296^(j+1):=by
    have:=aMh (List.replicate (j+2) 0) (j+1) n 0 (by rw[List.getElem?_replicate];simp);rw[aKa] at this;omega
   have hr0:h r2=none:=u.none hr2;have S3:=(S.ext u2).upd u3 (λa n' c e=>by
    simp only[fU];intro hh;obtain⟨a0,c0,e0,_,_,hx0,_⟩:=S.here;rw[e0] at e;have hne:(l.map oV)≠[]:=by simpa using hln
    obtain⟨b,o,cs,e',fr,ha0,hb0,_⟩:=hx0 hne;rw[ha0] at e;simp only[Value.slice.injEq,zL8] at e;rw[←e.1] at hh;simp only at hh;rw[hh,hr2] at hb0;cases hb0)
   refine aVe S3 O3.slR (hdg ht1) hdw (by omega) (by simp;omega) ?_;have hfin:=hkt h3 ((u.trans u2).fresh u3 (dZ.one hr0));have e9:(!decide (jL ((List.replicate (j+2) 0).set (j+1) n)<jL l))=decide (x^(j+1)≤n*4294967296^(j+1)):=by
    rw[hvw,hv,zLm];simp
   simp only[e9,cG,reduceIte];exact hfin
 cases third with
 | true=>
  simp only[cG,reduceIte];exact key 2 (by omega) (by omega) hk
 | false=>
  simp only[cG,reduceIte];exact key 1 (by omega) (by omega) hk
def gap:List Value->PH->Nat:=λvs _=>match vs[2]? with
 | some (Value.int _ x)=>match vs[3]? with
  | some (Value.int _ y)=>(y-x).toNat
  | _=>0
 | _=>0
theorem aTy(x:Int):cV PG (convert cA cL (.int .u64 x))=some (.int .u32 (IntKind.u32.wrap x)):=by kernel_rfl
theorem aUZ{k T r R:Nat}(h1:r^k≤T)(h2:T<(r+1)^k)(h3:R^k≤T)(h4:T<(R+1)^k):r=R:=by
 rcases Nat.lt_trichotomy r R with h|h|h
 ·have:=Nat.pow_le_pow_left (show r+1≤R by omega) k;omega
 ·exact h
 ·have:=Nat.pow_le_pow_left (show R+1≤r by omega) k;omega
theorem aRQ{h:PH}(n:Nat)(third:Bool)(hn:n<4294967296)(hT:n*4294967296^(if third then 3 else 2)<68719476736^(if third then 3 else 2))(R:Nat)(hR1:R^(if third then 3 else 2)≤n*4294967296^(if third then 3 else 2))(hR2:n*4294967296^(if third then 3 else 2)<(R+1)^(if third then 3 else 2))(w:W)(hw:R%4294967296=w.toNat){k:cD}(hk:∀h',dD h h'->k (wv w) h'):
  aT PG zK #[.int .u64 (n:Int),.bool third] h k:=by
 apply aB9.call;unfold aB9;have hpos:0<(if third then 3 else 2):=by cases third<;>decide
 refine⟨λvs h'=>∃lo hi:Nat,vs=[.int .u64 (n:Int),.bool third,.int .u64 (lo:Int),.int .u64 (hi:Int)]∧lo<hi∧hi≤68719476736∧lo^(if third then 3 else 2)≤n*4294967296^(if third then 3 else 2)∧n*4294967296^(if third then 3 else 2)<hi^(if third then 3 else 2)∧dD h h',gap,⟨0,68719476736,rfl,by omega,by omega,by rw[Nat.zero_pow hpos];omega,hT,cU.refl⟩,?_⟩;rintro ρ h' ⟨lo,hi,hvs,hlh,hhi,h1,h2,u⟩;simp only[iJ,iV,kW,and_true] at hvs;obtain⟨v0,v1,v5,v6⟩:=hvs;simp only[v0,v1,v5,v6,iJ,iV];unfold aGb;have e1:IntKind.u64.wrap ((hi:Int)-(lo:Int))=((hi-lo:Nat):Int):=by rw[gJ (by omega) (by omega)];omega
 by_cases hg:1<hi-lo
 ·have g1:((1:Int)<((hi-lo:Nat):Int))=True:=eq_true (by omega);have e2:IntKind.u64.wrap ((lo:Int)+(hi:Int))=((lo+hi:Nat):Int):=by rw[gJ (by omega) (by omega)];omega
  have e3:Int.tdiv ((lo+hi:Nat):Int) 2=(((lo+hi)/2:Nat):Int):=rfl;have e4:IntKind.u64.wrap (((lo+hi)/2:Nat):Int)=(((lo+hi)/2:Nat):Int):=gJ (by omega) (by omega);have qu:∀(t:TypeId) (a:Int),cV PG (binOp .quo t (.int .u64 a) (.int .u64 2))=some (.int .u64 (IntKind.u64.wrap (a.tdiv 2))):=λt a=>aLQ (by decide);simp only[e1,g1,e2,qu,e3,e4,cG,reduceIte];refine aUg ((lo+hi)/2) n third (by omega) hn λh3 u3=>?_;by_cases hc:((lo+hi)/2)^(if third then 3 else 2)≤n*4294967296^(if third then 3 else 2)
  ·simp only[hc,cG,reduceIte];unfold zL;refine⟨⟨_,_,rfl,by omega,hhi,hc,h2,u.trans u3⟩,?_⟩;simp only[gap,rY,pR];omega
  ·simp only[hc,cG,reduceIte];unfold zL;refine⟨⟨_,_,rfl,by omega,by omega,h1,by omega,u.trans u3⟩,?_⟩;simp only[gap,rY,pR];omega
 ·have g1:((1:Int)<((hi-lo:Nat):Int))=False:=eq_false (by omega);simp only[e1,g1,aTy,cG,reduceIte];have hhl:hi=lo+1:=by omega
  subst hhl;obtain rfl:lo=R:=aUZ h1 h2 hR1 hR2;have e:Value.int .u32 (IntKind.u32.wrap (lo:Int))=wv w:=by
   unfold wv;rw[aFr,←hw];congr 1
  rw[e];exact hk _ u
theorem aYW{h:PH}{v x:Value}{l ys:List Nat}{F:List Nat}(O:aGn h v l F)(S:fR h 1 x (ys.map oV))(hl:l.length+ys.length≤1000000){t:TypeId}{k:cD}
  (hk:∀v' h' F',aGn h' v' (l++ys) F'->cU F h h'->(∀b∈F',b∈F∨h b=none)->k v' h'):cY PG (Builtin.append_ #[dP,dP] t #[v,x]) h k:=by
 refine jF dP.und dP.und cA.info cA.size cA.bytes cA.zero rfl (by decide) O S ?_ (by simp;omega) ?_
 ·intro r hr u hu;obtain⟨y,hyy,rfl⟩:=lO.1 hr;simp only[oV,fU] at hu;subst hu;rfl
 intro v' h' F' O' u' k' _;rw[←qX] at O';exact hk v' h' F' O' u' k'
theorem aP0(f:Nat)(out:List Nat)(x:Nat):aJw (f+1) out x=if out.length<64 then aJw f (if out.all (λd=>decide (x%d≠0)) then out++[x] else out) (x+1) else some out:=rfl
theorem aTw{h:PH}{k:cD}(hk:∀h' v F,aGn h' v P64 F->dD h h'->k v h'):aT PG aBg #[.int .i64 64] h k:=by
 apply rE.call;unfold rE;refine⟨λvs h'=>∃(x:Nat) (v:Value) (out F:List Nat),vs=[.int .i64 64,v,.int .u64 (x:Int)]∧2≤x∧x≤402∧aJw (402-x) out x=some P64∧(∀d∈out,0<d)∧aGn h' v out F∧dZ h F∧dD h h',gY 402 2,⟨2,_,[],[],rfl,by omega,by omega,aSi,by simp,eD.nil,(λb hb=>by cases hb),cU.refl⟩,?_⟩;rintro ρ h' ⟨x,v,out,F,hvs,hx2,hx,hP,hd,O,fF,u⟩;simp only[iJ,iV,kW,and_true] at hvs;obtain⟨v0,v3,v4⟩:=hvs;simp only[v0,v3,v4,iJ,iV];unfold aFN;have lv:=aKf O.slR;have hx':x<402:=by
  refine Nat.lt_of_le_of_ne hx λe=>?_;subst e;cases hP
 obtain⟨f,hf⟩:∃f,402-x=f+1:=⟨401-x,by omega⟩;rw[hf,aP0] at hP;by_cases hl:out.length<64
 ·rw[if_pos hl] at hP;have g1:((out.length:Int)<64)=True:=eq_true (by omega);simp only[lv,g1,cG,reduceIte];refine⟨λvs h2=>∃(i:Nat),i≤out.length∧vs=[.int .i64 64,v,.int .u64 (x:Int),.bool ((out.take i).all (λd=>decide (x%d≠0))),.int .i64 (i:Int)]∧h2=h',gY out.length 4,⟨0,by omega,rfl,rfl⟩,?_⟩;rintro ρ2 h2 ⟨i,hi,hvs,rfl⟩;simp only[iJ,iV,kW,and_true] at hvs;obtain⟨w0,w3,w4,w5,w6⟩:=hvs;simp only[w0,w3,w4,w5,w6,iJ,iV];unfold aFJ;by_cases hil:i<out.length
  ·have g2:((i:Int)<(out.length:Int))=True:=eq_true (by omega);have gi:=qG (i:=i) (by omega);have hxi:out[i]? =some out[i]:=lU hil;have hdp:=hd _ (aLH hil);have htk:out.take (i+1)=out.take i++[out[i]]:=aR8 hil;generalize out[i]=d at *;obtain⟨pa,p1,p2⟩:=aLo O.slR hxi;have rm:cV PG (binOp .rem cA (.int .u64 (x:Int)) (.int .u64 (d:Int)))=some (.int .u64 ((x%d:Nat):Int)):=by
    rw[aHn (by omega)];congr 2
   have hall:(out.take (i+1)).all (λd=>decide (x%d≠0))=((out.take i).all (λd=>decide (x%d≠0))&&decide (x%d≠0)):=by
    rw[htk,List.all_append];simp
   by_cases hz:x%d=0
   ·have g3:(((x%d:Nat):Int)==0)=true:=by simp[hz]
    simp only[lv,g2,p1,p2,rm,g3,cG,reduceIte];unfold vJ aAu;simp only[gi,cG,reduceIte];refine⟨⟨i+1,by omega,?_,(by trivial)⟩,?_⟩
    ·rw[hall];simp[hz]
    ·simp only[gY,rY,pR];omega
   ·have g3:(((x%d:Nat):Int)==0)=false:=by simp;omega
    simp only[lv,g2,p1,p2,rm,g3,cG,reduceIte];unfold vJ aAu;simp only[gi,cG,reduceIte];refine⟨⟨i+1,by omega,?_,(by trivial)⟩,?_⟩
    ·rw[hall];simp[hz]
    ·simp only[gY,rY,pR];omega
  ·have g2:((i:Int)<(out.length:Int))=False:=eq_false (by omega);have gx:IntKind.u64.wrap ((x:Int)+1)=((x+1:Nat):Int):=by rw[gJ (by omega) (by omega)];omega
   rw[mU (by omega)];have hfx:402-(x+1)=f:=by omega
   cases hok:out.all (λd=>decide (x%d≠0)) with
   | false=>
    rw[hok] at hP;simp only[lv,g2,cG,reduceIte];unfold vI aAx;simp only[gx,cG,reduceIte];refine⟨⟨x+1,v,out,F,rfl,by omega,by omega,by rw[hfx];simpa using hP,hd,O,fF,u⟩,?_⟩;simp only[gY,rY,pR];omega
   | true=>
    rw[hok,if_pos rfl] at hP;have b1:jM PG (buildSlice dP 1 #[(0,.int .u64 (x:Int))])=some (.cells #[.int .u64 (x:Int)] cA,λr=>pure (.slice (some ⟨r,0,none⟩) 1 1)):=by kernel_rfl
    simp only[lv,g2,b1,cG,reduceIte];intro r hr;refine fL ?_
    try rw[cZ]
    have u1:dD h2 (h2.set r (.cells #[.int .u64 (x:Int)] cA)):=cU.new hr;have S1:fR (h2.set r (.cells #[.int .u64 (x:Int)] cA)) 1 (.slice (some ⟨r,0,none⟩) 1 1) ([x].map oV):=(eD.lit (n:=1) (oV.rows [x]) dM (by simp) (by decide) rfl).slR;generalize h2.set r (.cells #[.int .u64 (x:Int)] cA)=h3 at *;refine aYW (O.ext u1) S1 (by simp;omega) λv' h4 F' O' u' k'=>?_;unfold vI aAx;simp only[gx,cG,reduceIte];have e1:=u.trans u1;refine⟨⟨x+1,v',out++[x],F',rfl,by omega,by omega,by rw[hfx];exact hP,λd hdm=>?_,O',fF.grow e1 k',e1.fresh u' fF⟩,?_⟩
    ·rcases jG.1 hdm with hdm|hdm
     ·exact hd d hdm
     ·simp only[fU] at hdm;omega
    ·simp only[gY,rY,pR];omega
 ·rw[if_neg hl] at hP;obtain rfl:out=P64:=aJn hP;have g1:((P64.length:Int)<64)=False:=eq_false (by decide);simp only[lv,g1,cG,reduceIte];exact hk _ v F O u
def aDA(w:W):List Value:=[wv w]
theorem aDA.rows(l:List W):Rows 1 (l.map aDA):=λr hr=>by
 obtain⟨p,-,rfl⟩:=lO.1 hr;rfl
theorem aDA.isCell(l:List W):∀r∈l.map aDA,∀u∈r,eP u=true:=λr hr u hu=>by
 obtain⟨y,hyy,rfl⟩:=lO.1 hr;simp only[aDA,fU] at hu;subst hu;rfl
abbrev aEU(h:PH)(v:Value)(l:List W)(F:List Nat):Prop:=eD h cL 1 v (l.map aDA) F
abbrev WSl(h:PH)(v:Value)(l:List W):Prop:=fR h 1 v (l.map aDA)
theorem aEM{h:PH}{v:Value}{l:List W}(S:WSl h v l){i:Nat}{x:W}(hx:l[i]? =some x):∃a,cV PG (indexAt eQ v (.int .i64 (i:Int)))=some (.pointer (some a))∧cE PG h (loadAt cL (.pointer (some a)))=some (wv x):=
 S.loadCell (t:=eQ) (k:=.i64) (j:=(i:Int)) eQ.und cL.info cL.size cL.und rfl (by omega) (by rw[qF,wN,hx];rfl)
theorem aPZ{h:PH}{v x:Value}{l ys:List W}{F:List Nat}(O:aEU h v l F)(S:WSl h x ys)(hl:l.length+ys.length≤1000000){t:TypeId}{k:cD}
  (hk:∀v' h' F',aEU h' v' (l++ys) F'->cU F h h'->(∀b∈F',b∈F∨h b=none)->k v' h'):cY PG (Builtin.append_ #[eQ,eQ] t #[v,x]) h k:=by
 refine jF eQ.und eQ.und cL.info cL.size cL.bytes cL.zero rfl (by decide) O S (aDA.isCell ys) (by simp;omega) ?_;intro v' h' F' O' u' k' _;rw[←qX] at O';exact hk v' h' F' O' u' k'
theorem aRx(a:W):jM PG (buildSlice eQ 1 #[(0,wv a)])=some (.cells #[wv a] cL,λr=>pure (.slice (some ⟨r,0,none⟩) 1 1)):=by kernel_rfl
theorem aPi{h:PH}{k:cD}(hk:∀h' v w F G,aEU h' v kT F->aEU h' w H8 G->dZ h F->dZ h G->dD h h'->k (.tuple #[v,w]) h'):aT PG zO #[] h k:=by
 apply wO.call;unfold wO;refine aTw λh1 p Fp Op u1=>?_;refine⟨λvs h'=>∃(i:Nat) (v w:Value) (F G:List Nat),i≤64∧vs=[v,w,p,.int .i64 (i:Int)]∧aEU h' v (kT.take i) F∧aEU h' w (H8.take i) G∧(∀x∈F,x∉G)∧dZ h1 F∧dZ h1 G∧dD h1 h',gY 64 3,⟨0,_,_,[],[],by omega,rfl,eD.nil,eD.nil,by simp,(λb hb=>by cases hb),(λb hb=>by cases hb),cU.refl⟩,?_⟩;rintro ρ h' ⟨i,v,w,F,G,hi,hvs,OF,OG,hFG,fF,fG,u⟩;simp only[iJ,iV,kW,and_true] at hvs;obtain⟨v2,v3,v4,v5⟩:=hvs;simp only[v2,v3,v4,v5,iJ,iV];unfold aD3;by_cases hl:i<64
 ·have g1:((i:Int)<64)=True:=eq_true (by omega);have gi:=qG (i:=i) (by omega);have hpi:P64[i]? =some (P64.getD i 0):=by
   rw[aAT,lU (show i<P64.length by show i<64;omega)];rfl
  have hki:kT.take (i+1)=kT.take i++[kT.getD i 0]:=by
   rw[aR8 (show i<kT.length by rw[aJu];omega),aAT,lU (show i<kT.length by rw[aJu];omega)];rfl
  have hrt:=aDO.1 aYU i (aKB.2 hl);simp only[yB,decide_eq_true_eq] at hrt;obtain⟨⟨⟨⟨r1,r2⟩,r3⟩,r4⟩,r5⟩:=hrt;obtain⟨pa,p1,p2⟩:=aLo (Op.slR.ext u) hpi;simp only[g1,p1,p2,cG,reduceIte];refine aRQ _ true r5 r4 _ r1 r2 (kT.getD i 0) r3 λh2 u2=>?_;have e2:=u.trans u2;simp only[aRx,cG,reduceIte];intro r hr;refine fL ?_
  try rw[cZ]
  have u3:dD h2 (h2.set r (.cells #[wv (kT.getD i 0)] cL)):=cU.new hr;have S3:WSl (h2.set r (.cells #[wv (kT.getD i 0)] cL)) (.slice (some ⟨r,0,none⟩) 1 1) [kT.getD i 0]:=(eD.lit (n:=1) (aDA.rows [kT.getD i 0]) dM (by simp) (by decide) rfl).slR;generalize h2.set r (.cells #[wv (kT.getD i 0)] cL)=h3 at *;have e3:=e2.trans u3;refine aPZ ((OF.ext u2).ext u3) S3 (by simp;omega) λv' h4 F' O4 u4 k4=>?_;rw[←hki] at O4;have e4:=e3.fresh u4 fF;have f4:=fF.grow e3 k4;have OG4:=((OG.ext u2).ext u3).upd u4 (λb hb hm=>hFG b hm hb);have hFG4:∀x∈F',x∉G:=λx hx hm=>by
   rcases k4 x hx with h0|h0
   ·exact hFG x h0 hm
   ·exact((OG.ext u2).ext u3).known x hm h0
  by_cases h8:i<8
  ·have g2:((i:Int)<8)=True:=eq_true (by omega);have hhi:H8.take (i+1)=H8.take i++[H8.getD i 0]:=by
    rw[aR8 (show i<H8.length by show i<8;omega),aAT,lU (show i<H8.length by show i<8;omega)];rfl
   have hrs:=aDO.1 aX6 i (aKB.2 h8);simp only[yB,decide_eq_true_eq] at hrs;obtain⟨⟨⟨s1,s2⟩,s3⟩,s4⟩:=hrs;obtain⟨pb,q1,q2⟩:=aLo (Op.slR.ext e4) hpi;rw[p1] at q1;obtain rfl:pa=pb:=by simpa using q1
   simp only[g2,p1,q2,cG,reduceIte];refine aRQ _ false r5 s4 _ s1 s2 (H8.getD i 0) s3 λh5 u5=>?_;have e5:=e4.trans u5;simp only[aRx,cG,reduceIte];intro r' hr';refine fL ?_
   try rw[cZ]
   have u6:dD h5 (h5.set r' (.cells #[wv (H8.getD i 0)] cL)):=cU.new hr';have S6:WSl (h5.set r' (.cells #[wv (H8.getD i 0)] cL)) (.slice (some ⟨r',0,none⟩) 1 1) [H8.getD i 0]:=(eD.lit (n:=1) (aDA.rows [H8.getD i 0]) dM (by simp) (by decide) rfl).slR;generalize h5.set r' (.cells #[wv (H8.getD i 0)] cL)=h6 at *;have e6:=e5.trans u6;refine aPZ ((OG4.ext u5).ext u6) S6 (by simp;omega) λw' h7 G' O7 u7 k7=>?_;rw[←hhi] at O7;unfold rT yX;simp only[gi,cG,reduceIte];have O4':=((O4.ext u5).ext u6).upd u7 hFG4;have hFG7:∀x∈F',x∉G':=λx hx hm=>by
    rcases k7 x hm with h0|h0
    ·exact hFG4 x hx h0
    ·exact((O4.ext u5).ext u6).known x hx h0
   refine⟨⟨i+1,v',w',F',G',by omega,rfl,O4',O7,hFG7,f4,fG.grow e6 k7,e6.fresh u7 fG⟩,?_⟩;simp only[gY,rY,pR];omega
  ·have g2:((i:Int)<8)=False:=eq_false (by omega);have hhi:H8.take (i+1)=H8.take i:=by
    rw[mU (show H8.length≤i+1 by show 8≤i+1;omega),mU (show H8.length≤i by show 8≤i;omega)]
   simp only[g2,cG,reduceIte];unfold rT yX;simp only[gi,cG,reduceIte];refine⟨⟨i+1,v',w,F',G,by omega,rfl,O4,by rw[hhi];exact OG4,hFG4,f4,fG,e4⟩,?_⟩;simp only[gY,rY,pR];omega
 ·have g1:((i:Int)<64)=False:=eq_false (by omega);rw[mU (by rw[aJu];omega)] at OF;rw[mU (show H8.length≤i by show 8≤i;omega)] at OG;simp only[g1,cG,reduceIte];exact hk h' v w F G OF OG (fF.of u1) (fG.of u1) (u1.trans u)
theorem zY{h:PH}{x:W}{n:Nat}(h1:1≤n)(h2:n≤31){k:cD}(hk:k (wv (tn x n)) h):aT PG jX #[wv x,.int .i64 n] h k:=by
 apply sP.call;unfold sP;have e1:IntKind.i64.wrap (32-(n:Int))=((32-n:Nat):Int):=by rw[eX (by omega) (by omega)];omega
 simp only[aJZ (show n≤32 by omega),e1,aNJ (show 32-n≤32 by omega),aUc,cG,reduceIte];rw[BitVec.or_comm];exact hk
theorem aYc{t:TypeId}{x:W}{c:Nat}:cV PG (binOp .mul t (wv x) (.int .u32 (c:Int)))=some (wv (x*BitVec.ofNat 32 c)):=by
 unfold wv;rw[aPg,aFr,BitVec.toNat_mul,BitVec.toNat_ofNat,←Int.natCast_mul];congr 2;have:x.toNat*(c%2^32)%2^32=x.toNat*c%4294967296:=by rw[Nat.mul_mod_mod]
 rw[this];rfl
theorem aPd{t:TypeId}{x:W}{c:Nat}{i:Int}{w:W}(hi:i=(c:Int))(hw:w=BitVec.ofNat 32 c):cV PG (binOp .mul t (wv x) (.int .u32 i))=some (wv (x*w)):=by
 subst hi hw;exact aYc
theorem aWD{t:TypeId}{x:W}:cV PG (binOp .mul t (wv x) (.int .u32 16777216))=some (wv (x*16777216)):=aPd (c:=16777216) (by decide) (by decide)
theorem aWK{t:TypeId}{x:W}:cV PG (binOp .mul t (wv x) (.int .u32 65536))=some (wv (x*65536)):=aPd (c:=65536) (by decide) (by decide)
theorem aXy{t:TypeId}{x:W}:cV PG (binOp .mul t (wv x) (.int .u32 256))=some (wv (x*256)):=aPd (c:=256) (by decide) (by decide)
theorem aYp{t:TypeId}{x:W}:cV PG (binOp .sub t (.int .u32 4294967295) (wv x))=some (wv (~~~x)):=by
 unfold wv;rw[aM9,aFr,BitVec.toNat_not];have:=x.isLt;congr 2;omega
theorem aRw(i a b:Nat)(h:b<2^i):a*2^i ||| b=a*2^i+b:=by
 have:=Nat.shiftLeft_add_eq_or_of_lt (i:=i) (b:=b) h a;rw[Nat.shiftLeft_eq] at this;exact this.symm
theorem aY9(a b:Nat)(h:b<16777216):a*16777216 ||| b=a*16777216+b:=aRw 24 a b h
theorem aZK(a b:Nat)(h:b<65536):a*65536 ||| b=a*65536+b:=aRw 16 a b h
theorem or8(a b:Nat)(h:b<256):a*256 ||| b=a*256+b:=aRw 8 a b h
theorem aXr{a b c d:Nat}(hb:b<256)(hc:c<256)(hd:d<256):((a*16777216 ||| b*65536) ||| c*256) ||| d=a*16777216+b*65536+c*256+d:=by
 rw[aY9 a (b*65536) (by omega)];have e1:a*16777216+b*65536=(a*256+b)*65536:=by omega
 rw[e1,aZK _ (c*256) (by omega)];have e2:(a*256+b)*65536+c*256=(a*65536+b*256+c)*256:=by simp only[zLE,Nat.mul_assoc,Nat.reduceMul]
 rw[e2,or8 _ d hd]
theorem aXj{a b c d:Nat}(ha:a<256)(hb:b<256)(hc:c<256)(hd:d<256):
  (((a%4294967296*16777216%4294967296+b%4294967296*65536%4294967296)%4294967296+c%4294967296*256%4294967296)%4294967296+d%4294967296)%4294967296
   =a%4294967296*16777216%4294967296 ||| b%4294967296*65536%4294967296 ||| c%4294967296*256%4294967296 ||| d%4294967296:=by
 have lt:∀{x:Nat},x<256->x%4294967296=x:=λh=>aCZ (by omega);rw[lt ha,lt hb,lt hc,lt hd,aCZ (a:=a*16777216) (by omega),aCZ (a:=b*65536) (by omega),aCZ (a:=c*256) (by omega),aXr hb hc hd];rw[aCZ (a:=a*16777216+b*65536) (by omega),aCZ (a:=a*16777216+b*65536+c*256) (by omega)];exact aCZ (by omega)
theorem w24:(16777216:W).toNat=16777216:=by simp
theorem w16:(65536:W).toNat=65536:=by simp
theorem aZW:(256:W).toNat=256:=by simp
theorem m24(a:Nat):(BitVec.ofNat 32 a*16777216).toNat=a%4294967296*16777216%4294967296:=by rw[BitVec.toNat_mul,BitVec.toNat_ofNat,w24]
theorem m16(a:Nat):(BitVec.ofNat 32 a*65536).toNat=a%4294967296*65536%4294967296:=by rw[BitVec.toNat_mul,BitVec.toNat_ofNat,w16]
theorem m8(a:Nat):(BitVec.ofNat 32 a*256).toNat=a%4294967296*256%4294967296:=by rw[BitVec.toNat_mul,BitVec.toNat_ofNat,aZW]
theorem s24(a:Nat):(BitVec.ofNat 32 a <<< 24).toNat=a%4294967296*16777216%4294967296:=by rw[BitVec.toNat_shiftLeft,BitVec.toNat_ofNat,Nat.shiftLeft_eq]
theorem s16(a:Nat):(BitVec.ofNat 32 a <<< 16).toNat=a%4294967296*65536%4294967296:=by rw[BitVec.toNat_shiftLeft,BitVec.toNat_ofNat,Nat.shiftLeft_eq]
theorem s8(a:Nat):(BitVec.ofNat 32 a <<< 8).toNat=a%4294967296*256%4294967296:=by rw[BitVec.toNat_shiftLeft,BitVec.toNat_ofNat,Nat.shiftLeft_eq]
theorem aVH(x y:W):(x+y).toNat=(x.toNat+y.toNat)%4294967296:=BitVec.toNat_add x y
theorem aT0(a b c d:UInt8):((BitVec.ofNat 32 a.toNat*16777216+BitVec.ofNat 32 b.toNat*65536)+BitVec.ofNat 32 c.toNat*256)+BitVec.ofNat 32 d.toNat=w4 a b c d:=by
 apply BitVec.eq_of_toNat_eq;unfold w4;rw[BitVec.toNat_or,BitVec.toNat_or,BitVec.toNat_or,aVH,aVH,aVH,s24,s16,s8,m24,m16,m8,BitVec.toNat_ofNat];exact aXj a.toNat_lt b.toNat_lt c.toNat_lt d.toNat_lt
def zV(l:List W):List W:=l++List.replicate (64-l.length) 0
theorem aJW{l:List W}{i:Nat}(hi:i<l.length):(zV l)[i]? =some (l.getD i 0):=by
 unfold zV;rw[List.getElem?_append_left hi,aAT,lU hi];rfl
theorem aOl{l:List W}(hl:l.length≤64):(zV l).length=64:=by simp[zV];omega
theorem aRz{l:List W}(hl:l.length=64):zV l=l:=by simp[zV,hl]
theorem aSo{l:List W}(hl:l.length<64)(x:W):((zV l).map aDA).take l.length++[[wv x]]++((zV l).map aDA).drop (l.length+1)=(zV (l++[x])).map aDA:=by
 unfold zV;rw[show 64-l.length=(64-(l.length+1))+1 by omega,List.replicate_succ];simp only[qX,iJ,jR,zLS];rw[zLG (by simp),mU (by simp)];have e:l.length+1=(l.map aDA).length+1:=by simp
 rw[e,←aIn];simp[aDA]
theorem aVo{h:PH}{v:Value}{l:List W}{F:List Nat}(O:aEU h v (zV l) F)(hl:l.length<64)(x:W):∃a,cV PG (indexAt eQ v (.int .i64 (l.length:Int)))=some (.pointer (some a))∧
  ∀K:Value->PH->Prop,(∀h',aEU h' v (zV (l++[x])) F->cU F h h'->K undef h')->cY PG (dJ cL (.pointer (some a)) (wv x)) h K:=by
 obtain⟨a,q1,q2⟩:=eD.storeCell O (t:=eQ) (k:=.i64) (j:=l.length) eQ.und cL.info cL.size cL.und rfl (by rw[iU,aOl (by omega)];exact hl) (x:=wv x) rfl;refine⟨a,q1,λK hK=>q2 K λh' O' u=>hK h' ?_ u⟩;rw[aSo hl] at O';exact O'
theorem rb6{b:List UInt8}(hb:b.length=64){i:Nat}(hi:i<16){h:PH}{R:cD}{n5:gP}{kv v w:Value}{F:List Nat}(O:aEU h w (zV (xL b i)) F)
  (hn:∀h',aEU h' w (zV (xL b (i+1))) F->cU F h h'->n5 [.string (tx b),kv,v,w,.int .i64 ((i+1:Nat):Int)] h'):
  xU R n5 (.string (tx b)) kv v w (.int .i64 (i:Int)) h:=by
 unfold xU;have e1:((i:Int)<16)=True:=eq_true (by omega);have e2:IntKind.i64.wrap (4*(i:Int))=((4*i:Nat):Int):=by rw[eX (by omega) (by omega)];omega
 have e31:IntKind.i64.wrap (((4*i:Nat):Int)+1)=((4*i+1:Nat):Int):=by rw[eX (by omega) (by omega)];omega
 have e32:IntKind.i64.wrap (((4*i:Nat):Int)+2)=((4*i+2:Nat):Int):=by rw[eX (by omega) (by omega)];omega
 have e33:IntKind.i64.wrap (((4*i:Nat):Int)+3)=((4*i+3:Nat):Int):=by rw[eX (by omega) (by omega)];omega
 have e4:=qG (i:=i) (by omega);have ix:∀j,j<64->b[j]? =some (b.getD j 0):=λj hj=>by
  rw[aAT,lU (by omega)];rfl
 have i0:cV PG (Instr.index bR (.string (tx b)) (.int .i64 ((4*i:Nat):Int)))=_:=zA (j:=4*i) bR.und (ix _ (by omega));have i1:cV PG (Instr.index bR (.string (tx b)) (.int .i64 ((4*i+1:Nat):Int)))=_:=zA (j:=4*i+1) bR.und (ix _ (by omega));have i2:cV PG (Instr.index bR (.string (tx b)) (.int .i64 ((4*i+2:Nat):Int)))=_:=zA (j:=4*i+2) bR.und (ix _ (by omega));have i3:cV PG (Instr.index bR (.string (tx b)) (.int .i64 ((4*i+3:Nat):Int)))=_:=zA (j:=4*i+3) bR.und (ix _ (by omega));have hl:(xL b i).length=i:=aGV b i;obtain⟨a,q1,q2⟩:=aVo O (by omega) (wat b i);rw[hl] at q1;have hw:wat b i=w4 (b.getD (4*i) 0) (b.getD (4*i+1) 0) (b.getD (4*i+2) 0) (b.getD (4*i+3) 0):=rfl;rw[hw,←aT0] at q2;simp only[e1,e2,e31,e32,e33,e4,i0,i1,i2,i3,aRO,w8,aWD,aWK,aXy,aFY,q1,cG,reduceIte];refine q2 _ λh' O' u=>hn h' ?_ u;rw[aT0,←hw,←aMK] at O';exact O'
theorem aZQ{b:List UInt8}{i:Nat}(hi:i<48){h:PH}{R:cD}{n5:gP}{kv v w:Value}{F:List Nat}(O:aEU h w (zV (mM b i)) F)
  (hn:∀h',aEU h' w (zV (mM b (i+1))) F->cU F h h'->n5 [kv,v,w,.int .i64 ((i+1+16:Nat):Int)] h'):
  xA R n5 kv v w (.int .i64 ((i+16:Nat):Int)) h:=by
 unfold xA;have hl:=aI9 b i;have S:=O.slR;have e1:(((i+16:Nat):Int)<64)=True:=eq_true (by omega);have e2:IntKind.i64.wrap (((i+16:Nat):Int)-15)=((i+1:Nat):Int):=by rw[eX (by omega) (by omega)];omega
 have e3:IntKind.i64.wrap (((i+16:Nat):Int)-2)=((i+14:Nat):Int):=by rw[eX (by omega) (by omega)];omega
 have e4:IntKind.i64.wrap (((i+16:Nat):Int)-16)=((i:Nat):Int):=by rw[eX (by omega) (by omega)];omega
 have e5:IntKind.i64.wrap (((i+16:Nat):Int)-7)=((i+9:Nat):Int):=by rw[eX (by omega) (by omega)];omega
 have e6:IntKind.i64.wrap (((i+16:Nat):Int)+1)=((i+1+16:Nat):Int):=by rw[eX (by omega) (by omega)];omega
 obtain⟨a1,p1,c1⟩:=aEM S (aJW (l:=mM b i) (i:=i+1) (by omega));obtain⟨a2,p2,c2⟩:=aEM S (aJW (l:=mM b i) (i:=i+14) (by omega));obtain⟨a3,p3,c3⟩:=aEM S (aJW (l:=mM b i) (i:=i) (by omega));obtain⟨a4,p4,c4⟩:=aEM S (aJW (l:=mM b i) (i:=i+9) (by omega));simp only[e1,e2,p1,c1,sr3,cG,reduceIte];refine zY (n:=7) (by decide) (by decide) ?_;refine⟨c1,c1,?_⟩;refine zY (n:=18) (by decide) (by decide) ?_;refine⟨c1,?_⟩;simp only[aD2,e3,p2,c2,aXl,cG,reduceIte];refine zY (n:=17) (by decide) (by decide) ?_;refine⟨c2,c2,?_⟩;refine zY (n:=19) (by decide) (by decide) ?_;refine⟨c2,?_⟩;obtain⟨a,q1,q2⟩:=aVo O (by omega) (aLx (mM b i) (i+16));rw[hl] at q1;simp only[aD2,aFY,e4,e5,p3,c3,p4,c4,q1,e6,cG,reduceIte];have hx:((tn ((mM b i).getD (i+14) 0) 17 ^^^ tn ((mM b i).getD (i+14) 0) 19) ^^^ ((mM b i).getD (i+14) 0>>>10))+(mM b i).getD (i+9) 0+((tn ((mM b i).getD (i+1) 0) 7 ^^^ tn ((mM b i).getD (i+1) 0) 18) ^^^ ((mM b i).getD (i+1) 0>>>3))+(mM b i).getD i 0=aLx (mM b i) (i+16):=by
  unfold aLx;rw[show i+16-15=i+1 by omega,show i+16-2=i+14 by omega,show i+16-16=i by omega,show i+16-7=i+9 by omega];simp only
  ac_rfl
 rw[hx];exact q2 _ λh' O' u=>hn h' O' u
theorem S8.l_get(s:S8){i:Nat}(hi:i<8):s.l[i]? =Option.some (s.l.getD i 0):=by
 rw[aAT,lU (show i<s.l.length from hi)];rfl
theorem aYo(a b c d e f g x:W):jM PG (buildSlice eQ 8 #[(0,wv a),(1,wv b),(2,wv c),(3,wv d),(4,wv e),(5,wv f),(6,wv g),(7,wv x)])=some (.cells #[wv a,wv b,wv c,wv d,wv e,wv f,wv g,wv x] cL,λr=>pure (.slice (some ⟨r,0,none⟩) 8 8)):=by kernel_rfl
theorem aZH{ws:List W}(hws:ws.length=64){s:S8}{i:Nat}(hi:i<64){h:PH}{R:cD}{n:gP}{kv v w x:Value}(SK:WSl h kv kT)(SW:WSl h w ws)(SX:WSl h x s.l)
  (hn:∀x' h',WSl h' x' (rnd s (kT.getD i 0) (ws.getD i 0)).l->dD h h'->n [kv,v,w,x',.int .i64 ((i+1:Nat):Int)] h'):
  wV R n kv v w x (.int .i64 (i:Int)) h:=by
 unfold wV;have e1:((i:Int)<64)=True:=eq_true (by omega);have e4:=qG (i:=i) (by omega);obtain⟨a0,p0,c0⟩:=aEM SX (s.l_get (i:=0) (by decide));obtain⟨a1,p1,c1⟩:=aEM SX (s.l_get (i:=1) (by decide));obtain⟨a2,p2,c2⟩:=aEM SX (s.l_get (i:=2) (by decide));obtain⟨a3,p3,c3⟩:=aEM SX (s.l_get (i:=3) (by decide));obtain⟨a4,p4,c4⟩:=aEM SX (s.l_get (i:=4) (by decide));obtain⟨a5,p5,c5⟩:=aEM SX (s.l_get (i:=5) (by decide));obtain⟨a6,p6,c6⟩:=aEM SX (s.l_get (i:=6) (by decide));obtain⟨a7,p7,c7⟩:=aEM SX (s.l_get (i:=7) (by decide));have z0:s.l.getD 0 0=s.a:=rfl;have z1:s.l.getD 1 0=s.b:=rfl;have z2:s.l.getD 2 0=s.c:=rfl;have z3:s.l.getD 3 0=s.d:=rfl;have z4:s.l.getD 4 0=s.e:=rfl;have z5:s.l.getD 5 0=s.f:=rfl;have z6:s.l.getD 6 0=s.g:=rfl;have z7:s.l.getD 7 0=s.h:=rfl;rw[z0] at c0;rw[z1] at c1;rw[z2] at c2;rw[z3] at c3;rw[z4] at c4;rw[z5] at c5;rw[z6] at c6;rw[z7] at c7;simp only[show((0:Nat):Int)=0 from rfl,show((1:Nat):Int)=1 from rfl,show((2:Nat):Int)=2 from rfl,show((3:Nat):Int)=3 from rfl,show((4:Nat):Int)=4 from rfl,show((5:Nat):Int)=5 from rfl,show((6:Nat):Int)=6 from rfl,show((7:Nat):Int)=7 from rfl] at p0 p1 p2 p3 p4 p5 p6 p7;have hk:kT[i]? =some (kT.getD i 0):=by
  rw[aAT,lU (by rw[aJu];exact hi)];rfl
 have hw:ws[i]? =some (ws.getD i 0):=by
  rw[aAT,lU (by rw[hws];exact hi)];rfl
 obtain⟨ak,pk,ck⟩:=aEM SK hk;obtain⟨aw,pw,cw⟩:=aEM SW hw;simp only[e1,p0,p1,p2,p4,p5,p6,p7,c0,c1,c2,c4,c5,c6,c7,pk,ck,pw,cw,aPW,aYp,aD2,cG,reduceIte];refine zY (n:=6) (by decide) (by decide) ?_;refine⟨cw,ck,c7,?_⟩;refine zY (n:=11) (by decide) (by decide) ?_;refine⟨cw,ck,c7,?_⟩;simp only[aD2,cG,reduceIte];refine zY (n:=25) (by decide) (by decide) ?_;refine⟨cw,ck,c7,?_⟩;simp only[aD2,aFY,cG,reduceIte];refine zY (n:=2) (by decide) (by decide) ?_;refine zY (n:=13) (by decide) (by decide) ?_;simp only[aD2,cG,reduceIte];refine zY (n:=22) (by decide) (by decide) ?_;simp only[aD2,aPW,aFY,p3,c3,aYo,e4,cG,reduceIte];intro r hr;refine fL ?_
 try rw[cZ]
 refine hn _ _ ?_ (cU.new hr);exact(eD.lit (n:=8) (aDA.rows (rnd s (kT.getD i 0) (ws.getD i 0)).l) dM (by rfl) (by decide) rfl).slR
theorem aXA(s t:S8){i:Nat}(hi:i<8):(s.add t).l.take (i+1)=(s.add t).l.take i++[s.l.getD i 0+t.l.getD i 0]:=by
 have:i=0∨i=1∨i=2∨i=3∨i=4∨i=5∨i=6∨i=7:=by omega
 rcases this with rfl|rfl|rfl|rfl|rfl|rfl|rfl|rfl<;>rfl
theorem aUa{h:PH}{b:List UInt8}(hb:b.length=64){s:S8}{kv v:Value}(SK:WSl h kv kT)(SV:WSl h v s.l){k:cD}(hk:∀h' w,WSl h' w (aJh s b).l->dD h h'->k w h'):
  aT PG aCQ #[.string (tx b),kv,v] h k:=by
 apply tG.call;unfold tG;obtain⟨zs',hm,hz⟩:=aEK (P:=PG) (n:=64) eQ.und cL.info cL.size cL.bytes cL.zero rfl (by decide) (by omega) (by omega);simp only[show((64:Nat):Int)=64 from rfl] at hm;simp only[hm,cG,reduceIte];intro r hr;refine fL ?_
 try rw[cZ]
 have u1:dD h (h.set r (.cells zs' cL (0,0))):=cU.new hr;have O1:aEU (h.set r (.cells zs' cL (0,0))) (.slice (some ⟨r,0,none⟩) 64 64) (zV (xL b 0)) [r]:=eD.lit (n:=64) (aDA.rows _) dM (by rw[iU,aOl (by simp[aGV])]) (by decide) (by
  rw[hz];rfl)
 generalize h.set r (.cells zs' cL (0,0))=h1 at *;have fr:=dZ.one hr;refine⟨λvs h'=>∃i:Nat,i≤16∧vs=[.string (tx b),kv,v,.slice (some ⟨r,0,none⟩) 64 64,.int .i64 (i:Int)]∧aEU h' (.slice (some ⟨r,0,none⟩) 64 64) (zV (xL b i)) [r]∧dD h h',gY 16 4,⟨0,by omega,rfl,O1,u1⟩,?_⟩;rintro ρ h' ⟨i,hi,hvs,O,u⟩;simp only[iJ,iV,kW,and_true] at hvs;obtain⟨v0,v1,v2,v7,v8⟩:=hvs;simp only[v0,v1,v2,v7,v8,iJ,iV];by_cases hl:i<16
 ·refine rb6 hb hl O λh2 O2 u2=>⟨⟨i+1,by omega,rfl,O2,u.fresh u2 fr⟩,?_⟩;simp only[gY,rY,pR];omega
 obtain rfl:i=16:=by omega
 unfold xU;simp only[show(((16:Nat):Int)<16)=False from eq_false (by decide),cG,reduceIte];refine⟨λvs h2=>∃i:Nat,i≤48∧vs=[kv,v,.slice (some ⟨r,0,none⟩) 64 64,.int .i64 ((i+16:Nat):Int)]∧aEU h2 (.slice (some ⟨r,0,none⟩) 64 64) (zV (mM b i)) [r]∧dD h h2,gY 64 3,⟨0,by omega,rfl,O,u⟩,?_⟩;rintro ρ2 h2 ⟨i,hi,hvs,O2,u2⟩;simp only[iJ,iV,kW,and_true] at hvs;obtain⟨w1,w2,w7,w9⟩:=hvs;simp only[w1,w2,w7,w9,iJ,iV];by_cases hl:i<48
 ·refine aZQ hl O2 λh3 O3 u3=>⟨⟨i+1,by omega,rfl,O3,u2.fresh u3 fr⟩,?_⟩;simp only[gY,rY,pR];omega
 obtain rfl:i=48:=by omega
 have hws:(mM b 48).length=64:=aKS b;rw[aRz hws] at O2;unfold xA;have b0:jM PG (buildSlice eQ 0 #[])=some (.cells #[] cL,λr=>pure (.slice (some ⟨r,0,none⟩) 0 0)):=by kernel_rfl
 simp only[show(((48+16:Nat):Int)<64)=False from eq_false (by decide),b0,cG,reduceIte];intro r3 hr3;refine fL ?_
 try rw[cZ]
 have u3:dD h2 (h2.set r3 (.cells #[] cL)):=cU.new hr3;have O3:aEU (h2.set r3 (.cells #[] cL)) (.slice (some ⟨r3,0,none⟩) 0 0) [] [r3]:=eD.lit (n:=0) (aDA.rows []) dM (by simp) (by decide) rfl;generalize h2.set r3 (.cells #[] cL)=h3 at *;have e3:=u2.trans u3;refine aPZ O3 (SV.ext e3) (by simp[S8.l]) λx h4 F4 O4 u4 k4=>?_;rw[xZ] at O4;have fr3:dZ h [r3]:=dZ.one (u2.none hr3);have e4:=e3.fresh u4 fr3;have SW:WSl h4 (.slice (some ⟨r,0,none⟩) 64 64) (mM b 48):=((O2.ext u3).upd u4 (λy hy hm=>by
  simp only[fU] at hy hm;subst hy;exact(O2.known y (by simp)) (by rw[hm];exact hr3))).slR
 refine⟨λvs h5=>∃(i:Nat) (x:Value),i≤64∧vs=[kv,v,.slice (some ⟨r,0,none⟩) 64 64,x,.int .i64 (i:Int)]∧WSl h5 x (aHw (mM b 48) s i).l∧dD h4 h5,gY 64 4,⟨0,_,by omega,rfl,O4.slR,cU.refl⟩,?_⟩;rintro ρ3 h5 ⟨i,x5,hi,hvs,S5,u5⟩;simp only[iJ,iV,kW,and_true] at hvs;obtain⟨w1,w2,w7,w12,w13⟩:=hvs;simp only[w1,w2,w7,w12,w13,iJ,iV];have e5:=e4.trans u5;by_cases hl:i<64
 ·refine aZH hws hl (SK.ext e5) (SW.ext u5) S5 λx' h6 S6 u6=>⟨⟨i+1,x',by omega,rfl,S6,u5.trans u6⟩,?_⟩;simp only[gY,rY,pR];omega
 obtain rfl:i=64:=by omega
 unfold wV;simp only[show(((64:Nat):Int)<64)=False from eq_false (by decide),cG,reduceIte];have hmix:(s.add (aHw (mM b 48) s 64))=aJh s b:=rfl;generalize aHw (mM b 48) s 64=q at *;refine⟨λvs h6=>∃(i:Nat) (z:Value) (F:List Nat),i≤8∧vs=[v,x5,z,.int .i64 (i:Int)]∧aEU h6 z ((s.add q).l.take i) F∧dZ h5 F∧dD h5 h6,gY 8 3,⟨0,_,[],by omega,rfl,eD.nil,(λb hb=>by cases hb),cU.refl⟩,?_⟩;rintro ρ4 h6 ⟨i,z,F6,hi,hvs,O6,f6,u6⟩;simp only[iJ,iV,kW,and_true] at hvs;obtain⟨w2,w12,w22,w23⟩:=hvs;simp only[w2,w12,w22,w23,iJ,iV];unfold aE1;by_cases hl:i<8
 ·have g1:((i:Int)<8)=True:=eq_true (by omega);have gi:=qG (i:=i) (by omega);obtain⟨a1,p1,c1⟩:=aEM ((SV.ext e5).ext u6) (s.l_get hl);obtain⟨a2,p2,c2⟩:=aEM (S5.ext u6) (q.l_get hl);simp only[g1,gi,p1,c1,p2,c2,aFY,aRx,cG,reduceIte];intro r7 hr7;refine fL ?_
  try rw[cZ]
  have u7:dD h6 (h6.set r7 (.cells #[wv (s.l.getD i 0+q.l.getD i 0)] cL)):=cU.new hr7;have S7:WSl (h6.set r7 (.cells #[wv (s.l.getD i 0+q.l.getD i 0)] cL)) (.slice (some ⟨r7,0,none⟩) 1 1) [s.l.getD i 0+q.l.getD i 0]:=(eD.lit (n:=1) (aDA.rows [_]) dM (by simp) (by decide) rfl).slR;generalize h6.set r7 (.cells #[wv (s.l.getD i 0+q.l.getD i 0)] cL)=h7 at *;refine aPZ (O6.ext u7) S7 (by simp[S8.l];omega) λz' h8 F8 O8 u8 k8=>?_;rw[←aXA s q hl] at O8;have e7:=u6.trans u7;refine⟨⟨i+1,z',F8,by omega,rfl,O8,f6.grow e7 k8,e7.fresh u8 f6⟩,?_⟩;simp only[gY,rY,pR];omega
 ·obtain rfl:i=8:=by omega
  have hfull:(s.add q).l.take 8=(aJh s b).l:=by rw[hmix];rfl
  rw[hfull] at O6;simp only[show(((8:Nat):Int)<8)=False from eq_false (by decide),cG,reduceIte];exact hk _ _ O6.slR (e5.trans u6)
end Go.Proofs.YtppgkeodaejgcaaGreatDoor
namespace Go.Proofs.YtppgkeodaejgcaaGreatDoor
open Go Bld
def aTn(m:Nat)(i:Nat):List Value->PH->Nat:=λvs _=>match vs[i]? with
 | some (.string s)=>m-s.size
 | _=>0
def aMj(n:Nat):Nat:=(119-n%64)%64
theorem aNz(n:Nat):aI2 n=128::(List.replicate (aMj n) 0++be (n*8%18446744073709551616) 8):=rfl
theorem aXk{m j:Nat}(hj:j<8)(x:UInt8)(hx:x=UInt8.ofNat (m/256^j%256)):
  ((List.replicate (8-j) 0++(be m 8).drop (8-j)).map jI).take (7-j)++[jI x]++((List.replicate (8-j) 0++(be m 8).drop (8-j)).map jI).drop (7-j+1)=(List.replicate (8-(j+1)) 0++(be m 8).drop (8-(j+1))).map jI:=by
 have e1:(List.replicate (8-j) (0:UInt8)++(be m 8).drop (8-j)).take (7-j)=List.replicate (8-(j+1)) 0:=by
  rw[zLG (by simp;omega),List.take_replicate];congr 1;omega
 have e2:(List.replicate (8-j) (0:UInt8)++(be m 8).drop (8-j)).drop (7-j+1)=(be m 8).drop (8-j):=by
  rw[List.drop_append_of_le_length (by simp;omega)];have:(List.replicate (8-j) (0:UInt8)).drop (7-j+1)=[]:=aLt (by simp;omega);rw[this];rfl
 have e3:(be m 8).drop (8-(j+1))=x::(be m 8).drop (8-j):=by
  have hg:=aNZ m 8 (8-(j+1)) (by omega);have:8-1-(8-(j+1))=j:=by omega
  rw[this] at hg;obtain⟨hlt',hg'⟩:=zLz.1 hg;rw[aMf hlt',hg',hx];have:8-(j+1)+1=8-j:=by omega
  rw[this]
 rw[←aH0,←List.map_drop,e1,e2,e3];simp
theorem aXn{h:PH}{l:List UInt8}(hl:l.length≤1000000000){k:cD}(hk:∀h',dD h h'->k (.string (tx (l++aI2 l.length))) h'):aT PG aDn #[.string (tx l)] h k:=by
 apply wG.call;unfold wG;have w1:IntKind.u64.wrap (l.length:Int)=(l.length:Int):=gJ (by omega) (by omega);have w2:IntKind.u64.wrap ((l.length:Int)*8)=((l.length*8:Nat):Int):=by rw[gJ (by omega) (by omega)];omega
 simp only[bR.len,iB,aA7,w1,w2,aLw,cG,reduceIte];intro r hr;refine fL ?_
 try rw[cZ]
 have u1:dD h (h.set r (.cells #[.int .u8 128] dQ)):=cU.new hr;have S1:fR (h.set r (.cells #[.int .u8 128] dQ)) 1 (.slice (some ⟨r,0,none⟩) 1 1) ([(128:UInt8)].map jI):=(eD.lit (jI.rows [128]) dM (by simp) (by decide) (by rfl)).slR;generalize h.set r (.cells #[.int .u8 128] dQ)=h1 at *;have hcv:cE PG h1 (convert dC bR (.slice (some ⟨r,0,none⟩) 1 1))=some (.string (tx [128])):=aEt dC.und dQ.und bR.und S1;have hadd:cV PG (binOp .add bR (.string (tx l)) (.string (tx [128])))=some (.string (tx (l++[128]))):=lR (by simp;omega);simp only[hcv,hadd,cG,reduceIte];have hz64:aMj l.length<64:=zLA _ (by decide);have hzd:aMj l.length=(119-l.length%64)%64:=rfl;generalize hpn:aMj l.length=z at *;refine⟨λvs h'=>∃j:Nat,j≤z∧vs=[.string (tx (l++128::List.replicate j 0)),.int .u64 ((l.length*8:Nat):Int)]∧dD h h',aTn (l.length+1+z) 0,⟨0,by omega,rfl,u1⟩,?_⟩;rintro ρ h' ⟨j,hj,hvs,u⟩;simp only[iJ,iV,kW,and_true] at hvs;obtain⟨v0,v3⟩:=hvs;simp only[v0,v3,iJ,iV];unfold aGs;have hlen:(l++128::List.replicate j (0:UInt8)).length=l.length+1+j:=by simp;omega
 have rm:cV PG (binOp .rem bT (.int .i64 ((l.length+1+j:Nat):Int)) (.int .i64 64))=some (.int .i64 (((l.length+1+j)%64:Nat):Int)):=by
  rw[aHn (by decide)];exact congrArg some (congrArg _ (Int.ofNat_tmod _ 64).symm)
 simp only[bR.len,iB,hlen,rm,kK,cG,reduceIte];by_cases hjz:j<z
 ·have g:((((l.length+1+j)%64:Nat):Int) !=56)=true:=by rw[bne_iff_ne];omega
  simp only[g,aLw,cG,reduceIte];intro r2 hr2;refine fL ?_
  try rw[cZ]
  have u2:dD h' (h'.set r2 (.cells #[.int .u8 0] dQ)):=cU.new hr2;have S2:fR (h'.set r2 (.cells #[.int .u8 0] dQ)) 1 (.slice (some ⟨r2,0,none⟩) 1 1) ([(0:UInt8)].map jI):=(eD.lit (jI.rows [0]) dM (by simp) (by decide) (by rfl)).slR;generalize h'.set r2 (.cells #[.int .u8 0] dQ)=h2 at *;have hcv2:cE PG h2 (convert dC bR (.slice (some ⟨r2,0,none⟩) 1 1))=some (.string (tx [0])):=aEt dC.und dQ.und bR.und S2;have hadd2:cV PG (binOp .add bR (.string (tx (l++128::List.replicate j 0))) (.string (tx [0])))=some (.string (tx (l++128::List.replicate (j+1) 0))):=by
   rw[lR (by rw[hlen];simp;omega)];congr 3;rw[List.replicate_succ',mR];rfl
  simp only[hcv2,hadd2,cG,reduceIte];refine⟨⟨j+1,by omega,rfl,u.trans u2⟩,?_⟩;have hlen2:(l++128::List.replicate (j+1) (0:UInt8)).length=l.length+1+(j+1):=by simp;omega
  simp only[aTn,pR,iB,hlen,hlen2];omega
 ·obtain rfl:j=z:=by omega
  have g:((((l.length+1+j)%64:Nat):Int) !=56)=false:=by rw[bne_eq_false_iff_eq];omega
  obtain⟨zs',hm,hzz⟩:=aEK (P:=PG) (n:=8) dC.und dQ.info dQ.size dQ.bytes dQ.zero rfl (by decide) (by omega) (by omega);simp only[show((8:Nat):Int)=8 from rfl] at hm;simp only[g,hm,cG,reduceIte];intro r2 hr2;refine fL ?_
  try rw[cZ]
  have u2:dD h' (h'.set r2 (.cells zs' dQ (0,0))):=cU.new hr2;have O2:eD (h'.set r2 (.cells zs' dQ (0,0))) dQ 1 (.slice (some ⟨r2,0,none⟩) 8 8) ((List.replicate (8-0) 0++(be (l.length*8) 8).drop (8-0)).map jI) [r2]:=
   eD.lit (n:=8) (jI.rows _) dM (by simp[iD]) (by decide) (by
    rw[hzz,aLt (by simp[iD])];rfl)
  generalize h'.set r2 (.cells zs' dQ (0,0))=h2 at *;have fr:dZ h [r2]:=dZ.one (u.none hr2);have e2:=u.trans u2;generalize hm8:l.length*8=m at *;refine⟨λvs h3=>∃i:Nat,i≤8∧vs=[.string (tx (l++128::List.replicate j 0)),.int .u64 ((m/256^i:Nat):Int),.slice (some ⟨r2,0,none⟩) 8 8,.int .i64 (7-(i:Int))]∧eD h3 dQ 1 (.slice (some ⟨r2,0,none⟩) 8 8) ((List.replicate (8-i) 0++(be m 8).drop (8-i)).map jI) [r2]∧dD h h3,aN5 3,⟨0,by omega,by simp,O2,e2⟩,?_⟩;rintro ρ2 h3 ⟨i,hi,hvs,O3,u3⟩;simp only[iJ,iV,kW,and_true] at hvs;obtain⟨w0,w3,w4,w5⟩:=hvs;simp only[w0,w3,w4,w5,iJ,iV];unfold aGX;by_cases hi8:i<8
  ·have g1:((0:Int)≤7-(i:Int))=True:=eq_true (by omega);have g2:7-(i:Int)=((7-i:Nat):Int):=by omega
   have g3:IntKind.i64.wrap (7-(i:Int)-1)=7-((i+1:Nat):Int):=by rw[eX (by omega) (by omega)];omega
   have hle:m/256^i≤m:=Nat.div_le_self _ _;have r1:cV PG (binOp .rem cA (.int .u64 ((m/256^i:Nat):Int)) (.int .u64 256))=some (.int .u64 ((m/256^i%256:Nat):Int)):=by
    rw[aHn (by decide)];exact congrArg some (congrArg _ (Int.ofNat_tmod _ 256).symm)
   have r2':IntKind.u8.wrap ((m/256^i%256:Nat):Int)=((UInt8.ofNat (m/256^i%256)).toNat:Int):=by rw[aIX];simp
   have r3:cV PG (binOp .quo cA (.int .u64 ((m/256^i:Nat):Int)) (.int .u64 256))=some (.int .u64 ((m/256^(i+1):Nat):Int)):=by
    rw[aLQ (by decide)];have:Int.tdiv ((m/256^i:Nat):Int) 256=((m/256^i/256:Nat):Int):=rfl;have hd2:m/256^i/256=m/256^(i+1):=by rw[Nat.div_div_eq_div_mul,zLQ]
    rw[this,hd2,gJ (Int.natCast_nonneg _) (by have:=Nat.div_le_self m (256^(i+1));omega)]
   obtain⟨a,q1,q2⟩:=O3.storeCell (t:=dC) (k:=.i64) (j:=7-i) dC.und dQ.info dQ.size dQ.und rfl (by simp[iD];omega) (x:=.int .u8 ((UInt8.ofNat (m/256^i%256)).toNat:Int)) rfl;rw[←g2] at q1;simp only[g1,r1,aS9,r2',q1,cG,reduceIte];refine q2 _ λh4 O4 u4=>?_;have hp:=aXk (m:=m) hi8 _ rfl;simp only[jI] at hp O4;rw[hp] at O4;simp only[r3,g3,cG,reduceIte];refine⟨⟨i+1,by omega,rfl,O4,u3.fresh u4 fr⟩,?_⟩;simp only[aN5,rY,pR];omega
  ·obtain rfl:i=8:=by omega
   have g1:((0:Int)≤7-((8:Nat):Int))=False:=eq_false (by omega);have O3':eD h3 dQ 1 (.slice (some ⟨r2,0,none⟩) 8 8) ((be m 8).map jI) [r2]:=O3;have hcv3:cE PG h3 (convert dC bR (.slice (some ⟨r2,0,none⟩) 8 8))=some (.string (tx (be m 8))):=aEt dC.und dQ.und bR.und O3'.slR;have hadd3:cV PG (binOp .add bR (.string (tx (l++128::List.replicate j 0))) (.string (tx (be m 8))))=some (.string (tx ((l++128::List.replicate j 0)++be m 8))):=lR (by rw[hlen,iD];omega);simp only[g1,hcv3,hadd3,cG,reduceIte];have hfin:=hk h3 u3;rw[aNz,hpn,hm8,aCZ (by omega)] at hfin;rw[mR];exact hfin
structure vA(h:PH)(b m:Nat)(A:List Tx)(c:Bool)(K:List Nat):Prop where
 here:∃(kv hv:Value) (l:List (Tx×Tx)),h b=some (.cells #[kv,hv,.map (some m),.bool c] fT (0,0))∧WSl h kv kT∧WSl h hv S0.l∧aDF kv K∧aDF hv K∧jZ sB h m (l.map λp=>(p.1,sB p.2))∧(c=false->∀a∈A,(l.find? λp=>decide (oQ a=p.1)).map (·.2)=some a)
 ne:b≠m
 out:∀x∈K,x≠b∧x≠m∧h x≠none
theorem vA.upd{h h':PH}{b m:Nat}{A:List Tx}{c:Bool}{K G:List Nat}(H:vA h b m A c K)(u:cU G h h')(hd:∀x∈b::m::K,x∉G):vA h' b m A c K:=by
 obtain⟨kv,hv,l,h1,h2,h3,h4,h5,h6,h7⟩:=H.here;refine⟨⟨kv,hv,l,u.get h1 (hd _ (by simp)),fR.upd h2 u λa n c' e=>hd _ (by simp[h4 a n c' e]),fR.upd h3 u λa n c' e=>hd _ (by simp[h5 a n c' e]),h4,h5,jZ.upd h6 u (hd _ (by simp)),h7⟩,H.ne,λx hx=>⟨(H.out x hx).1,(H.out x hx).2.1,?_⟩⟩;obtain⟨o,ho⟩:=aHC.1 (H.out x hx).2.2;rw[u.get ho (hd x (by simp[hx]))];simp
theorem vA.ext{h h':PH}{b m:Nat}{A:List Tx}{c:Bool}{K:List Nat}(H:vA h b m A c K)(u:dD h h'):vA h' b m A c K:=H.upd u (by simp)
theorem vA.known{h:PH}{b m:Nat}{A:List Tx}{c:Bool}{K:List Nat}(H:vA h b m A c K):∀x∈b::m::K,h x≠none:=by
 obtain⟨kv,hv,l,h1,h2,h3,h4,h5,h6,h7⟩:=H.here;intro x hx;simp only[gL] at hx;rcases hx with rfl|rfl|hx
 ·rw[h1];simp
 ·exact jZ.known h6
 ·exact(H.out x hx).2.2
def aG9(A:List Tx):Prop:=∀a∈A,∀b∈A,oQ a=oQ b->a=b
theorem vA.uniq{h:PH}{b m:Nat}{A:List Tx}{K:List Nat}(H:vA h b m A false K):aG9 A:=by
 obtain⟨kv,hv,l,h1,h2,h3,h4,h5,h6,h7⟩:=H.here;intro x hx y hy e;have a:=h7 rfl x hx;rw[e,h7 rfl y hy] at a;exact(aJn a).symm
theorem vA.sub{h:PH}{b m:Nat}{A B:List Tx}{c:Bool}{K:List Nat}(H:vA h b m A c K)(hs:∀a∈B,a∈A):vA h b m B c K:=by
 obtain⟨kv,hv,l,h1,h2,h3,h4,h5,h6,h7⟩:=H.here;exact⟨⟨kv,hv,l,h1,h2,h3,h4,h5,h6,λhc a ha=>h7 hc a (hs a ha)⟩,H.ne,H.out⟩
theorem aSC(s:S8):qC s []=(s,[]):=aHu (by decide)
theorem aTK{h:PH}{b m:Nat}{A:List Tx}{c:Bool}{K:List Nat}(H:vA h b m A c K){s:Tx}(hs:s.length≤100000000){k:cD}(hk:∀h',dD h h'->k (.string (tx (oQ s))) h'):
  aT PG xQ #[pT b 0,.string (tx s)] h k:=by
 apply nP.call;unfold nP;obtain⟨kv,hv,l,h1,h2,h3,-⟩:=H.here;refine aXn (by omega) λh4 u4=>?_;have hb:=u4.get h1;have icv:eP hv=true:=by obtain⟨_,_,e,_⟩:=h3.here;rw[e];rfl
 have c1:dF h4 ⟨b,0+1,none⟩=some hv:=by simp[dF,hb]
 simp only[fT.f1,eQ.load,c1,cG,reduceIte];have hP:∃n,(s++aI2 s.length).length=64*n:=by
  have hz:aMj s.length=(119-s.length%64)%64:=rfl;refine⟨(s.length+9+aMj s.length)/64,?_⟩;rw[aNz];simp only[jR,uW,aKD,iD];omega
 have hshow:aIT (qC S0 (s++aI2 s.length)).1=oQ s:=rfl;have hplen:(s++aI2 s.length).length≤100000200:=by
  have hz:aMj s.length<64:=zLA _ (by decide);rw[aNz];simp only[jR,uW,aKD,iD];omega
 generalize s++aI2 s.length=p at *;obtain⟨n,hn⟩:=hP;refine⟨λvs h'=>∃(i:Nat) (v:Value) (t:S8),i≤n∧vs=[pT b 0,.string (tx p),v,.int .i64 ((64*i:Nat):Int)]∧WSl h' v t.l∧qC t (p.drop (64*i))=qC S0 p∧dD h h',gY (64*n) 3,⟨0,hv,S0,by omega,rfl,h3.ext u4,by simp,u4⟩,?_⟩;rintro ρ h' ⟨i,v,t,hi,hvs,St,hab,u⟩;simp only[iJ,iV,kW,and_true] at hvs;obtain⟨v0,v5,v6,v7⟩:=hvs;simp only[v0,v5,v6,v7,iJ,iV];unfold aCn;have hb':=u.get h1;by_cases hin:i<n
 ·have g1:(((64*i:Nat):Int)<(p.length:Int))=True:=eq_true (by omega);have g2:IntKind.i64.wrap (((64*i:Nat):Int)+64)=((64*(i+1):Nat):Int):=by rw[eX (by omega) (by omega)];omega
  have c0:dF h' ⟨b,0,none⟩=some kv:=by simp[dF,hb']
  have ec:cV PG (Instr.sliceAt bR (.string (tx p)) (some (.int .i64 ((64*i:Nat):Int))) (some (.int .i64 ((64*(i+1):Nat):Int))) none)=some (.string (tx ((p.take (64*(i+1))).drop (64*i)))):=
   aHv bR.und (.inr ⟨_,rfl⟩) (.inr ⟨_,rfl⟩) (by omega) (by omega)
  simp only[bR.len,iB,g1,g2,ec,fT.f0,eQ.load,c0,cG,reduceIte];refine aUa (by rw[xD,uX];omega) (h2.ext u) St λh5 w S5 u5=>?_;refine⟨⟨i+1,w,_,by omega,rfl,S5,?_,u.trans u5⟩,?_⟩
  ·rw[←hab]
   conv=>rhs;rw[aHp (by rw[xD];omega)]
   rw[aIn,zLx];congr 2
   ·congr 2;omega
  ·simp only[gY,rY,pR];omega
 ·obtain rfl:i=n:=by omega
  have g1:(((64*i:Nat):Int)<(p.length:Int))=False:=eq_false (by omega);simp only[bR.len,iB,g1,cG,reduceIte];rw[aLt (by omega),aSC] at hab;rw[←hshow,←hab] at hk;refine⟨λvs h2=>∃(j:Nat) (z:Value) (F:List Nat),j≤8∧vs=[v,z,.int .i64 (j:Int)]∧eD h2 dQ 1 z (((t.l.take j).flatMap wb).map jI) F∧dZ h' F∧dD h' h2,gY 8 2,⟨0,_,[],by omega,rfl,eD.nil,(λb hb=>by cases hb),cU.refl⟩,?_⟩;rintro ρ2 h2' ⟨j,z,F,hj,hvs,O,fF,u2⟩;simp only[iJ,iV,kW,and_true] at hvs;obtain⟨w6,w8',w9⟩:=hvs;simp only[w6,w8',w9,iJ,iV];unfold aCI;by_cases hj8:j<8
  ·have e1:((j:Int)<8)=True:=eq_true (by omega);have e2:=qG (i:=j) (by omega);obtain⟨a1,p1,c1⟩:=aEM (St.ext u2) (t.l_get hj8);have s24':cV PG (binOp .shr cL (wv (t.l.getD j 0)) (.int .u64 24))=_:=aJZ (n:=24) (by decide);have s16':cV PG (binOp .shr cL (wv (t.l.getD j 0)) (.int .u64 16))=_:=aJZ (n:=16) (by decide);have s8':cV PG (binOp .shr cL (wv (t.l.getD j 0)) (.int .u64 8))=_:=aJZ (n:=8) (by decide);have b4:∀(a b c d:UInt8),jM PG (buildSlice dC 4 #[(0,.int .u8 (a.toNat:Int)),(1,.int .u8 (b.toNat:Int)),(2,.int .u8 (c.toNat:Int)),(3,.int .u8 (d.toNat:Int))])=some (.cells #[.int .u8 (a.toNat:Int),.int .u8 (b.toNat:Int),.int .u8 (c.toNat:Int),.int .u8 (d.toNat:Int)] dQ,λr=>pure (.slice (some ⟨r,0,none⟩) 4 4)):=λa b c d=>by kernel_rfl
   simp only[e1,p1,c1,s24',s16',s8',aTe,b4,cG,reduceIte];intro r hr;refine fL ?_
   try rw[cZ]
   have hdt:=aPz t hj8;generalize hx:t.l.getD j 0=x at *;have u3:dD h2' (h2'.set r (.cells #[.int .u8 ((UInt8.ofNat (x>>>24).toNat).toNat:Int),.int .u8 ((UInt8.ofNat (x>>>16).toNat).toNat:Int),.int .u8 ((UInt8.ofNat (x>>>8).toNat).toNat:Int),.int .u8 ((UInt8.ofNat x.toNat).toNat:Int)] dQ)):=cU.new hr;have S3:fR (h2'.set r (.cells #[.int .u8 ((UInt8.ofNat (x>>>24).toNat).toNat:Int),.int .u8 ((UInt8.ofNat (x>>>16).toNat).toNat:Int),.int .u8 ((UInt8.ofNat (x>>>8).toNat).toNat:Int),.int .u8 ((UInt8.ofNat x.toNat).toNat:Int)] dQ)) 1 (.slice (some ⟨r,0,none⟩) 4 4) ((wb x).map jI):=(eD.lit (n:=4) (jI.rows (wb x)) dM (by rfl) (by decide) rfl).slR;generalize h2'.set r (.cells #[.int .u8 ((UInt8.ofNat (x>>>24).toNat).toNat:Int),.int .u8 ((UInt8.ofNat (x>>>16).toNat).toNat:Int),.int .u8 ((UInt8.ofNat (x>>>8).toNat).toNat:Int),.int .u8 ((UInt8.ofNat x.toNat).toNat:Int)] dQ)=h3' at *;refine jF dC.und dC.und dQ.info dQ.size dQ.bytes dQ.zero rfl (by decide) (O.ext u3) S3 (jI.isCell _) (by
    have:=aRf t (show j≤8 by omega);simp only[iU,aSr];omega) ?_
   intro z' h4' F' O4 u4' k4 _;rw[←qX,←hdt] at O4;have e3:=u2.trans u3;simp only[e2,cG,reduceIte];refine⟨⟨j+1,z',F',by omega,rfl,O4,fF.grow e3 k4,e3.fresh u4' fF⟩,?_⟩;simp only[gY,rY,pR];omega
  ·obtain rfl:j=8:=by omega
   have hfull:(t.l.take 8).flatMap wb=aIT t:=rfl;rw[hfull] at O;have hcv:cE PG h2' (convert dC bR z)=some (.string (tx (aIT t))):=aEt dC.und dQ.und bR.und O.slR;simp only[show(((8:Nat):Int)<8)=False from eq_false (by decide),hcv,cG,reduceIte];exact hk _ (u.trans u2)
theorem aVK(a b:Option Addr)(n c n' c' m:Nat):cV PG (build fT #[(0,.slice a n c),(1,.slice b n' c'),(2,.map (some m))])=some (.agg #[.slice a n c,.slice b n' c',.map (some m),.bool false]):=by kernel_rfl
theorem aWT{h:PH}{k:cD}(hk:∀h' b m K,vA h' b m [] false K->dZ h (b::m::K)->dD h h'->k (pT b 0) h'):aT PG aDt #[] h k:=by
 apply aC3.call;unfold aC3;refine aPi λh1 v w F G OF OG fF fG u1=>?_;simp only[aGW,cG,reduceIte];intro m hm;refine fL ?_
 try rw[cZ]
 have u2:dD h1 (h1.set m (.map #[] 0)):=cU.new hm;have M2:jZ sB (h1.set m (.map #[] 0)) m []:=jZ.new;generalize h1.set m (.map #[] 0)=h2 at *;obtain⟨av,cv,ev,-⟩:=OF.slR.here;obtain⟨aw,cw,ew,-⟩:=OG.slR.here;have hb:cV PG (build fT #[(0,v),(1,w),(2,.map (some m))])=some (.agg #[v,w,.map (some m),.bool false]):=by rw[ev,ew];exact aVK ..
 simp only[hb,cG,reduceIte];intro b hbn
 try rw[cZ]
 have ec:Value.cells (.agg #[v,w,.map (some m),.bool false])= #[v,w,.map (some m),.bool false]:=rfl;rw[ec];have u3:dD h2 (h2.set b (.cells #[v,w,.map (some m),.bool false] fT)):=cU.new hbn;have a3:(h2.set b (.cells #[v,w,.map (some m),.bool false] fT)) b=some (.cells #[v,w,.map (some m),.bool false] fT (0,0)):=dM;generalize h2.set b (.cells #[v,w,.map (some m),.bool false] fT)=h3 at *;have e12:=u1.trans u2;have hmb:b≠m:=λe=>by subst e;exact M2.known hbn
 have hb1:h1 b=none:=u2.none hbn;refine hk h3 b m (F++G) ⟨⟨v,w,[],a3,((OF.ext u2).ext u3).slR,((OG.ext u2).ext u3).slR,λa n c e=>by simp[aF1 OF a n c e],λa n c e=>by simp[aF1 OG a n c e],M2.ext u3,λ_ a ha=>by cases ha⟩,hmb,λx hx=>?_⟩ (λx hx=>?_) (e12.trans u3)
 ·have hk1:h1 x≠none:=by
   rcases jG.1 hx with hx|hx
   ·exact OF.known x hx
   ·exact OG.known x hx
  refine⟨λe=>hk1 (by rw[e];exact hb1),λe=>hk1 (by rw[e];exact hm),λe=>hk1 ((u2.trans u3).none e)⟩
 ·simp only[gL,jG] at hx;rcases hx with rfl|rfl|hx|hx
  ·exact e12.none hbn
  ·exact u1.none hm
  ·exact fF x hx
  ·exact fG x hx
theorem aKW{h:PH}{b m:Nat}{A:List Tx}{c:Bool}{K:List Nat}(H:vA h b m A c K){s:Tx}(hs:s.length≤100000000){k:cD}
  (hk:∀h' c',vA h' b m (s::A) c' K->(c=true->c'=true)->cU [b,m] h h'->k (.string (tx (oQ s))) h'):aT PG kA #[pT b 0,.string (tx s)] h k:=by
 apply yI.call;unfold yI;refine aTK H hs λh1 u1=>?_;have H1:=H.ext u1;obtain⟨kv,hv,l,h1b,h2,h3,h4,h5,h6,h7⟩:=H1.here;have c2:dF h1 ⟨b,0+2,none⟩=some (.map (some m)):=by simp[dF,h1b]
 have c3:dF h1 ⟨b,0+3,none⟩=some (.bool c):=by simp[dF,h1b]
 have hlook:cE PG h1 (Instr.lookup dV (.map (some m)) (.string (tx (oQ s))) true)=some (.tuple #[.string (tx (((l.find? λp=>decide (oQ s=p.1)).map (·.2)).getD [])),.bool ((l.find? λp=>decide (oQ s=p.1)).map (·.2)).isSome]):=by
  have:=aIE aIb dV.und bR.info bR.zero h6 (oQ s) true;have e:aCW (l.map λp=>(p.1,sB p.2)) (oQ s)=((l.find? λp=>decide (oQ s=p.1)).map (·.2)).map sB:=by
   unfold aCW;rw[List.find?_map,Option.map_map,Option.map_map];rfl
  rw[e] at this;rw[show(.string (tx (oQ s)):Value)=sB (oQ s) from rfl,this];cases (l.find? λp=>decide (oQ s=p.1)).map (·.2)<;>rfl
 generalize hw:(l.find? λp=>decide (oQ s=p.1)).map (·.2)=was at *;have fin:∀c':Bool,(c=true->c'=true)->(c'=false->c=false∧∀x,was=some x->x=s)->cY PG (dJ fZ (pT b (0+3)) (.bool c')) h1 λv35 h36=>
   dY (dF h36 ⟨b,0+2,none⟩) λv39=>
   cY PG (aHA dV v39 (.string (tx (oQ s))) (.string (tx s))) h36 λv40 h41=>k (.string (tx (oQ s))) h41:=by
  intro c' hc1 hc2;refine iT fZ.und rfl h1b (by simp) rfl fZ.info fZ.size ?_;have es:(#[kv,hv,Value.map (some m),Value.bool c]:Array Value).setIfInBounds (0+3) (.bool c')= #[kv,hv,.map (some m),.bool c']:=rfl;rw[es];have u2:cU [b] h1 (h1.set b (.cells #[kv,hv,.map (some m),.bool c'] fT (0,0))):=cU.set (by simp);have b2:(h1.set b (.cells #[kv,hv,.map (some m),.bool c'] fT (0,0))) b=some (.cells #[kv,hv,.map (some m),.bool c'] fT (0,0)):=dM;generalize h1.set b (.cells #[kv,hv,.map (some m),.bool c'] fT (0,0))=h2' at *;have c2':dF h2' ⟨b,0+2,none⟩=some (.map (some m)):=by simp[dF,b2]
  simp only[c2',cG,reduceIte];have M2:=h6.upd u2 (by simpa using H.ne.symm);refine aL7 aIb dV.und M2 (oQ s) (.string (tx s)) λh3' M3 u3=>?_;have hne:=H.ne;have hu1:cU [b,m] h1 h3':=by
   have t1:cU [b,m] h1 h2':=u2.mono λx hx=>.inl (by simp only[fU] at hx;simp[hx]);have t2:cU [b,m] h2' h3':=u3.mono λx hx=>.inl (by simp only[fU] at hx;simp[hx]);exact t1.trans t2
  have hu:cU [b,m] h h3':=u1.upd.trans hu1;have hK:∀x∈K,x∉[b,m]:=λx hx hm=>by
   have:=H1.out x hx;simp only[gL,kJ,or_false] at hm;rcases hm with e|e
   ·exact this.1 e
   ·exact this.2.1 e
  obtain⟨l',e1,e2⟩:∃l':List (Tx×Tx),aEZ (l.map λp=>(p.1,sB p.2)) (oQ s) (.string (tx s))=l'.map (λp=>(p.1,sB p.2))∧∀d,(l'.find? λp=>decide (d=p.1)).map (·.2)=if d=oQ s then some s else(l.find? λp=>decide (d=p.1)).map (·.2):=by
   have hgen:∃l':List (Tx×Tx),aEZ (l.map λp=>(p.1,sB p.2)) (oQ s) (.string (tx s))=l'.map (λp=>(p.1,sB p.2)):=by
    unfold aEZ;split
    ·refine⟨l.map λp=>if p.1=oQ s then(oQ s,s) else p,?_⟩;rw[zL2,zL2];apply zL3;intro p _;show(if p.1=oQ s then(oQ s,Value.string (tx s)) else(p.1,sB p.2))=(λp:Tx×Tx=>(p.1,sB p.2)) (if p.1=oQ s then(oQ s,s) else p);split<;>rfl
    ·exact⟨l++[(oQ s,s)],by rw[qX];rfl⟩
   obtain⟨l',e⟩:=hgen;refine⟨l',e,λd=>?_⟩;have hg:=aUm (l.map λp=>(p.1,sB p.2)) (oQ s) d (.string (tx s));rw[e] at hg;have eg:∀L:List (Tx×Tx),aCW (L.map λp=>(p.1,sB p.2)) d=((L.find? λp=>decide (d=p.1)).map (·.2)).map sB:=λL=>by
    unfold aCW;rw[List.find?_map,Option.map_map,Option.map_map];rfl
   rw[eg,eg] at hg;have hinj:∀{x y:Option Tx},x.map sB=y.map sB->x=y:=fun {x y} hxy=>by
    cases x<;>cases y<;>simp[sB] at hxy ⊢;exact aLq hxy
   apply hinj;rw[hg];split<;>rfl
  rw[e1] at M3;refine hk h3' c' ⟨⟨kv,hv,l',u3.get b2 (by simpa using hne),h2.upd hu1 (λa n c e=>hK _ (h4 a n c e)),h3.upd hu1 (λa n c e=>hK _ (h5 a n c e)),h4,h5,M3,λhcf a ha=>?_⟩,hne,λx hx=>?_⟩ hc1 hu
  ·obtain⟨hcc,hws⟩:=hc2 hcf;rw[e2];rcases gL.1 ha with rfl|ha
   ·rw[if_pos rfl]
   ·have hold:=h7 hcc a ha;by_cases hd:oQ a=oQ s
    ·rw[if_pos hd];rw[hd,hw] at hold;rw[hws a hold]
    ·rw[if_neg hd];exact hold
  ·have:=H1.out x hx;refine⟨this.1,this.2.1,?_⟩;obtain⟨o,ho⟩:=aHC.1 this.2.2;rw[hu1.get ho (hK x hx)];simp
 have yU:yV undef=none:=rfl;have gN:∀{X:(Value->PH->Prop)->Prop} {h:PH} {kv:cD} {w:Bool},nO none w X h kv=kv undef h:=fun {X h kv w}=>by simp[nO]
 simp only[fT.f2,fT.f3,dV.load,fZ.load,c2,c3,hlook,cG,reduceIte];cases c with
 | true=>
  simp only[yU,gN,cG,reduceIte];exact fin true (λ_=>rfl) (λh=>by cases h)
 | false=>
  cases was with
  | none=>
   simp only[zLu,yU,gN,cG,reduceIte];exact fin false (λh=>h) (λ_=>⟨rfl,λx hx=>by cases hx⟩)
  | some x=>
   simp only[aMe,aH8,yU,gN,aDS,cG,reduceIte];refine fin (!decide (x=s)) (λh=>by cases h) λhf=>⟨rfl,λy hy=>?_⟩;obtain rfl:=aJn hy;simpa using hf
def aAo(p:Pr):Tx:=0::UInt8.ofNat (p.k.length%256)::(p.k++UInt8.ofNat (p.v.length%256)::p.v)
def rW(l r:Tx):Tx:=1::(l++r)
def aHF(n:Nat)(d:Tx):Tx:=2::(be n 8++d)
theorem aMx(l r:Tx):aAq l r=oQ (rW l r):=rfl
def aAQ(l:List Pr):List Tx:=if h:2≤l.length then rW (lV (l.take (dU l.length))) (lV (l.drop (dU l.length)))::(aAQ (l.drop (dU l.length))++aAQ (l.take (dU l.length))) else [aAo (l.headD ⟨[],[]⟩)]
termination_by l.length
decreasing_by
 ·have:=lK h;simp;omega
 ·have:=lK h;simp;omega
def rU(l:List Pr):List Tx:=aHF l.length (if l=[] then [] else lV l)::(if l=[] then [] else aAQ l)
theorem tx0:({data:=#[0]}:ByteArray)=tx [0]:=rfl
theorem tx1:({data:=#[1]}:ByteArray)=tx [1]:=rfl
theorem tx2:({data:=#[2]}:ByteArray)=tx [2]:=rfl
theorem be1(n:Nat):be n 1=[UInt8.ofNat (n%256)]:=rfl
theorem aP1{h:PH}{b m:Nat}{A:List Tx}{c:Bool}{K:List Nat}(H:vA h b m A c K){p:Pr}(hl:p.k.length+p.v.length≤10000000){k:cD}
  (hk:∀h' c',vA h' b m (aAo p::A) c' K->(c=true->c'=true)->cU [b,m] h h'->k (.string (tx (aFX p))) h'):aT PG uC #[pT b 0,p.val] h k:=by
 apply uN.call;unfold uN;rw[aMB];intro r hr
 try rw[cZ]
 have u1:dD h (h.set r (.cells #[.string (tx p.k),.string (tx p.v)] cM)):=cU.new hr;have a1:(h.set r (.cells #[.string (tx p.k),.string (tx p.v)] cM)) r=some (.cells #[.string (tx p.k),.string (tx p.v)] cM (0,0)):=dM;generalize h.set r (.cells #[.string (tx p.k),.string (tx p.v)] cM)=h1 at *;have c0:dF h1 ⟨r,0,none⟩=some (.string (tx p.k)):=by simp[dF,a1]
 have c1:dF h1 ⟨r,0+1,none⟩=some (.string (tx p.v)):=by simp[dF,a1]
 have w1:IntKind.u64.wrap (p.k.length:Int)=(p.k.length:Int):=gJ (by omega) (by omega);have w2:IntKind.u64.wrap (p.v.length:Int)=(p.v.length:Int):=gJ (by omega) (by omega);simp only[cM.f0,cM.f1,bR.load,c0,c1,bR.len,iB,aA7,w1,w2,cG,reduceIte];refine sY (n:=p.k.length) (c:=1) (by omega) (by decide) λh2 u2=>?_;have a2:=u2.get a1;have c0':dF h2 ⟨r,0,none⟩=some (.string (tx p.k)):=by simp[dF,a2]
 have c1':dF h2 ⟨r,0+1,none⟩=some (.string (tx p.v)):=by simp[dF,a2]
 have s1:cV PG (binOp .add bR (.string (tx [0])) (.string (tx (be p.k.length 1))))=some (.string (tx ([0]++be p.k.length 1))):=lR (by rw[iD];decide);have s2:cV PG (binOp .add bR (.string (tx ([0]++be p.k.length 1))) (.string (tx p.k)))=some (.string (tx (([0]++be p.k.length 1)++p.k))):=lR (by simp[iD];omega);simp only[bR.load,c0',c1',true_and,tx0,s1,s2,cG,reduceIte];refine sY (n:=p.v.length) (c:=1) (by omega) (by decide) λh3 u3=>?_;have a3:=u3.get a2;have c0'':dF h3 ⟨r,0,none⟩=some (.string (tx p.k)):=by simp[dF,a3]
 have c1'':dF h3 ⟨r,0+1,none⟩=some (.string (tx p.v)):=by simp[dF,a3]
 have s3:cV PG (binOp .add bR (.string (tx (([0]++be p.k.length 1)++p.k))) (.string (tx (be p.v.length 1))))=some (.string (tx ((([0]++be p.k.length 1)++p.k)++be p.v.length 1))):=lR (by simp[iD];omega);have s4:cV PG (binOp .add bR (.string (tx ((([0]++be p.k.length 1)++p.k)++be p.v.length 1))) (.string (tx p.v)))=some (.string (tx (aAo p))):=by
  rw[lR (by simp[iD];omega)];congr 3;simp[aAo,be1]
 have s1':=s1;simp only[bR.load,c0'',c1'',true_and,s3,s4,cG,reduceIte];have u:=(u1.trans u2).trans u3;refine aKW (H.ext u) (by simp[aAo];omega) λh' c' H' hc u'=>?_;exact hk h' c' H' hc (u.upd.trans u')
theorem aUV{n j:Nat}(h2:2≤n)(h1:2^j<n)(h3:¬2^j*2<n):dU n=2^j:=by
 unfold dU;congr 1;refine(Nat.log2_eq_iff (by omega)).2 ⟨by omega,?_⟩;rw[zLQ];omega
theorem aJF{h:PH}{n:Nat}(h2:2≤n)(hn:n≤65536){k:cD}(hk:k (.int .i64 ((dU n:Nat):Int)) h):aT PG qL #[.int .i64 (n:Int)] h k:=by
 apply aB2.call;unfold aB2;refine⟨λvs h'=>∃j:Nat,2^j<n∧vs=[.int .i64 (n:Int),.int .i64 ((2^j:Nat):Int)]∧h'=h,gY n 1,⟨0,by omega,rfl,rfl⟩,?_⟩;rintro ρ h' ⟨j,hj,hvs,rfl⟩;simp only[iJ,iV,kW,and_true] at hvs;obtain⟨v0,v3⟩:=hvs;simp only[v0,v3,iJ,iV];unfold aGi;have hp:0<2^j:=Nat.pow_pos (by decide);have e1:IntKind.i64.wrap (((2^j:Nat):Int)*2)=((2^(j+1):Nat):Int):=by rw[eX (by omega) (by omega),zLQ];omega
 by_cases hl:2^(j+1)<n
 ·have g1:(((2^(j+1):Nat):Int)<(n:Int))=True:=eq_true (by omega);simp only[e1,g1,cG,reduceIte];refine⟨⟨j+1,hl,rfl,by trivial⟩,?_⟩;simp only[gY,rY,pR];rw[zLQ];rw[zLQ] at hl;omega
 ·have g1:(((2^(j+1):Nat):Int)<(n:Int))=False:=eq_false (by omega);simp only[e1,g1,cG,reduceIte];rw[aUV h2 hj (by rw[zLQ] at hl;exact hl)] at hk;exact hk
theorem aIK:∀(n:Nat) {h:PH} {v:Value} {l:List Pr} {b m:Nat} {A:List Tx} {c:Bool} {K:List Nat},l.length≤n->l≠[]->l.length≤65536->vA h b m A c K->fR h 2 v (l.map Pr.cells)->(∀a n c,v= .slice (some a) n c->a.block∉[b,m])->aAN l->∀{k:cD},
  (∀h' c',vA h' b m (aAQ l++A) c' K->(c=true->c'=true)->cU [b,m] h h'->k (.string (tx (lV l))) h')->aT PG lY #[pT b 0,v] h k
 | 0,_,_,l,_,_,_,_,_,h0,hne,_,_,_,_,_,_,_=>by
  have:l=[]:=zLN (by omega);exact absurd this hne
 | n+1,h,v,l,b,m,A,c,K,hn,hne,hl,H,S,hv,hs,k,hk=>by
  apply rJ.call;unfold rJ;have lv:=S.len (t':=bT) cJ.und;rw[iU] at lv;have hpos:0<l.length:=aG2.2 hne;by_cases h1:l.length=1
  ·have e1:((l.length:Int)==1)=true:=by simp[h1]
   obtain⟨p,hp⟩:=List.length_eq_one_iff.1 h1;obtain⟨x,o,e2,-,-,e3⟩:=S.pair (j:=0) (p:=p) (by rw[hp];rfl);rw[show((0:Nat):Int)=0 from rfl] at e2;simp only[lv,e1,e2,e3,cG,reduceIte];have hd:lV l=aFX p:=by rw[lV,dif_neg (by omega),hp];rfl
   have ha:aAQ l=[aAo p]:=by rw[aAQ,dif_neg (by omega),hp];rfl
   rw[hd,ha] at hk;refine aP1 H (by have:=hs p (by rw[hp];simp);omega) λh' c' H' hc u=>hk h' c' H' hc u
  ·have e1:((l.length:Int)==1)=false:=by simp;omega
   have h2:2≤l.length:=by omega
   simp only[lv,e1,cG,reduceIte];refine aJF h2 hl ?_;have hlt:=lK h2;obtain⟨v1,s1,t1,x1⟩:=S.cut (lo:=none) (hi:=some (.int .i64 ((dU l.length:Nat):Int))) (l:=0) (m:=dU l.length) cJ.und cM.info cM.size (.inl ⟨rfl,rfl⟩) (.inr ⟨_,rfl⟩) (by omega) (by simp;omega);obtain⟨v2,s2,t2,x2⟩:=S.cut (lo:=some (.int .i64 ((dU l.length:Nat):Int))) (hi:=none) (l:=dU l.length) (m:=l.length) cJ.und cM.info cM.size (.inr ⟨_,rfl⟩) (.inl ⟨rfl,by simp⟩) (by omega) (by simp);rw[zLb,←aH0] at t1;rw[←aH0,←List.map_drop,zLI] at t2;have hv1:∀a n c,v1= .slice (some a) n c->a.block∉[b,m]:=λa n c e=>by
    obtain⟨x0,n0,c0,e0,e5⟩:=x1 a n c e;rw[e5];exact hv _ _ _ e0
   have hv2:∀a n c,v2= .slice (some a) n c->a.block∉[b,m]:=λa n c e=>by
    obtain⟨x0,n0,c0,e0,e5⟩:=x2 a n c e;rw[e5];exact hv _ _ _ e0
   simp only[s1,s2,cG,reduceIte];have hd:lV l=aAq (lV (l.take (dU l.length))) (lV (l.drop (dU l.length))):=by rw[lV,dif_pos h2]
   have ha:aAQ l=rW (lV (l.take (dU l.length))) (lV (l.drop (dU l.length)))::(aAQ (l.drop (dU l.length))++aAQ (l.take (dU l.length))):=by rw[aAQ,dif_pos h2]
   rw[hd,ha] at hk;refine aIK n (by simp;omega) (aJj (by rw[uX];omega)) (by simp;omega) H t1 hv1 (λp hp=>hs p (aJf hp)) λh1 c1 H1 hc1 u1=>?_;have a1:cV PG (binOp .add bR (.string (tx [1])) (.string (tx (lV (l.take (dU l.length))))))=some (.string (tx ([1]++lV (l.take (dU l.length))))):=lR (by rw[yR];decide);simp only[tx1,a1,cG,reduceIte];refine aIK n (by simp;omega) (aJj (by rw[xD];omega)) (by simp;omega) H1 (t2.upd u1 hv2) hv2 (λp hp=>hs p (aLF hp)) λh2 c2 H2 hc2 u2=>?_;have a2:cV PG (binOp .add bR (.string (tx ([1]++lV (l.take (dU l.length))))) (.string (tx (lV (l.drop (dU l.length))))))=some (.string (tx (rW (lV (l.take (dU l.length))) (lV (l.drop (dU l.length)))))):=by
    rw[lR (by rw[jR,yR,yR];decide)];rfl
   simp only[a2,cG,reduceIte];refine aKW H2 (by simp[rW,yR]) λh3 c3 H3 hc3 u3=>?_;rw[aMx] at hk;refine hk h3 c3 ?_ (λh=>hc3 (hc2 (hc1 h))) ((u1.trans u2).trans u3);rw[zLV,mR];exact H3
theorem aOF{h:PH}{b m:Nat}{A:List Tx}{c:Bool}{K:List Nat}(H:vA h b m A c K){n:Nat}{d:Tx}(hn:n≤1000000)(hd:d.length≤1000000){k:cD}
  (hk:∀h' c',vA h' b m (aHF n d::A) c' K->(c=true->c'=true)->cU [b,m] h h'->k (.string (tx (aIf n d))) h'):aT PG rH #[pT b 0,.int .i64 (n:Int),.string (tx d)] h k:=by
 apply aCz.call;unfold aCz;have g1:((n:Int)<0)=False:=eq_false (by omega);have w1:IntKind.u64.wrap (n:Int)=(n:Int):=gJ (by omega) (by omega);simp only[g1,cG,reduceIte];unfold aDs;simp only[aA7,w1,cG,reduceIte];refine sY (n:=n) (c:=8) (by omega) (by decide) λh1 u1=>?_;have a1:cV PG (binOp .add bR (.string (tx [2])) (.string (tx (be n 8))))=some (.string (tx ([2]++be n 8))):=lR (by rw[iD];decide);have a2:cV PG (binOp .add bR (.string (tx ([2]++be n 8))) (.string (tx d)))=some (.string (tx (aHF n d))):=by
  rw[lR (by simp[iD];omega)];congr 3
 simp only[tx2,a1,a2,cG,reduceIte];refine aKW (H.ext u1) (by simp[aHF,iD];omega) λh' c' H' hc u'=>?_;exact hk h' c' H' hc (u1.upd.trans u')
theorem aPe{h:PH}{b m:Nat}{A:List Tx}{c:Bool}{K:List Nat}(H:vA h b m A c K){v:Value}{l:List Pr}(hl:l.length≤65536)(S:fR h 2 v (l.map Pr.cells))(hv:∀a n c,v= .slice (some a) n c->a.block∉[b,m])(hs:aAN l){k:cD}
  (hk:∀h' c',vA h' b m (rU l++A) c' K->(c=true->c'=true)->cU [b,m] h h'->k (.string (tx (lB l))) h'):aT PG tZ #[pT b 0,v] h k:=by
 apply aB3.call;unfold aB3;have lv:=S.len (t':=bT) cJ.und;rw[iU] at lv;by_cases h0:l=[]
 ·subst h0;simp only[lv,zLM,show(((0:Nat):Int)==0)=true from rfl,cG,reduceIte];exact aOF H (n:=0) (d:=[]) (by decide) (by decide) hk
 ·have hpos:0<l.length:=aG2.2 h0;have e1:((l.length:Int)==0)=false:=by simp;omega
  simp only[lv,e1,cG,reduceIte];refine aIK l.length (oM _) h0 hl H S hv hs λh1 c1 H1 hc1 u1=>?_;refine aOF H1 (by omega) (by rw[yR];decide) λh2 c2 H2 hc2 u2=>?_;unfold lB rU at hk;rw[if_neg h0] at hk;exact hk h2 c2 (by rw[if_neg h0];exact H2) (λh=>hc2 (hc1 h)) (u1.trans u2)
def Bk(b m:Nat)(A:List Tx)(K:List Nat)(h:PH):Prop:=∃c A',vA h b m A' c K∧∀a∈A,a∈A'
theorem Bk.ext{b m:Nat}{A:List Tx}{K:List Nat}{h h':PH}(H:Bk b m A K h)(u:dD h h'):Bk b m A K h':=by
 obtain⟨c,A',B,hs⟩:=H;exact⟨c,A',B.ext u,hs⟩
theorem Bk.upd{b m:Nat}{A:List Tx}{K G:List Nat}{h h':PH}(H:Bk b m A K h)(u:cU G h h')(hd:∀x∈b::m::K,x∉G):Bk b m A K h':=by
 obtain⟨c,A',B,hs⟩:=H;exact⟨c,A',B.upd u hd,hs⟩
theorem Bk.mono{b m:Nat}{A B:List Tx}{K:List Nat}{h:PH}(H:Bk b m A K h)(hs:∀a∈B,a∈A):Bk b m B K h:=by
 obtain⟨c,A',B',h1⟩:=H;exact⟨c,A',B',λa ha=>h1 a (hs a ha)⟩
theorem Bk.known{b m:Nat}{A:List Tx}{K:List Nat}{h:PH}(H:Bk b m A K h):∀x∈b::m::K,h x≠none:=by
 obtain⟨c,A',B,hs⟩:=H;exact B.known
theorem aMA{h:PH}{b m:Nat}{A:List Tx}{K:List Nat}(H:Bk b m A K h){s:Tx}(hs:s.length≤100000000){k:cD}
  (hk:∀h',Bk b m (s::A) K h'->cU [b,m] h h'->k (.string (tx (oQ s))) h'):aT PG kA #[pT b 0,.string (tx s)] h k:=by
 obtain⟨c,A',B,h1⟩:=H;refine aKW B hs λh' c' B' _ u=>hk h' ⟨c',s::A',B',λa ha=>?_⟩ u;rcases gL.1 ha with rfl|ha
 ·simp
 ·simp[h1 a ha]
theorem aUR{h:PH}{b m:Nat}{A:List Tx}{K:List Nat}(H:Bk b m A K h){p:Pr}(hl:p.k.length+p.v.length≤10000000){k:cD}
  (hk:∀h',Bk b m (aAo p::A) K h'->cU [b,m] h h'->k (.string (tx (aFX p))) h'):aT PG uC #[pT b 0,p.val] h k:=by
 obtain⟨c,A',B,h1⟩:=H;refine aP1 B hl λh' c' B' _ u=>hk h' ⟨c',_,B',λa ha=>?_⟩ u;rcases gL.1 ha with rfl|ha
 ·simp
 ·simp[h1 a ha]
theorem aXJ{h:PH}{b m:Nat}{A:List Tx}{K:List Nat}(H:Bk b m A K h){n:Nat}{d:Tx}(hn:n≤1000000)(hd:d.length≤1000000){k:cD}
  (hk:∀h',Bk b m (aHF n d::A) K h'->cU [b,m] h h'->k (.string (tx (aIf n d))) h'):aT PG rH #[pT b 0,.int .i64 (n:Int),.string (tx d)] h k:=by
 obtain⟨c,A',B,h1⟩:=H;refine aOF B hn hd λh' c' B' _ u=>hk h' ⟨c',_,B',λa ha=>?_⟩ u;rcases gL.1 ha with rfl|ha
 ·simp
 ·simp[h1 a ha]
def Off(b m:Nat)(v:Value):Prop:=∀a n c,v= .slice (some a) n c->a.block∉[b,m]
theorem aNc{h:PH}{v:Value}{l:List Pr}{b m:Nat}{A:List Tx}{K:List Nat}(hne:l≠[])(hl:l.length≤65536)(H:Bk b m A K h)(S:fR h 2 v (l.map Pr.cells))(hv:Off b m v)(hs:aAN l){k:cD}
  (hk:∀h',Bk b m (aAQ l++A) K h'->cU [b,m] h h'->k (.string (tx (lV l))) h'):aT PG lY #[pT b 0,v] h k:=by
 obtain⟨c,A',B,h1⟩:=H;refine aIK l.length (oM _) hne hl B S hv hs λh' c' B' _ u=>hk h' ⟨c',_,B',λa ha=>?_⟩ u;rcases jG.1 ha with ha|ha
 ·simp[ha]
 ·simp[h1 a ha]
theorem aVV{h:PH}{b m:Nat}{A:List Tx}{K:List Nat}(H:Bk b m A K h){v:Value}{l:List Pr}(hl:l.length≤65536)(S:fR h 2 v (l.map Pr.cells))(hv:Off b m v)(hs:aAN l){k:cD}
  (hk:∀h',Bk b m (rU l++A) K h'->cU [b,m] h h'->k (.string (tx (lB l))) h'):aT PG tZ #[pT b 0,v] h k:=by
 obtain⟨c,A',B,h1⟩:=H;refine aPe B hl S hv hs λh' c' B' _ u=>hk h' ⟨c',_,B',λa ha=>?_⟩ u;rcases jG.1 ha with ha|ha
 ·simp[ha]
 ·simp[h1 a ha]
theorem dZ.off{h:PH}{F:List Nat}(f:dZ h F){b m:Nat}(hb:h b≠none)(hm:h m≠none):∀x∈F,x∉[b,m]:=λx hx hm'=>by
 simp only[gL,kJ,or_false] at hm';rcases hm' with rfl|rfl
 ·exact hb (f _ hx)
 ·exact hm (f _ hx)
theorem cU.grow2{h h1:PH}{b m:Nat}(u:cU [b,m] h h1)(hb:h1 b≠none)(hm:h1 m≠none){x:Nat}(hx:h1 x=none):h x=none:=by
 cases e:h x with
 | none=>rfl
 | some o=>
  exfalso;by_cases c:x∈[b,m]
  ·simp only[gL,kJ,or_false] at c;rcases c with rfl|rfl
   ·exact hb hx
   ·exact hm hx
  ·have:=u x o e c;rw[hx] at this;cases this
theorem aMl:∀(n:Nat) {h:PH} {v:Value} {l:List Pr} {j:Nat} {b m:Nat} {A:List Tx} {K:List Nat},l.length≤n->j<l.length->l.length≤65536->Bk b m A K h->fR h 2 v (l.map Pr.cells)->Off b m v->aAN l->∀{k:cD},
  (∀h' v' F,Bk b m A K h'->eD h' bR 1 v' ((nV l j).map iY) F->dZ h F->cU [b,m] h h'->k v' h')->aT PG tP #[pT b 0,v,.int .i64 (j:Int)] h k
 | 0,_,_,l,j,_,_,_,_,h0,hj,_,_,_,_,_,_,_=>by omega
 | n+1,h,v,l,j,b,m,A,K,hn,hj,hl,H,S,hv,hs,k,hk=>by
  apply uV.call;unfold uV;have lv:=S.len (t':=bT) cJ.und;rw[iU] at lv;have g1:((j:Int)<0)=False:=eq_false (by omega);have g2:((l.length:Int)≤(j:Int))=False:=eq_false (by omega);by_cases h1:l.length=1
  ·have e1:((l.length:Int)==1)=true:=by simp[h1]
   simp only[g1,lv,g2,iA,e1,cG,reduceIte,cT,Nat.reduceAdd];have hp:nV l j=[]:=by rw[nV,dif_neg (by omega)]
   rw[hp] at hk;exact hk h _ [] H eD.nil (λb hb=>by cases hb) cU.refl
  ·have e1:((l.length:Int)==1)=false:=by simp;omega
   have h2:2≤l.length:=by omega
   have hlt:=lK h2;have kb:=H.known b (by simp);have km:=H.known m (by simp);simp only[g1,lv,g2,iA,e1,cG,reduceIte,cT,Nat.reduceAdd];refine aJF h2 hl ?_;obtain⟨v1,s1,t1,x1⟩:=S.cut (lo:=none) (hi:=some (.int .i64 ((dU l.length:Nat):Int))) (l:=0) (m:=dU l.length) cJ.und cM.info cM.size (.inl ⟨rfl,rfl⟩) (.inr ⟨_,rfl⟩) (by omega) (by simp;omega);obtain⟨v2,s2,t2,x2⟩:=S.cut (lo:=some (.int .i64 ((dU l.length:Nat):Int))) (hi:=none) (l:=dU l.length) (m:=l.length) cJ.und cM.info cM.size (.inr ⟨_,rfl⟩) (.inl ⟨rfl,by simp⟩) (by omega) (by simp);rw[zLb,←aH0] at t1;rw[←aH0,←List.map_drop,zLI] at t2;have hv1:Off b m v1:=λa n c e=>by
    obtain⟨x0,n0,c0,e0,e5⟩:=x1 a n c e;rw[e5];exact hv _ _ _ e0
   have hv2:Off b m v2:=λa n c e=>by
    obtain⟨x0,n0,c0,e0,e5⟩:=x2 a n c e;rw[e5];exact hv _ _ _ e0
   have fin:∀{h3:PH} {v3:Value} {F3:List Nat} {q:List Tx} {d:Tx},Bk b m A K h3->eD h3 bR 1 v3 (q.map iY) F3->dZ h F3->cU [b,m] h h3->q.length≤20->nV l j=q++[d]->dY (jM PG (buildSlice cP 1 #[(0,.string (tx d))])) λx40=>∀r39,h3 r39=none->dY (cV PG (x40.2 r39)) λv41=>eJ (PH.set h3 r39 x40.1) λh42=>cY PG (Builtin.append_ #[cP,cP] cP #[v3,v41]) h42 λv43 h44=>k v43 h44:=by
    intro h3 v3 F3 q d B3 O3 f3 u3 hq hp;simp only[aL1,cG,reduceIte,cT,Nat.reduceAdd];intro r hr;refine fL ?_
    try rw[cZ]
    have u4:dD h3 (h3.set r (.cells #[.string (tx d)] bR)):=cU.new hr;have s4:fR (h3.set r (.cells #[.string (tx d)] bR)) 1 (.slice (some ⟨r,0,none⟩) 1 1) ([d].map iY):=(eD.lit (n:=1) (rows:=[d].map iY) (λr hr=>by simp only[iJ,iV,fU] at hr;subst hr;rfl) dM (by simp) (by decide) rfl).slR;generalize h3.set r (.cells #[.string (tx d)] bR)=h4 at *;have k3b:=B3.known b (by simp);have k3m:=B3.known m (by simp);refine jF cP.und cP.und bR.info bR.size bR.bytes bR.zero rfl (by decide) (O3.ext u4) s4 (λr hr u hu=>by
     obtain⟨y,hy,rfl⟩:=lO.1 hr;exact iY.isC y u hu) (by simp only[iU,zLS];omega) ?_
    intro v5 h5 F5 O5 u5 k5 _;rw[←qX,←hp] at O5;refine hk h5 v5 F5 ((B3.ext u4).upd u5 (λx hx hm'=>?_)) O5 (λx hx=>?_) ((u3.trans u4.upd).then u5 (λx hx=>.inr (f3 x hx)))
    ·have:h x≠none:=H.known x hx;exact this (f3 x hm')
    ·rcases k5 x hx with hx|hx
     ·exact f3 x hx
     ·exact u3.grow2 k3b k3m (u4.none hx)
   have deep:∀(l':List Pr) (j':Nat),l'.length≤65536->(nV l' j').length≤20:=λl' j' hl'=>by
    have:=aEv 16 l' j' hl';omega
   by_cases hjm:j<dU l.length
   ·have g3:((j:Int)<((dU l.length:Nat):Int))=True:=eq_true (by omega);simp only[g3,s1,s2,cG,reduceIte,cT,Nat.reduceAdd];refine aMl n (l:=l.take (dU l.length)) (by rw[uX];omega) (by rw[uX];omega) (by rw[uX];omega) H t1 hv1 (λp hp=>hs p (aJf hp)) λh3 v3 F3 B3 O3 f3 u3=>?_;refine aNc (aJj (by rw[xD];omega)) (by rw[xD];omega) B3 (t2.upd u3 hv2) hv2 (λp hp=>hs p (aLF hp)) λh4 B4 u4=>?_;refine fin (q:=nV (l.take (dU l.length)) j) (B4.mono λa ha=>by simp[ha]) (O3.upd u4 (f3.off kb km)) f3 (u3.trans u4) (deep _ _ (by rw[uX];omega)) ?_;rw[nV,dif_pos h2,if_pos hjm]
   ·have g3:((j:Int)<((dU l.length:Nat):Int))=False:=eq_false (by omega);have w1:IntKind.i64.wrap ((j:Int)-((dU l.length:Nat):Int))=((j-dU l.length:Nat):Int):=by rw[eX (by omega) (by omega)];omega
    simp only[g3,s1,s2,w1,cG,reduceIte,cT,Nat.reduceAdd];refine aMl n (l:=l.drop (dU l.length)) (by rw[xD];omega) (by rw[xD];omega) (by rw[xD];omega) H t2 hv2 (λp hp=>hs p (aLF hp)) λh3 v3 F3 B3 O3 f3 u3=>?_;refine aNc (aJj (by rw[uX];omega)) (by rw[uX];omega) B3 (t1.upd u3 hv1) hv1 (λp hp=>hs p (aJf hp)) λh4 B4 u4=>?_;refine fin (q:=nV (l.drop (dU l.length)) (j-dU l.length)) (B4.mono λa ha=>by simp[ha]) (O3.upd u4 (f3.off kb km)) f3 (u3.trans u4) (deep _ _ (by rw[xD];omega)) ?_;rw[nV,dif_pos h2,if_neg hjm]
def gE(i n:Nat):Nat:=if h:2≤n then(if i<dU n then 1+gE i (dU n) else 1+gE (i-dU n) (n-dU n)) else 0
termination_by n
decreasing_by
 ·have:=lK h;omega
 ·have:=lK h;omega
def oN(p:Pr)(i n:Nat)(path:List Tx):Tx:=
 if h:2≤n then(if i<dU n then aAq (oN p i (dU n) path) (path.getD (gE i n-1) []) else aAq (path.getD (gE i n-1) []) (oN p (i-dU n) (n-dU n) path)) else aFX p
termination_by n
decreasing_by
 ·have:=lK h;omega
 ·have:=lK h;omega
def upA(p:Pr)(i n:Nat)(path:List Tx):List Tx:=
 if h:2≤n then(if i<dU n then rW (oN p i (dU n) path) (path.getD (gE i n-1) [])::upA p i (dU n) path else rW (path.getD (gE i n-1) []) (oN p (i-dU n) (n-dU n) path)::upA p (i-dU n) (n-dU n) path) else [aAo p]
termination_by n
decreasing_by
 ·have:=lK h;omega
 ·have:=lK h;omega
theorem aJI:∀(d i n:Nat),n≤2^d->gE i n≤d
 | 0,i,n,h=>by rw[gE,dif_neg (by simp at h;omega)];exact oM _
 | d+1,i,n,h=>by
  by_cases h2:2≤n
  ·obtain⟨a,b⟩:=aEy h2 h;rw[gE,dif_pos h2];split
   ·have:=aJI d i (dU n) a;omega
   ·have:=aJI d (i-dU n) (n-dU n) b;omega
  ·rw[gE,dif_neg h2];omega
theorem aKF:∀(n:Nat) (p:Pr) (i:Nat) (q r:List Tx),gE i n≤q.length->oN p i n (q++r)=oN p i n q:=by
 intro n;induction n using Nat.strongRecOn with
 | ind n ih=>
  intro p i q r hq;by_cases h2:2≤n
  ·obtain⟨m1,m2⟩:=lK h2;rw[gE,dif_pos h2] at hq;rw[oN,dif_pos h2]
   conv=>rhs;rw[oN,dif_pos h2]
   have hg:(q++r).getD (gE i n-1) []=q.getD (gE i n-1) []:=by
    have hd:gE i n-1<q.length:=by
     by_cases hi:i<dU n
     ·rw[if_pos hi] at hq;rw[gE,dif_pos h2,if_pos hi];omega
     ·rw[if_neg hi] at hq;rw[gE,dif_pos h2,if_neg hi];omega
    rw[aAT,aAT,List.getElem?_append_left hd]
   rw[hg];by_cases hi:i<dU n
   ·rw[if_pos hi] at hq;rw[if_pos hi,if_pos hi,ih (dU n) m2 p i q r (by omega)]
   ·rw[if_neg hi] at hq;rw[if_neg hi,if_neg hi,ih (n-dU n) (by omega) p (i-dU n) q r (by omega)]
  ·rw[oN,dif_neg h2]
   conv=>rhs;rw[oN,dif_neg h2]
theorem aVx:∀(n:Nat) (p:Pr) (i:Nat) (path:List Tx),upP p i n path=if gE i n≤path.length∧∀d∈path.drop (path.length-gE i n),d.length=32 then some (oN p i n (path.drop (path.length-gE i n)),path.take (path.length-gE i n)) else none:=by
 intro n;induction n using Nat.strongRecOn with
 | ind n ih=>
  intro p i path;by_cases h2:2≤n
  ·obtain⟨m1,m2⟩:=lK h2;rcases List.eq_nil_or_concat path with rfl|⟨q,x,rfl⟩
   ·rw[upP,dif_pos h2,if_neg]
    ·rfl
    ·rintro⟨h,-⟩;rw[gE,dif_pos h2] at h;split at h<;>simp at h<;>omega
   ·rw[List.concat_eq_append];have key:∀(d:Nat) (Y:Tx->Tx) (U:List Tx->Tx) (o:Option (Tx×List Tx)),gE i n=1+d->(∀z,d≤z.length->U (z++[x])=U z)->
      o=(if d≤q.length∧∀y∈q.drop (q.length-d),y.length=32 then some (U (q.drop (q.length-d)),q.take (q.length-d)) else none)->(∀z,z.length=d->oN p i n (z++[x])=Y (U z))->
      (if x.length≠32 then none else o.map λy=>(Y y.1,y.2))=if gE i n≤(q++[x]).length∧∀y∈(q++[x]).drop ((q++[x]).length-gE i n),y.length=32 then some (oN p i n ((q++[x]).drop ((q++[x]).length-gE i n)),(q++[x]).take ((q++[x]).length-gE i n)) else none:=by
     intro d Y U o hd hU ho hY;have hl:(q++[x]).length-gE i n=q.length-d:=by rw[hd,jR,zLS];omega
     rw[hl,hd];by_cases hdq:d≤q.length
     ·have e1:(q++[x]).drop (q.length-d)=q.drop (q.length-d)++[x]:=List.drop_append_of_le_length (by omega);have e2:(q++[x]).take (q.length-d)=q.take (q.length-d):=zLG (by omega);rw[e1,e2];by_cases hx:x.length=32
      ·rw[if_neg (by simpa using hx),ho];by_cases hall:∀y∈q.drop (q.length-d),y.length=32
       ·rw[if_pos ⟨hdq,hall⟩,if_pos ⟨by simp;omega,λy hy=>by
         rcases jG.1 hy with hy|hy
         ·exact hall y hy
         ·simp only[fU] at hy;rw[hy];exact hx⟩,hY _ (by rw[xD];omega)]
        rfl
       ·rw[if_neg (λh=>hall h.2),if_neg (λh=>hall λy hy=>h.2 y (by simp[hy]))];rfl
      ·rw[if_pos hx,if_neg (λh=>hx (h.2 x (by simp)))]
     ·have ho':o=none:=by rw[ho,if_neg (λh=>hdq h.1)]
      have hno:¬(1+d≤(q++[x]).length∧∀y∈(q++[x]).drop (q.length-d),y.length=32):=λh=>hdq (by have:=h.1;rw[jR,zLS] at this;omega);rw[ho',if_neg hno];split<;>rfl
    rw[upP,dif_pos h2,List.getLast?_concat,List.dropLast_concat];simp only;by_cases hi:i<dU n
    ·have hd:gE i n=1+gE i (dU n):=by rw[gE,dif_pos h2,if_pos hi]
     simp only[hi,if_true];refine key (gE i (dU n)) (λy=>aAq y x) (λz=>oN p i (dU n) z) _ hd (λz hz=>aKF _ _ _ _ _ hz) (ih (dU n) m2 p i q) (λz hz=>?_)
     conv=>lhs;rw[oN,dif_pos h2,if_pos hi]
     rw[aKF _ _ _ _ _ (by omega),hd,aAT,show 1+gE i (dU n)-1=z.length by omega,List.getElem?_concat_length];rfl
    ·have hd:gE i n=1+gE (i-dU n) (n-dU n):=by rw[gE,dif_pos h2,if_neg hi]
     simp only[hi,if_false];refine key (gE (i-dU n) (n-dU n)) (λy=>aAq x y) (λz=>oN p (i-dU n) (n-dU n) z) _ hd (λz hz=>aKF _ _ _ _ _ hz) (ih (n-dU n) (by omega) p (i-dU n) q) (λz hz=>?_)
     conv=>lhs;rw[oN,dif_pos h2,if_neg hi]
     rw[aKF _ _ _ _ _ (by omega),hd,aAT,show 1+gE (i-dU n) (n-dU n)-1=z.length by omega,List.getElem?_concat_length];rfl
  ·have h0:gE i n=0:=by rw[gE,dif_neg h2]
   rw[upP,dif_neg h2,h0,Nat.sub_zero,if_pos ⟨Nat.zero_le _,λd hd=>by simp at hd⟩,zLI,oN,dif_neg h2]
structure OkC(f:Lf):Prop where
 n1:1≤f.n
 n2:f.n≤4096
 i1:0≤f.i
 i2:f.i<f.n
 len:f.path.length=gE f.i.toNat f.n.toNat
 all:∀d∈f.path,d.length=32
def aLA(f:Lf):Tx:=oN f.p f.i.toNat f.n.toNat f.path
def aGG(f:Lf):List Tx:=aHF f.n.toNat (aLA f)::upA f.p f.i.toNat f.n.toNat f.path
theorem aPE{f:Lf}(H:OkC f):oT f=some (aIf f.n.toNat (aLA f)):=by
 have h1:=H.n1;have h2:=H.n2;have h3:=H.i1;have h4:=H.i2;unfold oT;rw[if_neg (by omega),aVx,←H.len,Nat.sub_self,zLb,List.take_zero,if_pos ⟨oM _,H.all⟩];rfl
theorem aO3{f:Lf}(H:¬OkC f):oT f=none:=by
 unfold oT;by_cases c:f.n<1∨4096<f.n∨f.i<0∨f.n≤f.i
 ·rw[if_pos c]
 ·rw[if_neg c,aVx];by_cases d:gE f.i.toNat f.n.toNat≤f.path.length∧∀d∈f.path.drop (f.path.length-gE f.i.toNat f.n.toNat),d.length=32
  ·rw[if_pos d];obtain⟨d1,d2⟩:=d;by_cases e:f.path.length=gE f.i.toNat f.n.toNat
   ·exfalso;rw[←e,Nat.sub_self,zLb] at d2;exact H ⟨by omega,by omega,by omega,by omega,e,d2⟩
   ·have hne:f.path.take (f.path.length-gE f.i.toNat f.n.toNat)≠[]:=aJj (by rw[uX];omega);cases ht:f.path.take (f.path.length-gE f.i.toNat f.n.toNat) with
    | nil=>exact absurd ht hne
    | cons x xs=>rfl
  ·rw[if_neg d];rfl
theorem aJD:∀(d:Nat) {h:PH} {i n:Nat},n≤2^d->1≤n->n≤4096->i<n->∀{k:cD},k (.int .i64 ((gE i n:Nat):Int)) h->aT PG pK #[.int .i64 (i:Int),.int .i64 (n:Int)] h k
 | d,h,i,n,hd,h1,hn,hi,k,hk=>by
  apply aBP.call;unfold aBP;by_cases e1:n=1
  ·have q:((n:Int)==1)=true:=by simp[e1]
   simp only[iA,q,cG,reduceIte,cT,Nat.reduceAdd];have:gE i n=0:=by rw[gE,dif_neg (by omega)]
   rw[this] at hk;exact hk
  ·have q:((n:Int)==1)=false:=by simp;omega
   have h2:2≤n:=by omega
   obtain⟨m1,m2⟩:=lK h2;cases d with
   | zero=>simp at hd;omega
   | succ d=>
    obtain⟨a,b⟩:=aEy h2 hd;simp only[iA,q,cG,reduceIte,cT,Nat.reduceAdd];refine aJF h2 (by omega) ?_;have hdl:=aJI 12 i n (by omega);by_cases c:i<dU n
    ·have g:((i:Int)<((dU n:Nat):Int))=True:=eq_true (by omega);have he:gE i n=1+gE i (dU n):=by rw[gE,dif_pos h2,if_pos c]
     have w:IntKind.i64.wrap (1+((gE i (dU n):Nat):Int))=((gE i n:Nat):Int):=by rw[eX (by omega) (by omega)];omega
     simp only[g,cG,reduceIte,cT,Nat.reduceAdd];refine aJD d a (by omega) (by omega) c ?_;simp only[w,cG,reduceIte,cT,Nat.reduceAdd];exact hk
    ·have g:((i:Int)<((dU n:Nat):Int))=False:=eq_false (by omega);have he:gE i n=1+gE (i-dU n) (n-dU n):=by rw[gE,dif_pos h2,if_neg c]
     have w:IntKind.i64.wrap (1+((gE (i-dU n) (n-dU n):Nat):Int))=((gE i n:Nat):Int):=by rw[eX (by omega) (by omega)];omega
     have w1:IntKind.i64.wrap ((i:Int)-((dU n:Nat):Int))=((i-dU n:Nat):Int):=by rw[eX (by omega) (by omega)];omega
     have w2:IntKind.i64.wrap ((n:Int)-((dU n:Nat):Int))=((n-dU n:Nat):Int):=by rw[eX (by omega) (by omega)];omega
     simp only[g,w1,w2,cG,reduceIte,cT,Nat.reduceAdd];refine aJD d b (by omega) (by omega) (by omega) ?_;simp only[w,cG,reduceIte,cT,Nat.reduceAdd];exact hk
end Go.Proofs.YtppgkeodaejgcaaGreatDoor
namespace Go.Proofs.YtppgkeodaejgcaaGreatDoor
open Go
theorem aV9{hs:List Int}{l:List gV}(R:nW hs l)(hpos:∀y∈hts l,0≤y){best:Int}(h1:best=0∨best∈hts l)(h2:∀y∈hts l,y≤best)(h0:0≤best):aKO hs=best:=by
 unfold aKO;rcases List.eq_nil_or_concat hs with rfl|⟨ys,y,rfl⟩
 ·rcases h1 with h|h
  ·exact h.symm
  ·exact absurd (R.mem.2 h) (by simp)
 ·have hy:y∈hts l:=R.mem.1 (by simp);have e1:=h2 y hy;have e0:=hpos y hy;simp only[List.concat_eq_append,List.getLast?_append,List.getLast?_singleton,Option.some_or,aH8];rcases h1 with h|h
  ·omega
  ·have:=R.mem.2 h;rcases jG.1 (by simpa[List.concat_eq_append] using this:best∈ys++[y]) with hb|hb
   ·have hup:=R.up;rw[List.concat_eq_append,List.pairwise_append] at hup;have:=hup.2.2 best hb y (by simp);omega
   ·simp at hb;exact hb.symm
theorem fR.kn{h:PH}{x:Value}{xs:List gV}(H:fR h 2 x (xs.map gV.cells)){k:IntKind}{j:Nat}{m:gV}(hm:xs[j]? =some m):
  ∃b o,cV PG (indexAt dS x (.int k j))=some (pT b o)∧dF h ⟨b,o,none⟩=some (.int .u64 m.height)∧dF h ⟨b,o+1,none⟩=some (.string m.root)∧cE PG h (loadAt eH (pT b o))=some (.agg m.cells.toArray):=by
 obtain⟨b,o,h1,h2,h3⟩:=H.fields dS.und eH.info eH.size (k:=k) (j:=j) (r:=m.cells) (by rw[wN,hm];rfl);exact⟨b,o,h1,h2 0 _ rfl,h2 1 _ rfl,h3 _ eH.und rfl⟩
structure xI(h:PH)(a:Nat)(l:List gV)(F:List Nat):Prop where
 here:∃v G,h a=some (.cells #[v] gA (0,0))∧eD h eH 2 v (l.map gV.cells) G∧F=a::G∧a∉G
theorem xI.known{h:PH}{a:Nat}{l:List gV}{F:List Nat}(H:xI h a l F):∀b∈F,h b≠none:=by
 obtain⟨v,G,ha,hO,rfl,hn⟩:=H;intro b hb;rcases gL.1 hb with rfl|hb
 ·rw[ha];simp
 ·exact hO.known b hb
theorem xI.upd{h h':PH}{a:Nat}{l:List gV}{F G:List Nat}(H:xI h a l F)(u:cU G h h')(hd:∀b∈F,b∉G):xI h' a l F:=by
 obtain⟨v,G',ha,hO,rfl,hn⟩:=H;exact⟨v,G',u.get ha (hd a (by simp)),hO.upd u (λb hb=>hd b (by simp[hb])),rfl,hn⟩
theorem xI.ext{h h':PH}{a:Nat}{l:List gV}{F:List Nat}(H:xI h a l F)(u:dD h h'):xI h' a l F:=H.upd u (by simp)
theorem aKc{h:PH}{a:Nat}{l:List gV}{F:List Nat}(hR:xI h a l F)(hl:l.length≤1000000)(x:Int){k:cD}
  (hk:k (.tuple #[.string ((kN l x).getD ⟨#[]⟩),.bool (kN l x).isSome]) h):aT PG mI #[pT a 0,.int .u64 x] h k:=by
 obtain⟨v,G,ha,hO,rfl,hn⟩:=hR;have lv:=hO.slR.len (t':=bT) dS.und;rw[iU] at lv;apply tV.call;unfold tV;refine⟨λvs h'=>∃i:Nat,i≤l.length∧vs=[pT a 0,.int .u64 x,.int .i64 i]∧h'=h∧kN l x=kN (l.drop i) x,gY l.length 2,⟨0,by omega,rfl,rfl,rfl⟩,?_⟩;rintro ρ h' ⟨i,hi,hvs,rfl,hr⟩;simp only[iJ,iV,kW,and_true] at hvs;obtain⟨e0,e1,e5⟩:=hvs;rw[e0,e1,e5];unfold aCg;by_cases hlt:i<l.length
 ·have hd:((i:Int)<(l.length:Int))=True:=by apply eq_true;omega
  obtain⟨m,hm⟩:∃m,l[i]? =some m:=⟨_,lU hlt⟩;obtain⟨b,o,a1,a2,a3,-⟩:=hO.slR.kn (k:=.i64) hm;have e2:=qG (i:=i) (by omega);have ha':dF h' ⟨a,0,none⟩=some v:=by simp[dF,ha]
  have hdr:l.drop i=m::l.drop (i+1):=by
   rw[aMf hlt];rw[lU hlt] at hm;simp at hm;rw[hm]
  simp only[gA.f0,dS.load,ha',lv,hd,a1,eH.f0,eH.f1,cA.load,bR.load,a2,a3,e2,cG,reduceIte];by_cases e:x=m.height
  ·have e3:(m.height==x)=true:=by simp[e]
   have e4:kN l x=some m.root:=by rw[hr,hdr];simp[kN,e]
   rw[e4] at hk;simp only[e3,cG,reduceIte];exact hk
  ·have e3:(m.height==x)=false:=by simp;exact λh=>e h.symm
   simp only[e3,cG,reduceIte];refine⟨⟨i+1,by omega,rfl,by trivial,?_⟩,by simp[gY,e5];omega⟩;rw[hr,hdr];simp[kN,e]
 ·have hd:((i:Int)<(l.length:Int))=False:=by apply eq_false;omega
  have ha':dF h' ⟨a,0,none⟩=some v:=by simp[dF,ha]
  simp only[gA.f0,dS.load,ha',lv,hd,cG,reduceIte];have e4:kN l x=none:=by rw[hr,aLt (by omega)];rfl
  rw[e4] at hk;exact hk
theorem aKU{l:List gV}{i:Nat}{m:gV}(hm:l[i]? =some m):hts (l.take (i+1))=hts (l.take i)++[m.height]:=by
 rw[zLT,hm];simp[hts]
theorem aSn{h:PH}{a:Nat}{l:List gV}{hs:List Int}{F:List Nat}(hR:xI h a l F)(hl:l.length≤1000000)(R:nW hs l)(hpos:∀y∈hts l,0≤y){k:cD}
  (hk:k (.int .u64 (aKO hs)) h):aT PG vB #[pT a 0] h k:=by
 obtain⟨v,G,ha,hO,rfl,hn⟩:=hR;have lv:=hO.slR.len (t':=bT) dS.und;rw[iU] at lv;apply rX.call;unfold rX;refine⟨λvs h'=>∃(i:Nat) (best:Int),i≤l.length∧vs=[pT a 0,.int .u64 best,.int .i64 i]∧h'=h∧(best=0∨best∈hts (l.take i))∧(∀y∈hts (l.take i),y≤best)∧0≤best,gY l.length 2,⟨0,0,by omega,rfl,rfl,.inl rfl,by simp[hts],by omega⟩,?_⟩;rintro ρ h' ⟨i,best,hi,hvs,rfl,q1,q2,q3⟩;simp only[iJ,iV,kW,and_true] at hvs;obtain⟨e0,e1,e5⟩:=hvs;rw[e0,e1,e5];unfold aBq;have ha':dF h' ⟨a,0,none⟩=some v:=by simp[dF,ha]
 by_cases hlt:i<l.length
 ·have hd:((i:Int)<(l.length:Int))=True:=by apply eq_true;omega
  obtain⟨m,hm⟩:∃m,l[i]? =some m:=⟨_,lU hlt⟩;obtain⟨b,o,a1,a2,a3,-⟩:=hO.slR.kn (k:=.i64) hm;have e2:=qG (i:=i) (by omega);have hmp:0≤m.height:=hpos _ (zL6 (rA hm));simp only[gA.f0,dS.load,ha',lv,hd,a1,eH.f0,cA.load,a2,cG,reduceIte];by_cases e:best<m.height
  ·simp only[e,cG,reduceIte];unfold pH tS;simp only[e2,cG,reduceIte];refine⟨⟨i+1,m.height,by omega,rfl,by trivial,.inr ?_,?_,hmp⟩,by simp[gY,e5];omega⟩
   ·rw[aKU hm];simp
   ·intro y hy;rw[aKU hm] at hy;rcases jG.1 hy with hy|hy
    ·have:=q2 y hy;omega
    ·simp at hy;omega
  ·simp only[e,cG,reduceIte];unfold pH tS;simp only[e2,cG,reduceIte];refine⟨⟨i+1,best,by omega,rfl,by trivial,?_,?_,q3⟩,by simp[gY,e5];omega⟩
   ·rw[aKU hm];simp;rcases q1 with h|h
    ·exact .inl h
    ·exact .inr (.inl h)
   ·intro y hy;rw[aKU hm] at hy;rcases jG.1 hy with hy|hy
    ·exact q2 y hy
    ·simp at hy;omega
 ·have hd:((i:Int)<(l.length:Int))=False:=by apply eq_false;omega
  simp only[gA.f0,dS.load,ha',lv,hd,cG,reduceIte];rw[mU (by omega)] at q1 q2;rw[aV9 R hpos q1 q2 q3] at hk;exact hk
theorem aXI:jM PG (buildSlice dS 0 #[])=some (.cells #[] eH,λr=>pure (.slice (some ⟨r,0,none⟩) 0 0)):=by kernel_rfl
theorem aWa(m:gV):jM PG (buildSlice dS 1 #[(0,.agg m.cells.toArray)])=some (.cells m.cells.toArray eH,λr=>pure (.slice (some ⟨r,0,none⟩) 1 1)):=by kernel_rfl
theorem aU9(m:gV):cV PG (build eH #[(0,.int .u64 m.height),(1,.string m.root)])=some (.agg m.cells.toArray):=by kernel_rfl
theorem aWH{h:PH}{a:Nat}{l:List gV}{F:List Nat}(hR:xI h a l F)(hl:l.length≤4096)(x:gV){k:cD}
  (hk:∀h' F',xI h' a (aAS l x).2 F'->cU [a] h h'->(∀b∈F',b∈F∨h b=none)->k (.int .i64 (aAS l x).1) h'):aT PG rS #[pT a 0,.int .u64 x.height,.string x.root] h k:=by
 apply vL.call;unfold vL;unfold aAS at hk;simp only[bR.len,cG,reduceIte];by_cases c1:x.root.size=32
 ·have e1:((x.root.size:Int) !=32)=false:=by simp[c1]
  rw[if_neg (by simpa using c1)] at hk;simp only[e1,cG,reduceIte];refine aKc hR (by omega) x.height ?_;simp only[aNS,cG,reduceIte];by_cases c2:x.height∈hts l
  ·simp only[c2,cG,reduceIte];rw[if_pos c2] at hk;exact hk _ _ hR cU.refl (λb hb=>.inl hb)
  ·rw[if_neg c2] at hk;obtain⟨v,G,ha,hO,hF,hn⟩:=hR.here;have lv:=hO.slR.len (t':=bT) dS.und;rw[iU] at lv;have ha':dF h ⟨a,0,none⟩=some v:=by simp[dF,ha]
   simp only[c2,gA.f0,dS.load,ha',lv,cG,reduceIte];by_cases c3:4096≤l.length
   ·have e3:((4096:Int)≤(l.length:Int))=True:=by apply eq_true;omega
    simp only[e3,cG,reduceIte];rw[if_pos c3] at hk;exact hk _ _ hR cU.refl (λb hb=>.inl hb)
   ·have e3:((4096:Int)≤(l.length:Int))=False:=by apply eq_false;omega
    rw[if_neg c3] at hk;simp only[e3,aXI,cG,reduceIte];intro r hr;refine fL ?_;have u1:dD h (h.set r (.cells #[] eH)):=cU.new hr;have hN:eD (h.set r (.cells #[] eH)) eH 2 (.slice (some ⟨r,0,none⟩) 0 0) [] [r]:=eD.lit (by intro r hr;cases hr) dM rfl (by simp) rfl;have f1:dZ h [r]:=dZ.one hr;generalize h.set r (.cells #[] eH)=h1 at *;have ha1:dF h1 ⟨a,0,none⟩=some v:=by simp[dF,u1.get ha]
    simp only[ha1,cG,reduceIte];refine jF dS.und dS.und eH.info eH.size eH.bytes eH.zero rfl (by decide) hN (hO.slR.ext u1) (gV.isCell _) (by simp;omega) ?_;intro v2 h2 F2 hO2 u2 k2 _;have w2:=u1.fresh u2 f1;have f2:=f1.grow u1 k2;rw[xZ] at hO2;simp only[aU9,aWa,cG,reduceIte];intro r3 hr3;refine fL ?_;have u3:dD h2 (h2.set r3 (.cells x.cells.toArray eH)):=cU.new hr3;have hx3:fR (h2.set r3 (.cells x.cells.toArray eH)) 2 (.slice (some ⟨r3,0,none⟩) 1 1) ([x].map gV.cells):=(eD.lit (gV.rows _) dM (by simp) (by decide) (by simp)).slR;generalize h2.set r3 (.cells x.cells.toArray eH)=h3 at *;refine jF dS.und dS.und eH.info eH.size eH.bytes eH.zero rfl (by decide) (hO2.ext u3) hx3 (gV.isCell _) (by simp;omega) ?_;intro v4 h4 F4 hO4 u4 k4 _;have w4:=(w2.trans u3).fresh u4 f2;have f4:=f2.grow (w2.trans u3) k4;rw[←qX] at hO4;have ha4:=w4.get ha;have na4:a∉F4:=λhm'=>by have:=f4 a hm';rw[ha] at this;cases this
    refine iT dS.und rfl ha4 (by simp) ?_ dS.info dS.size ?_
    ·obtain⟨_,_,rfl,-⟩:=hO4.slR.here;rfl
    refine hk _ (a::F4) ⟨v4,F4,by simpa using dM,hO4.upd (cU.set (F:=[a]) (by simp)) (λb hb=>by simp;rintro rfl;exact na4 hb),rfl,na4⟩ (w4.upd.trans (cU.set (by simp))) ?_;intro b hb;simp only[gL] at hb;rcases hb with rfl|hb
    ·exact .inl (by rw[hF];simp)
    ·exact .inr (f4 b hb)
 ·have e1:((x.root.size:Int) !=32)=true:=by simp;omega
  rw[if_pos (by simpa using c1)] at hk;simp only[e1,cG,reduceIte];exact hk _ _ hR cU.refl (λb hb=>.inl hb)
theorem neqPtrSelf{h:PH}{x y:Operand}(a:Addr):cE PG h (kB .neq dW x y (.pointer (some a)) (.pointer (some a)))=some (.bool false):=by
 show cE PG h (Op.equalIn (9999+1) dW (.pointer (some a)) (.pointer (some a)) >>= λb=>(pure (Value.bool (!b)):Sem Value))=_;rw[jS];have:cE PG h (Op.equalIn (9999+1) dW (.pointer (some a)) (.pointer (some a)))=some true:=by
  rw[Op.equalIn,kE dW.und];simp only[kQ];rw[aBJ dH.info];simp[dH.size,sameAddr,cE,pure]
 rw[this];rfl
theorem semE_viewAt{h:PH}{r:Nat}{x:TypeId×Nat}{α:Type}(hs:jY h r=some (some x))(f:Option (Addr×TypeId)->Sem α):cE PG h (viewAt r >>= f)=cE PG h (f none):=by
 rw[jS];have:cE PG h (viewAt r)=some none:=by
  show(jY h r).bind _=_;rw[hs];rfl
 rw[this];rfl
theorem semE_seenAt{h:PH}{a:Addr}{x:TypeId×Nat}{α:Type}(hs:jY h a.block=some (some x))(f:Addr->Sem α):cE PG h (Conv.seenAt a >>= f)=cE PG h (f a):=by
 rw[jS];have:cE PG h (Conv.seenAt a)=some a:=by
  unfold Conv.seenAt;rw[semE_viewAt hs];rfl
 rw[this];rfl
theorem semE_cellsIn{h:PH}{r:Nat}{x:TypeId×Nat}{α:Type}(hs:jY h r=some (some x))(f:Option Nat->Sem α):cE PG h (cellsIn r >>= f)=cE PG h (f (some x.2)):=by
 rw[jS];have:cE PG h (cellsIn r)=some (some x.2):=by
  show(jY h r).bind _=_;rw[hs];rfl
 rw[this];rfl
theorem to_unsafe{h:PH}{a:Nat}{c:Array Value}(ha:h a=some (.cells c fI (0,0)))(hc:1<c.size):cE PG h (convert dW iE (pT a 1))=some (pT a 1):=by
 have hs:jY h a=some (some (fI,c.size)):=by unfold jY;rw[ha]
 show cE PG h (underlying dW >>= _)=_;rw[kE dW.und];show cE PG h (underlying iE >>= _)=_;rw[kE iE.und];show cE PG h (underlying dW >>= _)=_;rw[kE dW.und];show cE PG h (underlying iE >>= _)=_;rw[kE iE.und];show cE PG h (Conv.seenAt ⟨a,1,none⟩ >>= _)=_;rw[semE_seenAt (a:=⟨a,1,none⟩) hs];show cE PG h (cellsIn a >>= _)=_;rw[semE_cellsIn hs];have h1:¬(1 ≥ c.size):=by omega
 simp only[kQ];rw[aBJ dH.info];simp[dH.size,h1,cE,pure]
theorem from_unsafe{h:PH}{a:Nat}{c:Array Value}(ha:h a=some (.cells c fI (0,0)))(hc:c.size=3):cE PG h (convert iE dW (pT a 1))=some (pT a 1):=by
 have hs:jY h a=some (some (fI,c.size)):=by unfold jY;rw[ha]
 rw[hc] at hs;show cE PG h (underlying iE >>= _)=_;rw[kE iE.und];show cE PG h (underlying dW >>= _)=_;rw[kE dW.und];show cE PG h (underlying iE >>= _)=_;rw[kE iE.und];show cE PG h (underlying dW >>= _)=_;rw[kE dW.und];show cE PG h (Conv.seenAt ⟨a,1,none⟩ >>= _)=_;rw[semE_seenAt (a:=⟨a,1,none⟩) hs];have hv:cE PG h (variablesAt ⟨a,1,none⟩ dH 1)=some true:=by
  show(jY h a).bind _=_;rw[hs]
  kernel_rfl
 simp only[kQ];rw[aBJ dH.info];simp only[dH.size];rw[jS,hv];simp[cE,pure]
theorem NoEscape_ok{h:PH}{v:Value}{k:cD}(hk:k v h):aT PG aAW #[v] h k:=
 aT.entry (v:=v) (by kernel_rfl) hk
structure WAt(h:PH)(a:Nat)(e:Int)(bs:List UInt8)(F:List Nat):Prop where
 here:∃p v G,h a=some (.cells #[.int .i64 e,p,v] fI (0,0))∧(p= .pointer none∨p=pT a 1)∧eD h dQ 1 v (bs.map jI) G∧F=a::G∧a∉G
theorem WAt.known{h:PH}{a:Nat}{e:Int}{bs:List UInt8}{F:List Nat}(H:WAt h a e bs F):∀b∈F,h b≠none:=by
 obtain⟨p,v,G,ha,hp,hO,rfl,hn⟩:=H;intro b hb;rcases gL.1 hb with rfl|hb
 ·rw[ha];simp
 ·exact hO.known b hb
theorem WAt.upd{h h':PH}{a:Nat}{e:Int}{bs:List UInt8}{F G:List Nat}(H:WAt h a e bs F)(u:cU G h h')(hd:∀b∈F,b∉G):WAt h' a e bs F:=by
 obtain⟨p,v,G',ha,hp,hO,rfl,hn⟩:=H;exact⟨p,v,G',u.get ha (hd a (by simp)),hp,hO.upd u (λb hb=>hd b (by simp[hb])),rfl,hn⟩
theorem WAt.ext{h h':PH}{a:Nat}{e:Int}{bs:List UInt8}{F:List Nat}(H:WAt h a e bs F)(u:dD h h'):WAt h' a e bs F:=H.upd u (by simp)
def aGF(h:PH)(a:Nat)(F:List Nat)(e:Int)(bs:List UInt8)(k:PH->Prop):Prop:=∀h' F',WAt h' a e bs F'->cU F h h'->(∀b∈F',b∈F∨h b=none)->k h'
theorem copyCheck_ok{h:PH}{a:Nat}{m p v:Value}(ha:h a=some (.cells #[m,p,v] fI (0,0)))(hp:p= .pointer none∨p=pT a 1){k:cD}
  (hk:∀h',h' a=some (.cells #[m,pT a 1,v] fI (0,0))->cU [a] h h'->(∀b,b≠a->h' b=h b)->k (.tuple #[]) h'):aT PG mB #[pT a 1] h k:=by
 apply nE.call;unfold nE;have hc:dF h ⟨a,1,none⟩=some p:=by simp[dF,ha]
 simp only[dH.f0,dW.load,hc,cG,reduceIte];rcases hp with rfl|rfl
 ·simp only[aHd dW.und,Option.isNone_none,cG,reduceIte];refine cE.semH (to_unsafe ha (by simp)) ?_;refine NoEscape_ok ?_;refine cE.semH (from_unsafe ha (by simp)) ?_;refine iT dW.und rfl ha (by simp) rfl dW.info dW.size ?_;exact hk _ dM (cU.set (by simp)) (λb hb=>pD hb)
 ·simp only[aHd dW.und,Option.isNone_some,neqPtrSelf,dH.f0,dW.load,hc,cG,reduceIte];exact hk _ ha cU.refl (λ_ _=>rfl)
theorem byte_lit(x:Int):jM PG (buildSlice dC 1 #[(0,.int .u8 x)])=some (.cells #[.int .u8 x] dQ,λr=>pure (.slice (some ⟨r,0,none⟩) 1 1)):=by kernel_rfl
theorem buf_app{h:PH}{a:Nat}{e:Int}{p v x:Value}{bs ys:List UInt8}{G:List Nat}{t2 e2:TypeId}(hu2:PG.underlying t2=some (.slice e2))(ha:h a=some (.cells #[.int .i64 e,p,v] fI (0,0)))(hp:p= .pointer none∨p=pT a 1)(hO:eD h dQ 1 v (bs.map jI) G)(hn:a∉G)
  (hx:fR h 1 x (ys.map jI)) (hl:bs.length+ys.length≤140737488355328) {k:PH->Prop} (hk:aGF h a (a::G) e (bs++ys) k):
  cY PG (Builtin.append_ #[dC,t2] dC #[v,x]) h λv' h'=>cY PG (dJ dC (pT a 2) v') h' λ_ h''=>k h'':=by
 refine jF dC.und hu2 dQ.info dQ.size dQ.bytes dQ.zero rfl (by decide) hO hx (jI.isCell _) (by simp;omega) ?_;intro v2 h2 F2 hO2 u2 k2 _;rw[←qX] at hO2;have ha2:=u2.get ha hn;have hn2:a∉F2:=λhm=>by
  rcases k2 a hm with h1|h1
  ·exact hn h1
  ·rw[ha] at h1;cases h1
 refine iT dC.und rfl ha2 (by simp) ?_ dC.info dC.size ?_
 ·obtain⟨_,_,rfl,-⟩:=hO2.slR.here;rfl
 ·refine hk _ (a::F2) ⟨p,v2,F2,dM,hp,hO2.upd (cU.set (F:=[a]) (by simp)) (λb hb=>by simp;rintro rfl;exact hn2 hb),rfl,hn2⟩ ((u2.mono λb hb=>.inl (by simp[hb])).trans (cU.set (by simp))) (λb hb=>?_);rcases gL.1 hb with rfl|hb
  ·exact .inl (by simp)
  ·rcases k2 b hb with h1|h1
   ·exact .inl (by simp[h1])
   ·exact .inr h1
theorem WriteByte_ok{h:PH}{a:Nat}{e:Int}{bs:List UInt8}{F:List Nat}(hW:WAt h a e bs F)(hl:bs.length+1≤140737488355328)(x:UInt8){k:cD}(hk:aGF h a F e (bs++[x]) (k .nilIface)):
  aT PG lZ #[pT a 1,.int .u8 x.toNat] h k:=by
 obtain⟨p,v,G,ha,hp,hO,rfl,hn⟩:=hW;apply mX.call;unfold mX;refine copyCheck_ok ha hp λh1 ha1 u1 o1=>?_;have hc:dF h1 ⟨a,2,none⟩=some v:=by simp[dF,ha1]
 have hO1:=hO.upd u1 (λb hb hf=>by simp at hf;subst hf;exact hn hb);simp only[dH.f1,dC.load,hc,byte_lit,cG,reduceIte];intro r hr;refine fL ?_;have u2:dD h1 (h1.set r (.cells #[.int .u8 x.toNat] dQ)):=cU.new hr;have s2:fR (h1.set r (.cells #[.int .u8 x.toNat] dQ)) 1 (.slice (some ⟨r,0,none⟩) 1 1) ([x].map jI):=(eD.lit (jI.rows [x]) dM (by simp) (by decide) (by simp[jI])).slR;refine buf_app dC.und (u2.get ha1) (.inr rfl) (hO1.ext u2) hn s2 (by simpa using hl) ?_;intro h3 F3 hW3 u3 k3;refine hk _ F3 hW3 ((u1.mono λb hb=>.inl (by simp at hb;simp[hb])).trans (u2.upd.trans u3)) λb hb=>?_;rcases k3 b hb with h'|h'
 ·exact .inl h'
 ·by_cases hba:b=a
  ·exact .inl (by simp[hba])
  ·have:=u2.none h';rw[o1 b hba] at this;exact .inr this
theorem buf_str{h:PH}{a:Nat}{e:Int}{p v:Value}{bs ys:List UInt8}{G:List Nat}(ha:h a=some (.cells #[.int .i64 e,p,v] fI (0,0)))(hp:p= .pointer none∨p=pT a 1)(hO:eD h dQ 1 v (bs.map jI) G)(hn:a∉G)
  (hl:bs.length+ys.length≤140737488355328) {k:PH->Prop} (hk:aGF h a (a::G) e (bs++ys) k):
  cY PG (Builtin.append_ #[dC,bR] dC #[v,.string (tx ys)]) h λv' h'=>cY PG (dJ dC (pT a 2) v') h' λ_ h''=>k h'':=by
 refine aM5 dC.und bR.und dQ.info dQ.size dQ.bytes dQ.zero rfl (by decide) hO (by simp;omega) ?_;intro v2 h2 F2 hO2 u2 k2 _;rw[←qX] at hO2;have ha2:=u2.get ha hn;have hn2:a∉F2:=λhm=>by
  rcases k2 a hm with h1|h1
  ·exact hn h1
  ·rw[ha] at h1;cases h1
 refine iT dC.und rfl ha2 (by simp) ?_ dC.info dC.size ?_
 ·obtain⟨_,_,rfl,-⟩:=hO2.slR.here;rfl
 ·refine hk _ (a::F2) ⟨p,v2,F2,dM,hp,hO2.upd (cU.set (F:=[a]) (by simp)) (λb hb=>by simp;rintro rfl;exact hn2 hb),rfl,hn2⟩ ((u2.mono λb hb=>.inl (by simp[hb])).trans (cU.set (by simp))) (λb hb=>?_);rcases gL.1 hb with rfl|hb
  ·exact .inl (by simp)
  ·rcases k2 b hb with h1|h1
   ·exact .inl (by simp[h1])
   ·exact .inr h1
theorem WriteString_ok{h:PH}{a:Nat}{e:Int}{bs ys:List UInt8}{F:List Nat}(hW:WAt h a e bs F)(hl:bs.length+ys.length≤140737488355328){k:cD}(hk:aGF h a F e (bs++ys) (k (.tuple #[.int .i64 ys.length,.nilIface]))):
  aT PG kR #[pT a 1,.string (tx ys)] h k:=by
 obtain⟨p,v,G,ha,hp,hO,rfl,hn⟩:=hW;apply kO.call;unfold kO;refine copyCheck_ok ha hp λh1 ha1 u1 o1=>?_;have hc:dF h1 ⟨a,2,none⟩=some v:=by simp[dF,ha1]
 have hO1:=hO.upd u1 (λb hb hf=>by simp at hf;subst hf;exact hn hb);simp only[dH.f1,dC.load,hc,bR.len,iB,cG,reduceIte];refine buf_str ha1 (.inr rfl) hO1 hn hl ?_;intro h3 F3 hW3 u3 k3;refine hk _ F3 hW3 ((u1.mono λb hb=>.inl (by simp at hb;simp[hb])).trans u3) λb hb=>?_;rcases k3 b hb with h'|h'
 ·exact .inl h'
 ·by_cases hba:b=a
  ·exact .inl (by simp[hba])
  ·rw[o1 b hba] at h';exact .inr h'
theorem semE_loadBytes{h:PH}:∀(l:List UInt8) (a:Addr) (acc:ByteArray),a.spot=none->(∀j x,l[j]? =some x->dF h (a.add j)=some (.int .u8 x.toNat))->cE PG h (loadBytes a acc l.length)=some ⟨acc.data++l.toArray⟩
 | [],a,acc,_,_=>by show some acc=_;simp
 | x::xs,a,acc,hsp,hc=>by
  have h0:=hc 0 x rfl;have ha0:a.add 0=a:=by obtain⟨b,o,w⟩:=a;cases w<;>simp[Addr.add]
  rw[ha0] at h0;show(dF h a).bind _=_;rw[h0,aC4];show cE PG h (loadBytes (a.add 1) (acc.push ((x.toNat:Int).toNat.toUInt8)) xs.length)=_;rw[semE_loadBytes xs (a.add 1) _ (by obtain⟨b,o,w⟩:=a;simp at hsp;subst hsp;rw[lT]) λj y hy=>?_]
  ·congr 1;apply ByteArray.ext;show(acc.push _).data++xs.toArray=_;rw[ByteArray.data_push];apply zLv;simp
  ·have:=hc (j+1) y (by simpa using hy);have e:(a.add 1).add j=a.add (j+1):=by
    obtain⟨b,o,w⟩:=a;simp at hsp;subst hsp;rw[lT,lT,lT];congr 1;omega
   rw[e];exact this
theorem unsafeStr{h:PH}{g:Nat}{cs:Array Value}{bs:List UInt8}(hb:h g=some (.cells cs dQ (0,0)))(hle:bs.length≤cs.size)(hcs:cs.toList.take bs.length=bs.map λb=>Value.int .u8 b.toNat)(hne:bs≠[])(hmax:bs.length≤qN){k:cD}
  (hk:∀h',cU [g] h h'->k (.string (tx bs)) h'):cY PG (Builtin.unsafeString_ #[oA,bT] bR #[pT g 0,.int .i64 bs.length]) h k:=by
 have hl:bs.length≠0:=by simpa using hne
 have h63:¬((bs.length:Int)>IntKind.i64.max):=by
  have:IntKind.i64.max=9223372036854775807:=rfl;unfold qN at hmax;omega
 have hneg:¬(bs.length:Int)<0:=by omega
 have hz:¬(bs.length:Int)=0:=by omega
 have hdef:Builtin.unsafeString_ #[oA,bT] bR #[pT g 0,.int .i64 bs.length]=
   (do
    let n ←asInt (.int .i64 bs.length)
    if n<0 then runtimePanic (.error "unsafe.String: len out of range")
    if n>IntKind.i64.max then unsupported (.unsafePointer "String: a length above the largest int")
    if n=0 then pure (.string .empty)
    else if ←variablesAt ⟨g,0,none⟩ (←elemOf oA) n.toNat then do
     let s ←loadBytes ⟨g,0,none⟩ .empty n.toNat
     freeze ⟨g,0,none⟩ n.toNat
     pure (.string s)
    else unsupported (.unsafePointer "String: not so many bytes at ptr")):=rfl
 rw[hdef];have hs:jY h g=some (some (dQ,cs.size)):=by unfold jY;rw[hb]
 have hv:cE PG h (variablesAt ⟨g,0,none⟩ dQ bs.length)=some true:=by
  show(jY h g).bind _=_;rw[hs];have hc1:PG.cellsOf dQ=1:=by kernel_rfl
  have:=Go.Lib.liesAt_bytes (P:=PG) hc1 (cs.size/PG.cellsOf dQ) bs.length (by rw[hc1];simpa using hle);show some (liesAt PG PG.depth dQ (cs.size/PG.cellsOf dQ) 0 dQ bs.length)=some true;rw[this]
 have hlb:=semE_loadBytes (h:=h) bs ⟨g,0,none⟩ .empty rfl (λj x hx=>by
  rw[lT];unfold dF;simp only[hb,fJ];have hj:j<bs.length:=(zLz.1 hx).1;have:(cs.toList.take bs.length)[j]? =some (.int .u8 x.toNat):=by rw[hcs,wN,hx];rfl
  rw[aHy,if_pos hj] at this;simpa using this)
 have helem:cE PG h (elemOf oA)=some dQ:=by kernel_rfl
 simp only[asInt,asIntOf,pure_bind,map_pure,hneg,h63,hz,if_false,qF];refine iN helem ?_;refine iN hv ?_;simp only[if_true];refine iN hlb ?_;show(∃o,h g=some o)∧_;refine⟨⟨_,hb⟩,?_⟩;have hfin:=hk (mP h ⟨g,0,none⟩ bs.length) (λb o hbo hn=>by
  unfold mP;rw[if_neg hl,if_neg (by simpa using hn)];exact hbo)
 show k (.string _) _;have e:(⟨ByteArray.empty.data++bs.toArray⟩:ByteArray)=tx bs:=by apply ByteArray.ext;simp[tx]
 rw[e];exact hfin
theorem unsafeNone{h:PH}{q:Option Addr}:cE PG h (Builtin.unsafeString_ #[oA,bT] bR #[.pointer q,.int .i64 0])=some (.string (tx [])):=by
 cases q<;>rfl
theorem String_ok{h:PH}{a:Nat}{e:Int}{bs:List UInt8}{F:List Nat}(hW:WAt h a e bs F){k:cD}(hk:∀h',cU F h h'->k (.string (tx bs)) h'):
  aT PG kH #[pT a 1] h k:=by
 obtain⟨p,v,G,ha,hp,hO,rfl,hn⟩:=hW;have hc:dF h ⟨a,2,none⟩=some v:=by simp[dF,ha]
 have lv:=hO.slR.len (t':=bT) dC.und;rw[iU] at lv;apply kP.call;unfold kP;simp only[dH.f1,dC.load,hc,lv,cG,reduceIte];have hload:∀h',dF h' ⟨a,2,none⟩=some v->cE PG h' (loadAt dC (pT a 2))=some v:=λh' h1=>by rw[dC.load];exact h1
 rcases hO.here with⟨rfl,hr,rfl⟩|⟨g,cap,cs,rfl,rfl,hb,hle,hmax,hsz,htk⟩
 ·have hnil:bs=[]:=by simpa using hr
  subst hnil;refine cE.semH (a:=.pointer none) rfl ?_;refine⟨hc,?_⟩;refine cE.semH unsafeNone ?_;exact hk _ cU.refl
 ·simp only[iU] at *;by_cases hne:bs=[]
  ·subst hne;by_cases hc0:cap=0
   ·subst hc0;have hs:jY h g=some (some (dQ,cs.size)):=by unfold jY;rw[hb]
    show cY PG (viewAt g >>= _) h _;refine iN (a:=none) (by rw[show viewAt g=(viewAt g >>= λx=>pure x) by simp,semE_viewAt hs];rfl) ?_;refine iN (a:=dQ) (by kernel_rfl) ?_;intro r hr;have u:dD h (h.set r (.view ⟨g,0,none⟩ dQ)):=cU.new hr;refine⟨by rw[dF];simp[u.get ha],?_⟩;refine cE.semH unsafeNone ?_;exact hk _ u.upd
   ·refine cE.semH (a:=pT g 0) ?_ ?_
    ·show cE PG h (if cap≠0 then _ else _)=_;rw[if_pos hc0];rfl
    ·refine⟨hc,?_⟩;refine cE.semH unsafeNone ?_;exact hk _ cU.refl
  ·have hpos:0<bs.length:=aG2.2 hne;refine cE.semH (a:=pT g 0) ?_ ?_
   ·show cE PG h (if cap≠0 then _ else _)=_;rw[if_pos (by omega)];rfl
   ·refine⟨hc,?_⟩;rw[zL7,jI.flat] at htk;refine unsafeStr hb (by omega) htk hne (by omega) λh' u=>?_;exact hk _ (u.mono λb hb=>.inl (by simp at hb;simp[hb]))
structure WS(h0:PH)(F0:List Nat)(h:PH)(a:Nat)(e:Int)(bs:List UInt8)(F:List Nat):Prop where
 at_:WAt h a e bs F
 upd:cU F0 h0 h
 grow:∀b∈F,b∈F0∨h0 b=none
theorem WS.refl{h:PH}{a:Nat}{e:Int}{bs:List UInt8}{F:List Nat}(H:WAt h a e bs F):WS h F h a e bs F:=⟨H,cU.refl,λb hb=>.inl hb⟩
theorem WS.step{h0 h h':PH}{F0 F F':List Nat}{a:Nat}{e e':Int}{bs bs':List UInt8}(S:WS h0 F0 h a e bs F)(H:WAt h' a e' bs' F')(u:cU F h h')(g:∀b∈F',b∈F∨h b=none):WS h0 F0 h' a e' bs' F':=
 ⟨H,S.upd.then u S.grow,λb hb=>by
  rcases g b hb with h1|h1
  ·exact S.grow b h1
  ·by_cases hF:b∈F0
   ·exact .inl hF
   ·right;cases hh:h0 b with
    | none=>rfl
    | some o=>rw[S.upd.get hh hF] at h1;cases h1⟩
theorem WS.ext{h0 h h':PH}{F0 F:List Nat}{a:Nat}{e:Int}{bs:List UInt8}(S:WS h0 F0 h a e bs F)(u:dD h h'):WS h0 F0 h' a e bs F:=S.step (S.at_.ext u) u.upd (λb hb=>.inl hb)
theorem WS.next{h:PH}{a:Nat}{F:List Nat}{e:Int}{bs:List UInt8}{k:PH->Prop}(hk:aGF h a F e bs k){h':PH}{F':List Nat}(S:WS h F h' a e bs F'):k h':=hk h' F' S.at_ S.upd S.grow
theorem aRS(x:Int):cV PG (convert bT cA (.int .i64 x))=some (.int .u64 (IntKind.u64.wrap x)):=by kernel_rfl
theorem aWZ(x:Int):cV PG (convert cA dQ (.int .u64 x))=some (.int .u8 (IntKind.u8.wrap x)):=by kernel_rfl
theorem aIW(x:Int):cV PG (convert cA bT (.int .u64 x))=some (.int .i64 (IntKind.i64.wrap x)):=by kernel_rfl
theorem aRl(x:Int):cV PG (convert dQ cA (.int .u8 x))=some (.int .u64 (IntKind.u64.wrap x)):=by kernel_rfl
theorem aUG{n k:Nat}(hk:k<8):((n:Int).fdiv (2^(min (((8*k:Nat):Int)).toNat IntKind.u64.bits)))=((n/256^k:Nat):Int):=by
 have e1:min (((8*k:Nat):Int)).toNat IntKind.u64.bits=8*k:=by
  have:IntKind.u64.bits=64:=rfl;rw[this];omega
 have e2:(2:Nat)^(8*k)=256^k:=by rw[Nat.pow_mul]
 rw[e1];have e3:((2:Int)^(8*k))=((256^k:Nat):Int):=by
  rw[←e2];exact(Int.natCast_pow 2 (8*k)).symm
 rw[e3,Int.fdiv_eq_ediv_of_nonneg _ (Int.natCast_nonneg _)];exact(Int.natCast_ediv n (256^k)).symm
theorem aPx{h:PH}{a:Nat}{e:Int}{bs:List UInt8}{F:List Nat}(hW:WAt h a e bs F){n c:Nat}(hc:c≤8)(hn:n<18446744073709551616)(hl:bs.length≤140737488355000){k:cD}(hk:aGF h a F e (bs++be n c) (k (.tuple #[]))):
  aT PG xS #[pT a 0,.int .u64 n,.int .i64 c] h k:=by
 apply xW.call;unfold xW;have e0:IntKind.i64.wrap ((c:Int)-1)=(c:Int)-1:=eX (by omega) (by omega);simp only[e0,cG,reduceIte];refine⟨λvs h'=>∃(i:Nat) (F':List Nat),i≤c∧vs=[pT a 0,.int .u64 n,.int .i64 ((c:Int)-1-i)]∧WS h F h' a e (bs++(be n c).take i) F',λvs _=>match vs with|[_,_,.int _ j]=>(j+1).toNat|_=>0,⟨0,F,by omega,by simp,by simpa using WS.refl hW⟩,?_⟩;rintro ρ h' ⟨i,F',hi,hvs,S⟩;simp only[iJ,iV,kW,and_true] at hvs;obtain⟨s0,s1,s2⟩:=hvs;rw[s0,s1,s2];unfold aHc;by_cases hlt:i<c
 ·have hd:(0≤(c:Int)-1-i)=True:=by apply eq_true;omega
  obtain⟨q,hq⟩:∃q:Nat,c-1-i=q:=⟨_,rfl⟩;have hqi:(c:Int)-1-i=(q:Int):=by omega
  have e1:IntKind.i64.wrap (8*(q:Int))=((8*q:Nat):Int):=by rw[eX (by omega) (by omega)];omega
  have e2:IntKind.i64.wrap ((q:Int)-1)=(c:Int)-1-((i+1:Nat):Int):=by rw[eX (by omega) (by omega)];omega
  have h8:(0:Int)≤((8*q:Nat):Int):=by omega
  have e3:IntKind.u8.wrap (((n/256^q:Nat):Int))=((UInt8.ofNat (n/256^q%256)).toNat:Int):=by
   rw[aIX];simp
  rw[hqi] at hd ⊢;simp only[hd,fI.f1,fJ,e1,aIs h8,aUG (show q<8 by omega),aWZ,e3,e2,cG,reduceIte];have hlen:(bs++(be n c).take i).length≤140737488355100:=by
   rw[jR,uX,iD];omega
  refine WriteByte_ok S.at_ (by omega) _ λh3 F3 hW3 u3 k3=>?_;have ht:=aIj (n:=n) hlt;rw[hq] at ht;rw[mR,←ht] at hW3;exact⟨⟨i+1,F3,by omega,rfl,S.step hW3 u3 k3⟩,by simp[s2];omega⟩
 ·have hd:(0≤(c:Int)-1-i)=False:=by apply eq_false;omega
  rw[mU (by rw[iD];omega)] at S;simp only[hd,cG,reduceIte];exact S.next hk
theorem aRn{h:PH}{a:Nat}{e:Int}{bs:List UInt8}{F:List Nat}(hW:WAt h a e bs F)(x:Int){k:cD}(hk:aGF h a F (if e=0 then x else e) bs (k (.tuple #[]))):
  aT PG lD #[pT a 0,.int .i64 x] h k:=by
 have hW':=hW;obtain⟨p,v,G,ha,hp,hO,rfl,hn⟩:=hW;have hc:dF h ⟨a,0,none⟩=some (.int .i64 e):=by simp[dF,ha]
 apply pZ.call;unfold pZ;by_cases h0:e=0
 ·have q:(e==0)=true:=by simp[h0]
  rw[if_pos h0] at hk;simp only[nM.f0,fW.load,hc,q,cG,reduceIte];refine iT fW.und rfl ha (by simp) rfl fW.info fW.size ?_;refine hk _ (a::G) ⟨p,v,G,dM,hp,hO.upd (cU.set (F:=[a]) (by simp)) (λb hb=>by simp;rintro rfl;exact hn hb),rfl,hn⟩ (cU.set (by simp)) (λb hb=>.inl hb)
 ·have q:(e==0)=false:=by simp[h0]
  rw[if_neg h0] at hk;simp only[nM.f0,fW.load,hc,q,cG,reduceIte];exact hk _ _ hW' cU.refl (λb hb=>.inl hb)
def aGu(s:Int×List UInt8)(n:Int):Int×List UInt8:=if 0≤n∧n≤255 then(s.1,s.2++be n.toNat 1) else(if s.1=0 then 1 else s.1,s.2)
def aJQ(s:Int×List UInt8)(l:List UInt8):Int×List UInt8:=if l.length≤65535 then(s.1,s.2++(be l.length 2++l)) else(if s.1=0 then 1 else s.1,s.2)
theorem aW9{h:PH}{a:Nat}{e:Int}{bs:List UInt8}{F:List Nat}(hW:WAt h a e bs F)(hl:bs.length≤140737488355000)(n:Int){k:cD}(hk:aGF h a F (aGu (e,bs) n).1 (aGu (e,bs) n).2 (k (.tuple #[]))):
  aT PG nL #[pT a 0,.int .i64 n] h k:=by
 apply aDE.call;unfold aDE;unfold aGu at hk;have bad:¬(0≤n∧n≤255)->aT PG lD #[pT a 0,.int .i64 1] h λv12 h13=>k (.tuple #[]) h13:=by
  intro hb;rw[if_neg hb] at hk;exact aRn hW 1 hk
 by_cases h1:n<0
 ·simp only[h1,fI.f0,cG,reduceIte];exact bad (by omega)
 ·by_cases h2:255<n
  ·simp only[h1,h2,fI.f0,cG,reduceIte];exact bad (by omega)
  ·rw[if_pos (by omega)] at hk;obtain⟨m,rfl⟩:=zLn (a:=n) (by omega);have e1:IntKind.u64.wrap (m:Int)=(m:Int):=gJ (by omega) (by omega);simp only[h1,h2,aRS,e1,cG,reduceIte];exact aPx hW (c:=1) (by omega) (by omega) hl hk
theorem aTa{h:PH}{a:Nat}{e:Int}{bs:List UInt8}{F:List Nat}(hW:WAt h a e bs F)(hl:bs.length≤140737488355000){n:Nat}(hn:n<18446744073709551616){k:cD}(hk:aGF h a F e (bs++be n 8) (k (.tuple #[]))):
  aT PG mK #[pT a 0,.int .u64 n] h k:=by
 apply aA6.call;unfold aA6;exact aPx hW (c:=8) (by omega) hn hl hk
theorem aQ9{h:PH}{a:Nat}{e:Int}{bs ys:List UInt8}{F:List Nat}(hW:WAt h a e bs F)(hl:bs.length+ys.length≤140737488355328){k:cD}(hk:aGF h a F e (bs++ys) (k (.tuple #[]))):
  aT PG tB #[pT a 0,.string (tx ys)] h k:=by
 apply aEB.call;unfold aEB;simp only[fI.f1,fJ,cG,reduceIte];exact WriteString_ok hW hl hk
theorem aXD{h:PH}{a:Nat}{e:Int}{bs ys:List UInt8}{F:List Nat}(hW:WAt h a e bs F)(hl:bs.length≤140737488200000){k:cD}(hk:aGF h a F (aJQ (e,bs) ys).1 (aJQ (e,bs) ys).2 (k (.tuple #[]))):
  aT PG rI #[pT a 0,.string (tx ys)] h k:=by
 apply aCy.call;unfold aCy;unfold aJQ at hk;by_cases h1:ys.length≤65535
 ·have q:((65535:Int)<(ys.length:Int))=False:=by apply eq_false;omega
  rw[if_pos h1] at hk;have e1:IntKind.u64.wrap (ys.length:Int)=(ys.length:Int):=gJ (by omega) (by omega);simp only[bR.len,iB,q,aRS,e1,cG,reduceIte];refine aPx hW (c:=2) (by omega) (by omega) (by omega) λh2 F2 hW2 u2 k2=>?_;have hl2:=iD ys.length 2;refine aQ9 hW2 (by rw[jR,hl2];omega) λh3 F3 hW3 u3 k3=>?_;rw[mR] at hW3;exact WS.next hk (((WS.refl hW).step hW2 u2 k2).step hW3 u3 k3)
 ·have q:((65535:Int)<(ys.length:Int))=True:=by apply eq_true;omega
  rw[if_neg h1] at hk;simp only[bR.len,iB,q,fI.f0,cG,reduceIte];exact aRn hW 1 hk
theorem aLz{h:PH}{a:Nat}{e:Int}{c:Array Value}{T:TypeId}{fr:Nat×Nat}(ha:h a=some (.cells c T fr))(hc:c[0]? =some (.int .i64 e)){k:cD}(hk:k (.int .i64 e) h):aT PG nZ #[pT a 0] h k:=by
 apply aDx.call;unfold aDx;have hc':dF h ⟨a,0,none⟩=some (.int .i64 e):=by simp[dF,ha,hc]
 simp only[nM.f0,fW.load,hc',cG,reduceIte];exact hk
def aIw(s:Int×List UInt8):List UInt8×Int:=if s.1=0 then(s.2,0) else([],s.1)
theorem aMu{h:PH}{a:Nat}{e:Int}{bs:List UInt8}{F:List Nat}(hW:WAt h a e bs F){k:cD}(hk:∀h',cU F h h'->k (.tuple #[.string (tx (aIw (e,bs)).1),.int .i64 (aIw (e,bs)).2]) h'):
  aT PG tU #[pT a 0] h k:=by
 have hW':=hW;obtain⟨p,v,G,ha,hp,hO,rfl,hn⟩:=hW;apply aB8.call;unfold aB8;unfold aIw at hk;simp only[fI.f0,fI.f1,fJ,cG,reduceIte];refine aLz ha rfl ?_;by_cases h0:e=0
 ·have q:(e !=0)=false:=by simp[h0]
  rw[if_pos h0] at hk;simp only[q,cG,reduceIte];exact String_ok hW' hk
 ·have q:(e !=0)=true:=by simp[h0]
  rw[if_neg h0] at hk;simp only[q,cG,reduceIte];exact hk _ cU.refl
theorem aYq{t:TypeId}{x b:Nat}(hx:x*256+255<18446744073709551616)(hb:b<256):cV PG (binOp .or t (.int .u64 ((x*256:Nat):Int)) (.int .u64 (b:Int)))=some (.int .u64 ((x*256+b:Nat):Int)):=by
 have e:cV PG (binOp .or t (.int .u64 ((x*256:Nat):Int)) (.int .u64 (b:Int)))=some (.int .u64 (IntKind.u64.wrap ((BitVec.ofInt IntKind.u64.bits ((x*256:Nat):Int) ||| BitVec.ofInt IntKind.u64.bits (b:Int)).toNat))):=rfl;rw[e];congr 2;have h64:IntKind.u64.bits=64:=rfl;rw[h64,BitVec.toNat_or,BitVec.ofInt_natCast,BitVec.ofInt_natCast,BitVec.toNat_ofNat,BitVec.toNat_ofNat,aCZ (by omega),aCZ (by omega)];have:=Nat.shiftLeft_add_eq_or_of_lt (i:=8) (b:=b) (by omega) x;rw[Nat.shiftLeft_eq] at this;have e2:(x*256 ||| b)=x*256+b:=this.symm;rw[e2,gJ (by omega) (by omega)]
structure qY(h:PH)(a:Nat)(e:Int)(s:List UInt8):Prop where
 here:h a=some (.cells #[.int .i64 e,.string (tx s)] gH (0,0))
theorem qY.upd{h h':PH}{a:Nat}{e:Int}{s:List UInt8}{G:List Nat}(H:qY h a e s)(u:cU G h h')(hd:a∉G):qY h' a e s:=⟨u.get H.here hd⟩
theorem qY.ext{h h':PH}{a:Nat}{e:Int}{s:List UInt8}(H:qY h a e s)(u:dD h h'):qY h' a e s:=H.upd u (by simp)
theorem aPc{h:PH}(s:List UInt8){k:cD}(hk:∀a h',qY h' a 0 s->dD h h'->h a=none->k (pT a 0) h'):aT PG aFA #[.string (tx s)] h k:=by
 apply aEm.call;unfold aEm;have e1:cV PG (build gH #[(1,.string (tx s))])=some (.agg #[.int .i64 0,.string (tx s)]):=by kernel_rfl
 simp only[e1,cG,reduceIte];intro r hr;exact hk r _ ⟨dM⟩ (cU.new hr) hr
def jQ(st:Int×List UInt8)(n:Int):List UInt8×(Int×List UInt8):=
 if st.1=0∧0≤n∧n≤st.2.length then(st.2.take n.toNat,(0,st.2.drop n.toNat)) else([],(if st.1=0 then 6 else st.1,st.2))
theorem aQJ{h:PH}{a:Nat}{e:Int}{s:List UInt8}(hR:qY h a e s)(n:Int){k:cD}(hk:∀h',qY h' a (jQ (e,s) n).2.1 (jQ (e,s) n).2.2->cU [a] h h'->k (.string (tx (jQ (e,s) n).1)) h'):
  aT PG xM #[pT a 0,.int .i64 n] h k:=by
 have ha:=hR.here;have c1:dF h ⟨a,1,none⟩=some (.string (tx s)):=by simp[dF,ha]
 have c0:dF h ⟨a,0,none⟩=some (.int .i64 e):=by simp[dF,ha]
 apply aDy.call;unfold aDy;have tail:∀(e':Int),(e'≠0->∀h',h' a=some (.cells #[.int .i64 e',.string (tx s)] gH (0,0))->cU [a] h h'->k (.string (tx [])) h')->(e'=0->0≤n∧n≤s.length)->(e'=0->e=0)->∀h',h' a=some (.cells #[.int .i64 e',.string (tx s)] gH (0,0))->cU [a] h h'->vU k (pT a 0) (.int .i64 n) h':=by
  intro e' hbad hgood he h' ha' u';unfold vU;simp only[gH.f0,gH.f1,fJ,cG,reduceIte];refine aLz ha' rfl ?_;by_cases h0:e'=0
  ·have q:(e' !=0)=false:=by simp[h0]
   obtain⟨g1,g2⟩:=hgood h0;have c1':dF h' ⟨a,1,none⟩=some (.string (tx s)):=by simp[dF,ha']
   obtain⟨m,rfl⟩:=zLn g1;have hm:m≤s.length:=by omega
   simp only[q,gH.f1,fJ,bR.load,c1',aHv (lo:=none) bR.und (.inl ⟨rfl,rfl⟩) (.inr ⟨.i64,rfl⟩) (Nat.zero_le m) hm,aHv (hi:=none) bR.und (.inr ⟨.i64,rfl⟩) (.inl ⟨rfl,rfl⟩) hm (oM _),cG,reduceIte];refine iT bR.und rfl ha' (by simp) rfl bR.info bR.size ?_;have hr:jQ (e,s) (m:Int)=(s.take m,(0,s.drop m)):=by
    unfold jQ;rw[if_pos ⟨he h0,by omega,by simpa using hm⟩];simp
   rw[hr] at hk;rw[zLb,mU (oM _)];refine hk _ ⟨?_⟩ (u'.trans (cU.set (by simp)));rw[dM,h0];rfl
  ·have q:(e' !=0)=true:=by simp[h0]
   simp only[q,cG,reduceIte];exact hbad h0 h' ha' u'
 have hin:e=0->¬(0≤n∧n≤s.length)->jQ (e,s) n=([],(6,s)):=λh0 hb=>by
  unfold jQ;rw[if_neg (by rintro⟨_,h2⟩;exact hb h2),if_pos h0]
 have hne:e≠0->jQ (e,s) n=([],(e,s)):=λh0=>by
  unfold jQ;rw[if_neg (by rintro⟨h1,_⟩;exact h0 h1),if_neg h0]
 have fails:¬(0≤n∧n≤s.length)->aT PG lD #[pT a 0,.int .i64 6] h λv h'=>vU k (pT a 0) (.int .i64 n) h':=by
  intro hb;apply pZ.call;unfold pZ;by_cases h0:e=0
  ·have q:(e==0)=true:=by simp[h0]
   simp only[nM.f0,fW.load,c0,q,cG,reduceIte];refine iT fW.und rfl ha (by simp) rfl fW.info fW.size ?_;refine tail 6 (λ_ h' ha' u'=>?_) (λh=>absurd h (by decide)) (λh=>absurd h (by decide)) _ dM (cU.set (by simp));have:=hk h';rw[hin h0 hb] at this;exact this ⟨ha'⟩ u'
  ·have q:(e==0)=false:=by simp[h0]
   simp only[nM.f0,fW.load,c0,q,cG,reduceIte];refine tail e (λ_ h' ha' u'=>?_) (λh1=>absurd h1 h0) (λh1=>h1) _ ha cU.refl;have:=hk h';rw[hne h0] at this;exact this ⟨ha'⟩ u'
 by_cases h1:n<0
 ·simp only[h1,gH.f0,cG,reduceIte];exact fails (by omega)
 ·by_cases h2:(s.length:Int)<n
  ·simp only[h1,gH.f0,gH.f1,fJ,bR.load,c1,bR.len,iB,h2,cG,reduceIte];exact fails (by omega)
  ·simp only[h1,gH.f1,fJ,bR.load,c1,bR.len,iB,h2,cG,reduceIte];refine tail e (λh0 h' ha' u'=>?_) (λ_=>by omega) (λh1=>h1) _ ha cU.refl;have:=hk h';rw[hne h0] at this;exact this ⟨ha'⟩ u'
def gQ(st:Int×List UInt8)(c:Nat):Nat×(Int×List UInt8):=(val (jQ st c).1,(jQ st c).2)
theorem aIt(st:Int×List UInt8)(c:Nat):(jQ st c).1.length≤c:=by
 unfold jQ;split
 ·simp;omega
 ·simp
theorem aQc{l:List UInt8}{i:Nat}{b:UInt8}(hb:l[i]? =some b):val (l.take (i+1))=val (l.take i)*256+b.toNat:=by
 rw[zLT,hb];exact aKp _ _
theorem aOz{l:List UInt8}{i:Nat}(hi:i<l.length)(hl:l.length≤8):val (l.take i)*256+255<18446744073709551616:=by
 have h1:=aNl (l.take i);rw[uX,aJm (by omega)] at h1;have h2:256^i≤256^7:=aKT (by decide) (by omega);have h3:(256:Nat)^7=72057594037927936:=by decide
 omega
theorem aQo{h:PH}{a:Nat}{e:Int}{s:List UInt8}(hR:qY h a e s){c:Nat}(hc:c≤8){k:cD}(hk:∀h',qY h' a (gQ (e,s) c).2.1 (gQ (e,s) c).2.2->cU [a] h h'->k (.int .u64 (gQ (e,s) c).1) h'):
  aT PG xG #[pT a 0,.int .i64 c] h k:=by
 apply aD0.call;unfold aD0;refine aQJ hR c λh1 hR1 u1=>?_;have hlen:=aIt (e,s) c;unfold gQ at hk;generalize hrr:jQ (e,s) (c:Int)=rr at *;refine aUe bR.und dC.und dQ.und (by omega) λv h2 hS u2=>?_;have lv:=hS.len (t':=bT) dC.und;rw[iU] at lv;simp only[lv,cG,reduceIte];refine⟨λvs h'=>∃i:Nat,i≤rr.1.length∧vs=[.int .u64 (val (rr.1.take i)),v,.int .i64 rr.1.length,.int .i64 i]∧h'=h2,gY rr.1.length 3,⟨0,by omega,rfl,rfl⟩,?_⟩;rintro ρ h' ⟨i,hi,hvs,rfl⟩;simp only[iJ,iV,kW,and_true] at hvs;obtain⟨s0,s1,s2,s3⟩:=hvs;rw[s0,s1,s2,s3];unfold aHb;by_cases hlt:i<rr.1.length
 ·have hd:((i:Int)<(rr.1.length:Int))=True:=by apply eq_true;omega
  obtain⟨b,hb⟩:∃b,rr.1[i]? =some b:=⟨_,lU hlt⟩;obtain⟨p,p1,p2⟩:=hS.loadCell dC.und dQ.info dQ.size dQ.und rfl (k:=.i64) (j:=(i:Int)) (x:=.int .u8 b.toNat) (by omega) (by simp[wN,hb,jI]);have hsm:=aOz hlt (by omega);have ei:=qG (i:=i) (by omega);have e1:min (8:Int).toNat IntKind.u64.bits=8:=by decide
  have e2:IntKind.u64.wrap ((val (rr.1.take i):Int)*2^8)=((val (rr.1.take i)*256:Nat):Int):=by rw[gJ (by omega) (by omega)];omega
  have hb8:=b.toNat_lt;have e3:IntKind.u64.wrap (b.toNat:Int)=(b.toNat:Int):=gJ (by omega) (by omega);simp only[hd,p1,p2,aQI (show(0:Int)≤8 by decide),e1,e2,aRl,e3,aYq hsm hb8,ei,cG,reduceIte];exact⟨⟨i+1,by omega,by rw[aQc hb],by trivial⟩,by simp[gY,s3];omega⟩
 ·have hd:((i:Int)<(rr.1.length:Int))=False:=by apply eq_false;omega
  rw[mU (by omega)];simp only[hd,cG,reduceIte];exact hk _ (hR1.ext u2) (u1.trans u2.upd)
theorem aMs{h:PH}{a:Nat}{e:Int}{s:List UInt8}(hR:qY h a e s){k:cD}(hk:∀h',qY h' a (gQ (e,s) 1).2.1 (gQ (e,s) 1).2.2->cU [a] h h'->k (.int .i64 (gQ (e,s) 1).1) h'):
  aT PG vV #[pT a 0] h k:=by
 apply aCv.call;unfold aCv;refine aQo hR (c:=1) (by omega) λh1 hR1 u1=>?_;have hlt:=aNl (jQ (e,s) ((1:Nat):Int)).1;have hlen:=aIt (e,s) 1;have h2:256^(jQ (e,s) ((1:Nat):Int)).1.length≤256^1:=aKT (by decide) hlen;have e1:IntKind.i64.wrap ((gQ (e,s) 1).1:Int)=((gQ (e,s) 1).1:Int):=by unfold gQ;rw[eX (by omega) (by omega)]
 simp only[aIW,e1,cG,reduceIte];exact hk _ hR1 u1
theorem aRu{h:PH}{a:Nat}{e:Int}{s:List UInt8}(hR:qY h a e s){k:cD}(hk:∀h',qY h' a (gQ (e,s) 8).2.1 (gQ (e,s) 8).2.2->cU [a] h h'->k (.int .u64 (gQ (e,s) 8).1) h'):
  aT PG aCa #[pT a 0] h k:=by
 apply aBN.call;unfold aBN;exact aQo hR (c:=8) (by omega) hk
def mH(st:Int×List UInt8):List UInt8×(Int×List UInt8):=jQ (gQ st 2).2 (gQ st 2).1
theorem aHG(st:Int×List UInt8)(c:Nat):(gQ st c).1<256^c:=by
 unfold gQ;have hlt:=aNl (jQ st (c:Int)).1;exact aKh hlt (aKT (by decide) (aIt st c))
theorem aPo{h:PH}{a:Nat}{e:Int}{s:List UInt8}(hR:qY h a e s){k:cD}(hk:∀h',qY h' a (mH (e,s)).2.1 (mH (e,s)).2.2->cU [a] h h'->k (.string (tx (mH (e,s)).1)) h'):
  aT PG aAg #[pT a 0] h k:=by
 apply aDG.call;unfold aDG;refine aQo hR (c:=2) (by omega) λh1 hR1 u1=>?_;have hlt:=aHG (e,s) 2;have e1:IntKind.i64.wrap ((gQ (e,s) 2).1:Int)=((gQ (e,s) 2).1:Int):=by rw[eX (by omega) (by omega)]
 simp only[aIW,e1,cG,reduceIte];exact aQJ hR1 _ λh2 hR2 u2=>hk _ hR2 (u1.trans u2)
theorem aUj{h:PH}{a:Nat}{e:Int}{s:List UInt8}(hR:qY h a e s){k:cD}(hk:k (.int .i64 (if e=0 then(s.length:Int) else 0)) h):
  aT PG aDi #[pT a 0] h k:=by
 have ha:=hR.here;have c1:dF h ⟨a,1,none⟩=some (.string (tx s)):=by simp[dF,ha]
 apply aCx.call;unfold aCx;simp only[gH.f0,cG,reduceIte];refine aLz ha rfl ?_;by_cases h0:e=0
 ·have q:(e !=0)=false:=by simp[h0]
  rw[if_pos h0] at hk;simp only[q,gH.f1,fJ,bR.load,c1,bR.len,iB,cG,reduceIte];exact hk
 ·have q:(e !=0)=true:=by simp[h0]
  rw[if_neg h0] at hk;simp only[q,cG,reduceIte];exact hk
abbrev kM:=Int×List UInt8
def aH2(st:kM)(n:Nat):kM:=(st.1,st.2++be n 8)
theorem aTU(st:kM)(n:Int):(aGu st n).2.length≤st.2.length+1:=by
 unfold aGu;split<;>simp[iD]
theorem aQZ(st:kM)(n:Nat):(aH2 st n).2.length≤st.2.length+8:=by simp[aH2,iD]
abbrev WN(h0:PH)(h:PH)(a:Nat)(st:kM)(F:List Nat):Prop:=WS h0 [] h a st.1 st.2 F
theorem WN.upd{h0 h:PH}{a:Nat}{st:kM}{F:List Nat}(S:WN h0 h a st F):dD h0 h:=WS.upd S
theorem WN.fresh{h0 h:PH}{a:Nat}{st:kM}{F:List Nat}(S:WN h0 h a st F):dZ h0 F:=λb hb=>by
 rcases S.grow b hb with h1|h1
 ·cases h1
 ·exact h1
def aEI(h:PH)(F:List Nat)(h':PH)(F':List Nat):Prop:=∀r o,h r=some o->r∉F->h' r=some o∧r∉F'
theorem aNA{h h':PH}{F F':List Nat}(u:cU F h h')(g:∀b∈F',b∈F∨h b=none):aEI h F h' F':=λr o hr hn=>⟨u.get hr hn,λhm=>by
 rcases g r hm with h1|h1
 ·exact hn h1
 ·rw[h1] at hr;cases hr⟩
theorem aLu{h0 h:PH}{a:Nat}{st:kM}{F:List Nat}(S:WN h0 h a st F)(hl:st.2.length≤1000000000)(n:Int){k:cD}(hk:∀h' F' x,x=aGu st n->WN h0 h' a x F'->aEI h F h' F'->k (.tuple #[]) h'):aT PG nL #[pT a 0,.int .i64 n] h k:=
 aW9 S.at_ (by omega) n λh' F' hW u g=>hk h' F' _ rfl (S.step hW u g) (aNA u g)
theorem aIv{h0 h:PH}{a:Nat}{st:kM}{F:List Nat}(S:WN h0 h a st F)(hl:st.2.length≤1000000000){n:Nat}(hn:n<18446744073709551616){k:cD}(hk:∀h' F' x,x=aH2 st n->WN h0 h' a x F'->aEI h F h' F'->k (.tuple #[]) h'):aT PG mK #[pT a 0,.int .u64 n] h k:=
 aTa S.at_ (by omega) hn λh' F' hW u g=>hk h' F' (aH2 st n) rfl (S.step hW u g) (aNA u g)
theorem aQb{h0 h:PH}{a:Nat}{st:kM}{F:List Nat}(S:WN h0 h a st F)(hl:st.2.length≤1000000000)(ys:List UInt8){k:cD}(hk:∀h' F' x,x=aJQ st ys->WN h0 h' a x F'->aEI h F h' F'->k (.tuple #[]) h'):aT PG rI #[pT a 0,.string (tx ys)] h k:=
 aXD S.at_ (by omega) λh' F' hW u g=>hk h' F' _ rfl (S.step hW u g) (aNA u g)
theorem WN.box{h0 h:PH}{a:Nat}{st:kM}{F:List Nat}(S:WN h0 h a st F){r:Nat}(hr:h r=none):r∉F:=λhm=>S.at_.known r hm hr
theorem WN.new{h0 h:PH}{a:Nat}{st:kM}{F:List Nat}(S:WN h0 h a st F){r:Nat}(hr:h r=none)(o:Obj):WN h0 (h.set r o) a st F:=WS.ext S (cU.new hr)
theorem zW:dL PG fI= #[.int .i64 0,.pointer none,.slice none 0 0]:=by rw[fI.zc];rfl
theorem WN.start{h:PH}{r:Nat}(hr:h r=none):WN h (h.set r (.cells (dL PG fI) fI)) r (0,[]) [r]:=by
 have hW:WAt (h.set r (.cells (dL PG fI) fI)) r 0 [] [r]:=by
  rw[zW];exact⟨_,_,[],dM,.inl rfl,eD.nil,rfl,by simp⟩
 exact⟨hW,cU.new hr,λb hb=>.inr (by simp only[fU] at hb;subst hb;exact hr)⟩
theorem aVk{h0 h:PH}{a:Nat}{st:kM}{F:List Nat}(S:WN h0 h a st F)(hl:st.2.length≤1000000000){ys:List UInt8}(hy:ys.length≤1000000000){k:cD}(hk:∀h' F' x,x=(st.1,st.2++ys)->WN h0 h' a x F'->aEI h F h' F'->k (.tuple #[]) h'):aT PG tB #[pT a 0,.string (tx ys)] h k:=
 aQ9 S.at_ (by omega) λh' F' hW u g=>hk h' F' (st.1,st.2++ys) rfl (S.step hW u g) (aNA u g)
def Pk.tx(p:Pk):Tx:=p.d.data.toList
def wPk(st:kM)(p:Pk):kM:=if p.right then aJQ (aH2 (aH2 (aGu st p.f) p.s.toNat) p.t.toNat) p.tx else aGu st (-1)
structure Pl where
 h:Int
 i:Int
 deriving DecidableEq
def Pl.cells(q:Pl):List Value:=[.int .u64 q.h,.int .i64 q.i]
def Pl.zero:Pl:=⟨0,0⟩
def Pk.bs(p:Pk):Tx:=be p.f.toNat 1++(be p.s.toNat 8++(be p.t.toNat 8++(be p.tx.length 2++p.tx)))
theorem aQf(p:Pk):p.tx.length=p.d.size:=rfl
theorem Pk.right_iff{p:Pk}:p.right=true↔0≤p.f∧p.f≤1∧p.s≠0∧p.t≠0∧p.d.size≤64:=by
 unfold Pk.right;simp only[yB,decide_eq_true_eq,and_assoc]
theorem aU4{p:Pk}(h:p.right=true)(b:Tx):wPk (0,b) p=(0,b++p.bs):=by
 obtain⟨h1,h2,-,-,h5⟩:=Pk.right_iff.1 h;unfold wPk;rw[if_pos h];unfold aGu aH2 aJQ;rw[if_pos (show p.tx.length≤65535 by rw[aQf];omega),if_pos (show 0≤p.f∧p.f≤255 from⟨h1,by omega⟩)];simp only[Pk.bs,mR]
theorem aTV{p:Pk}(h:p.right=false)(b:Tx):(wPk (0,b) p).1=1:=by
 unfold wPk;rw[if_neg (by simp[h])];rfl
def aV2(x:Int×Pk):Prop:=0≤x.1∧x.1≤255∧x.2.right=true
instance (x:Int×Pk):Decidable (aV2 x):=by unfold aV2;infer_instance
def aYF(q:Pl):Prop:=0≤q.i∧q.i≤65535
instance (q:Pl):Decidable (aYF q):=by unfold aYF;infer_instance
def Pl.bs(q:Pl):Tx:=be q.h.toNat 8++be q.i.toNat 8
def aKZ(st:kM)(e:Int):kM:=(if st.1=0 then e else st.1,st.2)
structure aHM{α:Type}(R:kM->α×kM)(bs:Tx)(v:α):Prop where
 all:∀rest,R (0,bs++rest)=(v,(0,rest))
 cut:∀n,n<bs.length->(R (0,bs.take n)).2.1=6
def aNQ{α:Type}(R:kM->α×kM):Prop:=∀e s,e≠0->(R (e,s)).2.1=e
theorem aNQ.keep{α:Type}{R:kM->α×kM}(h:aNQ R){st:kM}{e:Int}(he:st.1=e)(h0:e≠0):(R st).2.1=e:=by
 obtain⟨a,b⟩:=st;simp only at he;subst he;exact h _ _ h0
theorem aHM.bind{α β γ:Type}{R:kM->α×kM}{S:α->kM->β×kM}{f:α->β->γ}{bs cs:Tx}{v:α}{w:β}(h1:aHM R bs v)(h2:aHM (S v) cs w)(hs:∀x,aNQ (S x)):
  aHM (λst=>(f (R st).1 (S (R st).1 (R st).2).1,(S (R st).1 (R st).2).2)) (bs++cs) (f v w):=by
 refine⟨λrest=>?_,λn hn=>?_⟩
 ·simp only[mR,h1.all,h2.all]
 ·simp only;by_cases hb:n<bs.length
  ·have e:(bs++cs).take n=bs.take n:=by rw[zLG (by omega)]
   rw[e];exact(hs _).keep (h1.cut n hb) (by decide)
  ·have e:(bs++cs).take n=bs++cs.take (n-bs.length):=by
    rw[List.take_append,mU (by omega)]
   rw[e,h1.all];exact h2.cut _ (by rw[jR] at hn;omega)
theorem aIN(l:Tx):aHM (λst=>jQ st (l.length:Int)) l l:=by
 refine⟨λrest=>?_,λn hn=>?_⟩
 ·unfold jQ;rw[if_pos ⟨rfl,by omega,by rw[jR];omega⟩];simp
 ·unfold jQ;rw[if_neg (by simp;omega)];rfl
theorem aQ2(n:Int):aNQ (λst=>jQ st n):=λe s h=>by
 simp only[jQ];rw[if_neg (by simp[h])];simp[h]
theorem wT{n c:Nat}(h:n<256^c):aHM (λst=>gQ st c) (be n c) n:=by
 have:=aIN (be n c);rw[iD] at this;refine⟨λrest=>?_,λm hm=>?_⟩
 ·unfold gQ;rw[this.all,aLv,aCZ h]
 ·unfold gQ;exact this.cut m hm
theorem aHY{l:Tx}(h:l.length≤65535):aHM mH (be l.length 2++l) l:=
 aHM.bind (R:=λst=>gQ st 2) (S:=λn st=>jQ st (n:Int)) (f:=λ_ w=>w) (wT (by omega)) (aIN l) λx=>aQ2 _
def Pk.wf(p:Pk):Prop:=0≤p.s∧p.s<18446744073709551616∧0≤p.t∧p.t<18446744073709551616
theorem aVh(p:Pk):tx p.tx=p.d:=aIY p.d
theorem aEI.refl{h:PH}{F:List Nat}:aEI h F h F:=λr o hr hn=>⟨hr,hn⟩
theorem aEI.trans{h h1 h2:PH}{F F1 F2:List Nat}(a:aEI h F h1 F1)(b:aEI h1 F1 h2 F2):aEI h F h2 F2:=λr o hr hn=>b r o (a r o hr hn).1 (a r o hr hn).2
theorem aEI.ext{h h1:PH}{F:List Nat}(u:dD h h1):aEI h F h1 F:=λr o hr hn=>⟨u.get hr,hn⟩
structure BK(h:PH)(F:List Nat)(r:Nat)(cs:List Value):Prop where
 bx:Bx h r cs
 out:r∉F
theorem BK.keep{h h':PH}{F F':List Nat}{r:Nat}{cs:List Value}(H:BK h F r cs)(K:aEI h F h' F'):BK h' F' r cs:=by
 obtain⟨e,h1⟩:=H.bx;exact⟨⟨e,(K r _ h1 H.out).1⟩,(K r _ h1 H.out).2⟩
theorem BK.ext{h h':PH}{F:List Nat}{r:Nat}{cs:List Value}(H:BK h F r cs)(u:dD h h'):BK h' F r cs:=⟨H.bx.ext u,H.out⟩
theorem aYm{h0 h:PH}{a:Nat}{st:kM}{F:List Nat}(S:WN h0 h a st F)(hl:st.2.length≤900000000)(p:Pk)(w:p.wf){k:cD}(hk:∀h' F',WN h0 h' a (wPk st p) F'->aEI h F h' F'->k (.tuple #[]) h'):
  aT PG aH5 #[pT a 0,.agg p.cells.toArray] h k:=by
 apply aIL.call;unfold aIL;intro r hr
 try rw[cZ]
 have S1:=S.new hr (.cells (Value.cells (.agg p.cells.toArray)) aR);have u1:dD h (h.set r (.cells (Value.cells (.agg p.cells.toArray)) aR)):=cU.new hr;have B1:BK (h.set r (.cells (Value.cells (.agg p.cells.toArray)) aR)) F r p.cells:=⟨Bx.new,S.box hr⟩;generalize h.set r (.cells (Value.cells (.agg p.cells.toArray)) aR)=h1 at *;have l1:cE PG h1 (loadAt aR (pT r 0))=some (.agg p.cells.toArray):=aR.agg B1.bx (by show 0+4≤4;decide);simp only[l1,cG,reduceIte];refine aKG p λh2 u2=>?_;have S2:=WS.ext S1 u2;have B2:=B1.ext u2;have K2:aEI h F h2 F:=aEI.ext (u1.trans u2);unfold wPk at hk;obtain⟨w1,w2,w3,w4⟩:=w;cases hp:p.right with
 | false=>
  rw[hp] at hk;simp only[zLt,if_false,kK,show((1:Int) !=0)=true from rfl,cG,reduceIte] at hk ⊢;exact aLu S2 (by omega) (-1) λh3 F3 x e S3 K3=>by subst e;exact hk _ _ S3 (K2.trans K3)
 | true=>
  rw[hp] at hk;have n1:((p.s.toNat:Nat):Int)=p.s:=Int.toNat_of_nonneg w1;have n2:((p.t.toNat:Nat):Int)=p.t:=Int.toNat_of_nonneg w3;have n3:p.d=tx p.tx:=(aVh p).symm;simp only[if_true,kK,show((0:Int) !=0)=false from rfl,aR.f0,bT.load,B2.bx.cell,Pk.cells,cG,reduceIte] at hk ⊢;refine aLu S2 (by omega) p.f λh3 F3 x3 e3 S3 K3=>?_;have B3:=B2.keep K3;have b3:=aTU st p.f;rw[←e3] at b3 hk;simp only[aR.f1,cA.load,B3.bx.cell,Pk.cells,fJ,cG,reduceIte];rw[←n1];refine aIv S3 (by omega) (n:=p.s.toNat) (by omega) λh4 F4 x4 e4 S4 K4=>?_;have B4:=B3.keep K4;have b4:=aQZ x3 p.s.toNat;rw[←e4] at b4 hk;simp only[aR.f2,cA.load,B4.bx.cell,Pk.cells,fJ,cG,reduceIte];rw[←n2];refine aIv S4 (by omega) (n:=p.t.toNat) (by omega) λh5 F5 x5 e5 S5 K5=>?_;have B5:=B4.keep K5;have b5:=aQZ x4 p.t.toNat;rw[←e5] at b5 hk;simp only[aR.f3,bR.load,B5.bx.cell,Pk.cells,fJ,cG,reduceIte];rw[n3];refine aQb S5 (by omega) p.tx λh6 F6 x6 e6 S6 K6=>?_;subst e6;exact hk _ _ S6 ((((K2.trans K3).trans K4).trans K5).trans K6)
theorem aIV(x:Int):cV PG (convert bT cA (.int .i64 x))=some (.int .u64 (IntKind.u64.wrap x)):=by kernel_rfl
theorem aNK{h:PH}{p:Pk}(w:p.wf)(hr:p.right=true){k:cD}(hk:∀h',dD h h'->k (.string (tx p.bs)) h'):aT PG yQ #[.agg p.cells.toArray] h k:=by
 obtain⟨r1,r2,-,-,r5⟩:=Pk.right_iff.1 hr;obtain⟨w1,w2,w3,w4⟩:=w;have ed:=aVh p;have el:=aQf p;obtain⟨f,s,t,d⟩:=p;obtain⟨f,rfl⟩:=zLn r1;obtain⟨s,rfl⟩:=zLn w1;obtain⟨t,rfl⟩:=zLn w3;simp only at r2 w2 w4 r5;unfold Pk.bs at hk;simp only[qF] at hk;generalize Pk.tx ⟨(f:Int),(s:Int),(t:Int),d⟩=l at *;subst ed;simp only[iB] at el r5;apply sS.call;unfold sS;intro r hr
 try rw[cZ]
 have u1:dD h (h.set r (.cells (Value.cells (.agg (Pk.cells ⟨(f:Int),(s:Int),(t:Int),tx l⟩).toArray)) aR)):=cU.new hr;have B1:Bx (h.set r (.cells (Value.cells (.agg (Pk.cells ⟨(f:Int),(s:Int),(t:Int),tx l⟩).toArray)) aR)) r (Pk.cells ⟨(f:Int),(s:Int),(t:Int),tx l⟩):=Bx.new;generalize h.set r (.cells (Value.cells (.agg (Pk.cells ⟨(f:Int),(s:Int),(t:Int),tx l⟩).toArray)) aR)=h1 at *;have l0:∀{h':PH},dD h1 h'->cE PG h' (loadAt bT (pT r 0))=some (.int .i64 (f:Int)):=λu=>by rw[bT.load,(B1.ext u).cell];rfl
 have l1:∀{h':PH},dD h1 h'->cE PG h' (loadAt cA (pT r 1))=some (.int .u64 (s:Int)):=λu=>by rw[cA.load,(B1.ext u).cell];rfl
 have l2:∀{h':PH},dD h1 h'->cE PG h' (loadAt cA (pT r 2))=some (.int .u64 (t:Int)):=λu=>by rw[cA.load,(B1.ext u).cell];rfl
 have l3:∀{h':PH},dD h1 h'->cE PG h' (loadAt bR (pT r 3))=some (.string (tx l)):=λu=>by rw[bR.load,(B1.ext u).cell];rfl
 have c1:IntKind.u64.wrap (f:Int)=(f:Int):=gJ (by omega) (by omega);have c2:IntKind.u64.wrap (l.length:Int)=(l.length:Int):=gJ (by omega) (by omega);have ln:cV PG (Builtin.len_ #[bR] bT #[.string (tx l)])=some (.int .i64 (l.length:Int)):=by rw[lQ bR.und,iB]
 simp only[aR.f0,aR.f1,aR.f2,aR.f3,l0 cU.refl,l1 cU.refl,l2 cU.refl,l3 cU.refl,ln,aIV,c1,c2,cG,reduceIte,cT,Nat.reduceAdd];refine sY (by omega) (by decide) λh2 u2=>?_;simp only[fJ,l1 u2,l2 u2,l3 u2,eq_self,true_and];refine sY (by omega) (by decide) λh3 u3=>?_;have e3:=u2.trans u3;have a1:cV PG (binOp .add bR (.string (tx (be f 1))) (.string (tx (be s 8))))=some (.string (tx (be f 1++be s 8))):=lR (by simp only[iD];decide);simp only[l2 e3,l3 e3,a1,eq_self,true_and,cG,reduceIte,cT,Nat.reduceAdd];refine sY (by omega) (by decide) λh4 u4=>?_;have e4:=e3.trans u4;have a2:cV PG (binOp .add bR (.string (tx (be f 1++be s 8))) (.string (tx (be t 8))))=some (.string (tx ((be f 1++be s 8)++be t 8))):=lR (by simp only[iD,jR];decide);simp only[l3 e4,a2,eq_self,true_and,cG,reduceIte,cT,Nat.reduceAdd];refine sY (by omega) (by decide) λh5 u5=>?_;have e5:=e4.trans u5;have a3:cV PG (binOp .add bR (.string (tx ((be f 1++be s 8)++be t 8))) (.string (tx (be l.length 2))))=some (.string (tx (((be f 1++be s 8)++be t 8)++be l.length 2))):=lR (by simp only[iD,jR];decide);have a4:cV PG (binOp .add bR (.string (tx (((be f 1++be s 8)++be t 8)++be l.length 2))) (.string (tx l)))=some (.string (tx ((((be f 1++be s 8)++be t 8)++be l.length 2)++l))):=lR (by simp only[iD,jR];omega);simp only[l3 e5,a3,a4,eq_self,true_and,cG,reduceIte,cT,Nat.reduceAdd];rw[mR,mR,mR];exact hk _ (u1.trans e5)
def Pk.v(p:Pk):Value:=.agg p.cells.toArray
def aF0(p:Pk):Tx×Int:=if p.right then(p.bs,0) else([],1)
theorem aRt(p:Pk):aIw (wPk (0,[]) p)=aF0 p:=by
 unfold aF0;cases hr:p.right with
 | true=>rw[aU4 hr];rfl
 | false=>
  unfold aIw;rw[aTV hr,if_neg (by decide)];rfl
theorem aSR{h:PH}{p:Pk}(w:p.wf){k:cD}(hk:∀h',dD h h'->k (.tuple #[.string (tx (aF0 p).1),.int .i64 (aF0 p).2]) h'):aT PG aGf #[p.v] h k:=by
 apply aGZ.call;unfold aGZ;intro r1 hr1
 try rw[cZ]
 have u1:dD h (h.set r1 (.cells (Value.cells p.v) aR)):=cU.new hr1;have B1:Bx (h.set r1 (.cells (Value.cells p.v) aR)) r1 p.cells:=Bx.new;generalize h.set r1 (.cells (Value.cells p.v) aR)=h1 at *;intro r3 hr3
 try rw[cZ]
 have S0:=WN.start hr3;have u3:dD h1 (h1.set r3 (.cells (dL PG fI) fI)):=cU.new hr3;generalize h1.set r3 (.cells (dL PG fI) fI)=h3 at *;have lp:cE PG h3 (loadAt aR (pT r1 0))=some (.agg p.cells.toArray):=(B1.ext u3).pk rfl;simp only[lp,cG,reduceIte,cT,Nat.reduceAdd];refine aYm S0 (by simp) p w λh4 F4 S4 K4=>?_;refine aMu S4.at_ λh5 u5=>?_;simp only[cG,reduceIte,cT,Nat.reduceAdd];have:=hk h5 (u1.trans (S4.upd.fresh u5 S4.fresh));rw[←aRt] at this;exact this
theorem Pk.eqD{h:PH}{d:Nat}(m m':Pk):cE PG h (Op.equalIn (d+1+1) aR m.v m'.v)=some (decide (m=m')):=by
 have:cE PG h (Op.equalIn (d+1+1) aR m.v m'.v)=some (m.f==m'.f&&(m.s==m'.s&&(m.t==m'.t&&(m.d==m'.d&&true)))):=by
  refine(aDa aR.und (by kernel_rfl) (λf=>match f.offset with|0=>m.f==m'.f|1=>m.s==m'.s|2=>m.t==m'.t|_=>m.d==m'.d) ?_);intro f hf;simp only[gL,kJ,or_false] at hf;rcases hf with rfl|rfl|rfl|rfl
  ·exact⟨by decide,_,_,iR bT.und rfl rfl,iR bT.und rfl rfl,tR bT.und⟩
  ·exact⟨by decide,_,_,iR cA.und rfl rfl,iR cA.und rfl rfl,tR cA.und⟩
  ·exact⟨by decide,_,_,iR cA.und rfl rfl,iR cA.und rfl rfl,tR cA.und⟩
  ·exact⟨by decide,_,_,iR bR.und rfl rfl,iR bR.und rfl rfl,aBj bR.und⟩
 rw[this,aCk];congr 1;rw[zLm];obtain⟨a,b,c,e⟩:=m;obtain⟨a',b',c',e'⟩:=m';simp
theorem Pk.eql{h:PH}{x y:Operand}(m m':Pk):cE PG h (kB .eql aR x y m.v m'.v)=some (.bool (decide (m=m'))):=aLs (by kernel_rfl) (Pk.eqD (d:=9998) m m')
theorem Pk.zb:cV PG (build aR #[])=some (Pk.v default):=by kernel_rfl
def aG3(ahead:List Tx)(p:Pk):Tx:=if p.right then oQ (ahead.flatten++p.bs) else []
theorem aMp{p:Pk}(h:p.right=true):p.bs.length≤83:=by
 have:=(Pk.right_iff.1 h).2.2.2.2;simp only[Pk.bs,jR,iD,aQf];omega
theorem aRG{h00 h:PH}{p:Pk}(w:p.wf)(hK:nJ h00){ahead:List Tx}{v:Value}{F:List Nat}(O:eD h bR 1 v (ahead.map iY) F)(e0:dD h00 h)(f0:dZ h00 F)(hl:ahead.flatten.length≤1000)(hl2:ahead.length≤10){k:cD}(hk:∀h',dD h00 h'->k (.string (tx (aG3 ahead p))) h'):aT PG aCs #[p.v,v] h k:=by
 apply aFS.call;unfold aFS;intro r1 hr1
 try rw[cZ]
 have u1:dD h (h.set r1 (.cells (Value.cells p.v) aR)):=cU.new hr1;have B1:Bx (h.set r1 (.cells (Value.cells p.v) aR)) r1 p.cells:=Bx.new;generalize h.set r1 (.cells (Value.cells p.v) aR)=h1 at *;have lp:∀{h':PH},dD h1 h'->cE PG h' (loadAt aR (pT r1 0))=some p.v:=λu=>(B1.ext u).pk rfl;simp only[lp cU.refl,cG,reduceIte,cT,Nat.reduceAdd];refine aSR w λh2 u2=>?_;have e2:=u1.trans u2;cases hr:p.right with
 | false=>
  have n1:((1:Int) !=0)=true:=by decide
  have eb:aF0 p=([],1):=by unfold aF0;rw[hr];rfl
  have ed:aG3 ahead p=[]:=by unfold aG3;rw[hr];rfl
  rw[ed] at hk;simp only[eb,kK,n1,cG,reduceIte,cT,Nat.reduceAdd];exact hk _ (e0.trans e2)
 | true=>
  have eb:aF0 p=(p.bs,0):=by unfold aF0;rw[hr];rfl
  have ed:aG3 ahead p=oQ (ahead.flatten++p.bs):=by unfold aG3;rw[hr];rfl
  have ne:¬p=default:=λe=>by rw[e] at hr;exact absurd hr (by decide)
  have nd:=decide_eq_false ne;have hb:=aMp hr;rw[ed] at hk;simp only[eb,kK,lp u2,Pk.zb,Pk.eql,nd,aL1,cG,reduceIte,cT,Nat.reduceAdd];intro r22 hr22;refine fL ?_
  try rw[cZ]
  have u3:dD h2 (h2.set r22 (.cells #[.string (tx p.bs)] bR)):=cU.new hr22;have s1:fR (h2.set r22 (.cells #[.string (tx p.bs)] bR)) 1 (.slice (some ⟨r22,0,none⟩) 1 1) ([p.bs].map iY):=(eD.lit (iY.rows [p.bs]) dM (by simp) (by decide) (by simp[iY])).slR;generalize h2.set r22 (.cells #[.string (tx p.bs)] bR)=h3 at *;have e3:=e2.trans u3;refine jF cP.und cP.und bR.info bR.size bR.bytes bR.zero rfl (by decide) (O.ext e3) s1 (λr hr u hu=>by
   obtain⟨s,-,rfl⟩:=lO.1 hr;exact iY.isC s u hu) (by simp;omega) ?_
  intro v4 h4 F4 O4 u4 g4 _;rw[←qX] at O4;have e4:dD h00 h4:=(e0.trans e3).fresh u4 f0;refine aNG (hK.ext e4) O4.slR (by rw[zLF,jR,show [p.bs].flatten=p.bs by simp];omega) λh5 u5=>?_;have:=hk h5 (e4.trans u5);rw[zLF,show [p.bs].flatten=p.bs by simp];exact this
def mL(p:Pk):Tx:=aG3 [] p
def aBo(p:Pk):Tx:=aG3 [[97,99,107]] p
theorem aFd{h:PH}{p:Pk}(w:p.wf)(hK:nJ h){k:cD}(hk:∀h',dD h h'->k (.string (tx (mL p))) h'):aT PG qI #[p.v] h k:=by
 apply aBz.call;unfold aBz;intro r1 hr1
 try rw[cZ]
 have u1:dD h (h.set r1 (.cells (Value.cells p.v) aR)):=cU.new hr1;have B1:Bx (h.set r1 (.cells (Value.cells p.v) aR)) r1 p.cells:=Bx.new;generalize h.set r1 (.cells (Value.cells p.v) aR)=h1 at *;have lp:cE PG h1 (loadAt aR (pT r1 0))=some p.v:=B1.pk rfl;simp only[lp,cG,reduceIte,cT,Nat.reduceAdd];exact aRG w hK (ahead:=[]) eD.nil u1 (λb hb=>by cases hb) (by simp) (by simp) hk
theorem aOk{h:PH}{p:Pk}(w:p.wf)(hK:nJ h){k:cD}(hk:∀h',dD h h'->k (.string (tx (aBo p))) h'):aT PG aDB #[p.v] h k:=by
 apply aFW.call;unfold aFW;intro r1 hr1
 try rw[cZ]
 have u1:dD h (h.set r1 (.cells (Value.cells p.v) aR)):=cU.new hr1;have B1:Bx (h.set r1 (.cells (Value.cells p.v) aR)) r1 p.cells:=Bx.new;generalize h.set r1 (.cells (Value.cells p.v) aR)=h1 at *;have lp:cE PG h1 (loadAt aR (pT r1 0))=some p.v:=B1.pk rfl;have q:({data:=#[97,99,107]}:ByteArray)=tx [97,99,107]:=rfl;simp only[lp,q,aL1,cG,reduceIte,cT,Nat.reduceAdd];intro r4 hr4;refine fL ?_
 try rw[cZ]
 have u2:dD h1 (h1.set r4 (.cells #[.string (tx [97,99,107])] bR)):=cU.new hr4;have O:eD (h1.set r4 (.cells #[.string (tx [97,99,107])] bR)) bR 1 (.slice (some ⟨r4,0,none⟩) 1 1) ([[97,99,107]].map iY) [r4]:=eD.lit (iY.rows [[97,99,107]]) dM (by simp) (by decide) (by simp[iY]);exact aRG w hK (ahead:=[[97,99,107]]) O (u1.trans u2) (dZ.one (u1.none hr4)) (by simp) (by simp) hk
def fS(c:UInt8)(n:Nat):Tx:=c::be n 8
theorem wH(c:UInt8)(n:Nat):(fS c n).length=9:=by simp[fS,iD]
theorem aQQ{h:PH}{c:UInt8}{n:Nat}(hn:n<18446744073709551616){k:cD}(hk:∀h',dD h h'->k (.string (tx (fS c n))) h'):aT PG aDR #[.string (tx [c]),.int .u64 (n:Int)] h k:=by
 apply aIO.call;unfold aIO;intro r1 hr1
 try rw[cZ]
 have S0:=WN.start hr1;generalize h.set r1 (.cells (dL PG fI) fI)=h1 at *;refine aVk S0 (by simp) (by simp) λh2 F2 x2 e2 S2 K2=>?_;refine aIv S2 (by rw[e2];simp) hn λh3 F3 x3 e3 S3 K3=>?_;refine aMu S3.at_ λh4 u4=>?_;have eb:aIw (x3.1,x3.2)=(fS c n,0):=by rw[e3,e2];rfl
 simp only[eb,cG,reduceIte,cT,Nat.reduceAdd];exact hk _ (S3.upd.fresh u4 S3.fresh)
theorem aIZ{h:PH}{n:Nat}(hn:n<18446744073709551616){k:cD}(hk:∀h',dD h h'->k (.string (tx (fS 99 n))) h'):aT PG tD #[.int .u64 (n:Int)] h k:=by
 apply aHO.call;unfold aHO;exact aQQ (c:=99) hn hk
theorem aDW{h:PH}{n:Nat}(hn:n<18446744073709551616){k:cD}(hk:∀h',dD h h'->k (.string (tx (fS 114 n))) h'):aT PG qA #[.int .u64 (n:Int)] h k:=by
 apply aEA.call;unfold aEA;exact aQQ (c:=114) hn hk
theorem aJi{h:PH}{n:Nat}(hn:n<18446744073709551616){k:cD}(hk:∀h',dD h h'->k (.string (tx (fS 97 n))) h'):aT PG xC #[.int .u64 (n:Int)] h k:=by
 apply aD7.call;unfold aD7;exact aQQ (c:=97) hn hk
theorem aAG{h:PH}{c:UInt8}{n:Nat}(hn:n<18446744073709551616){k:cD}(hk:∀h',dD h h'->k (.string (tx (fS c n))) h'):aT PG jJ #[.string (tx [c]),.int .u64 (n:Int)] h k:=by
 apply aDD.call;unfold aDD;refine sY hn (by decide) λh2 u2=>?_;exact aRE (lR (by simp[iD])) (hk _ u2)
def aVm(i:Nat):List Value->PH->Nat:=λvs _=>match vs[i]? with
 | some (Value.int _ j)=>j.toNat
 | _=>0
theorem aOP{h:PH}{a:Nat}{st:kM}(R:qY h a st.1 st.2){k:cD}(hk:k (.int .i64 st.1) h):aT PG nZ #[pT a 0] h k:=
 aLz R.here rfl hk
theorem aQP{h:PH}{a:Nat}{st:kM}(R:qY h a st.1 st.2)(x:Int){k:cD}(hk:∀h',qY h' a (aKZ st x).1 (aKZ st x).2->cU [a] h h'->k (.tuple #[]) h'):aT PG lD #[pT a 0,.int .i64 x] h k:=by
 apply pZ.call;unfold pZ;have ha:=R.here;have c0:dF h ⟨a,0,none⟩=some (.int .i64 st.1):=by simp[dF,ha]
 unfold aKZ at hk;by_cases h0:st.1=0
 ·have q:(st.1==0)=true:=by simp[h0]
  rw[if_pos h0] at hk;simp only[nM.f0,fW.load,c0,iA,q,cG,reduceIte];refine iT fW.und rfl ha (by simp) rfl fW.info fW.size ?_;exact hk _ ⟨dM⟩ (cU.set (by simp))
 ·have q:(st.1==0)=false:=by simp[h0]
  rw[if_neg h0] at hk;simp only[nM.f0,fW.load,c0,iA,q,cG,reduceIte];exact hk h ⟨ha⟩ cU.refl
def aLG(st:kM):Int:=if st.1=0∧st.2≠[] then 7 else st.1
theorem aWn{h:PH}{a:Nat}{st:kM}(R:qY h a st.1 st.2){k:cD}(hk:k (.int .i64 (aLG st)) h):aT PG aEP #[pT a 0] h k:=by
 apply aDz.call;unfold aDz;refine aUj R ?_;unfold aLG at hk;by_cases h0:st.1=0∧st.2≠[]
 ·rw[if_pos h0] at hk;have hp:=aG2.2 h0.2;have g:((0:Int)<(st.2.length:Int))=True:=eq_true (by omega);simp only[h0.1,if_true,g,cG,reduceIte];exact hk
 ·rw[if_neg h0] at hk;have g:((0:Int)<(if st.1=0 then(st.2.length:Int) else 0))=False:=by
   apply eq_false;split
   ·rename_i h1;have:st.2=[]:=Classical.byContradiction λh2=>h0 ⟨h1,h2⟩;rw[this];simp
   ·decide
  simp only[g,gH.f0,cG,reduceIte];exact aOP R hk
theorem cU.ext{F:List Nat}{h h1 h2:PH}(a:cU F h h1)(u:dD h1 h2):cU F h h2:=a.trans u.upd
def Nt.of(x:Int×Pk):Nt:=⟨x.1,x.2⟩
theorem aVL(x:Nt):jM PG (buildSlice dR 1 #[(0,.agg x.cells.toArray)])=some (.cells x.cells.toArray fY (0,0),λr=>pure (.slice (some ⟨r,0,none⟩) 1 1)):=by kernel_rfl
theorem Nt.isC(l:List Nt):∀r∈l.map Nt.cells,∀u∈r,eP u=true:=λr hr u hu=>by
 obtain⟨m,_,rfl⟩:=lO.1 hr;simp only[Nt.cells,gL,kJ,or_false] at hu;rcases hu with rfl|rfl|rfl|rfl|rfl<;>rfl
def It.of(x:Int×Pk):It:=⟨x.2,x.1⟩
theorem It.isC(l:List It):∀r∈l.map It.cells,∀u∈r,eP u=true:=λr hr u hu=>by
 obtain⟨m,_,rfl⟩:=lO.1 hr;simp only[It.cells,gL,kJ,or_false] at hu;rcases hu with rfl|rfl|rfl|rfl|rfl<;>rfl
theorem aMo{h:PH}{l:List UInt8}(hl:l.length≤8){k:cD}(hk:k (.int .u64 (val l)) h):aT PG tI #[.string (tx l)] h k:=by
 apply aA8.call;unfold aA8;refine⟨λvs h'=>∃i:Nat,i≤l.length∧vs=[.string (tx l),.int .u64 (val (l.take i)),.int .i64 i]∧h'=h,gY l.length 2,⟨0,by omega,rfl,rfl⟩,?_⟩;rintro ρ h' ⟨i,hi,hvs,rfl⟩;simp only[iJ,iV,kW,and_true] at hvs;obtain⟨s0,s1,s3⟩:=hvs;rw[s0,s1,s3];unfold aFw;by_cases hlt:i<l.length
 ·have hd:((i:Int)<(l.length:Int))=True:=by apply eq_true;omega
  obtain⟨b,hb⟩:∃b,l[i]? =some b:=⟨_,lU hlt⟩;have hsm:=aOz hlt hl;have hb8:=b.toNat_lt;have ei:=qG (i:=i) (by omega);have e2:IntKind.u64.wrap ((val (l.take i):Int)*256)=((val (l.take i)*256:Nat):Int):=by rw[gJ (by omega) (by omega)];omega
  have e3:IntKind.u64.wrap (b.toNat:Int)=(b.toNat:Int):=gJ (by omega) (by omega);have e4:IntKind.u64.wrap (((val (l.take i)*256:Nat):Int)+(b.toNat:Int))=((val (l.take (i+1)):Nat):Int):=by rw[aQc hb,gJ (by omega) (by omega)];omega
  simp only[bR.len,iB,hd,e2,zA bR.und hb,aRl,e3,e4,ei,cG,reduceIte];exact⟨⟨i+1,by omega,rfl,by trivial⟩,by simp[gY,s3];omega⟩
 ·have hd:((i:Int)<(l.length:Int))=False:=by apply eq_false;omega
  rw[mU (by omega)];simp only[bR.len,iB,hd,cG,reduceIte];exact hk
structure wJ(h:PH)(a:Nat)(S:List UInt8)(e:Int)(s:List UInt8):Prop where
 here:h a=some (.cells #[.string (tx S),.int .i64 ((S.length-s.length:Nat):Int),.int .i64 e] eS (0,0))
 suf:s=S.drop (S.length-s.length)
 le:s.length≤S.length
theorem wJ.upd{h h':PH}{a:Nat}{S:List UInt8}{e:Int}{s:List UInt8}{G:List Nat}(H:wJ h a S e s)(u:cU G h h')(hd:a∉G):wJ h' a S e s:=⟨u.get H.here hd,H.suf,H.le⟩
theorem wJ.ext{h h':PH}{a:Nat}{S:List UInt8}{e:Int}{s:List UInt8}(H:wJ h a S e s)(u:dD h h'):wJ h' a S e s:=H.upd u (by simp)
theorem aJ6{h:PH}{a:Nat}{S:List UInt8}{e:Int}{s:List UInt8}(hR:wJ h a S e s)(hS:S.length≤1000000000000)(n:Int){k:cD}
  (hk:∀h',wJ h' a S (jQ (e,s) n).2.1 (jQ (e,s) n).2.2->cU [a] h h'->k (.tuple #[.string (tx (jQ (e,s) n).1),.bool (decide (e=0∧0≤n∧n≤s.length))]) h'):
  aT PG lJ #[pT a 0,.int .i64 n] h k:=by
 have ha:=hR.here;have hle:=hR.le;have c0:dF h ⟨a,0,none⟩=some (.string (tx S)):=by simp[dF,ha]
 have c1:dF h ⟨a,1,none⟩=some (.int .i64 ((S.length-s.length:Nat):Int)):=by simp[dF,ha]
 have c2:dF h ⟨a,2,none⟩=some (.int .i64 e):=by simp[dF,ha]
 apply nN.call;unfold nN;unfold jQ at hk;by_cases h0:e=0
 ·have q:(e !=0)=false:=by simp[h0]
  have bad:¬(0≤n∧n≤(s.length:Int))->cY PG (dJ bT (pT a 2) (.int .i64 6)) h λv54 h55=>k (.tuple #[.string {data:=#[]},.bool false]) h55:=by
   intro hb;rw[if_neg (by rintro⟨_,h2⟩;exact hb h2),if_pos h0] at hk;have hdec:decide (e=0∧0≤n∧n≤(s.length:Int))=false:=by simp only[decide_eq_false_iff_not];rintro⟨_,h2⟩;exact hb h2
   rw[hdec] at hk;refine iT bT.und rfl ha (by simp) rfl bT.info bT.size ?_;exact hk _ ⟨by rw[dM];rfl,hR.suf,hR.le⟩ (cU.set (by simp))
  have esub:IntKind.i64.wrap ((S.length:Int)-((S.length-s.length:Nat):Int))=(s.length:Int):=by rw[eX (by omega) (by omega)];omega
  by_cases h1:n<0
  ·simp only[eS.f2,fJ,bT.load,c2,q,h1,cG,reduceIte];exact bad (by omega)
  ·by_cases h2:(s.length:Int)<n
   ·simp only[eS.f0,eS.f1,eS.f2,fJ,bT.load,bR.load,c0,c1,c2,q,h1,bR.len,iB,esub,h2,cG,reduceIte];exact bad (by omega)
   ·obtain⟨m,rfl⟩:=zLn (a:=n) (by omega);have hm:m≤s.length:=by omega
    have eadd:IntKind.i64.wrap (((S.length-s.length:Nat):Int)+(m:Int))=((S.length-(s.length-m):Nat):Int):=by rw[eX (by omega) (by omega)];omega
    have esub2:IntKind.i64.wrap (((S.length-(s.length-m):Nat):Int)-(m:Int))=((S.length-s.length:Nat):Int):=by rw[eX (by omega) (by omega)];omega
    rw[if_pos ⟨h0,by omega,by simpa using hm⟩] at hk;have hdec:decide (e=0∧0≤(m:Int)∧(m:Int)≤(s.length:Int))=true:=by simp only[decide_eq_true_eq];exact⟨h0,by omega,by omega⟩
    rw[hdec] at hk;simp only[eS.f0,eS.f1,eS.f2,fJ,bT.load,bR.load,c0,c1,c2,q,h1,bR.len,iB,esub,h2,eadd,cG,reduceIte];refine iT bT.und rfl ha (by simp) rfl bT.info bT.size ?_;have hb:(h.set a (.cells (#[Value.string (tx S),.int .i64 ((S.length-s.length:Nat):Int),.int .i64 e].setIfInBounds 1 (.int .i64 ((S.length-(s.length-m):Nat):Int))) eS (0,0))) a=some (.cells #[.string (tx S),.int .i64 ((S.length-(s.length-m):Nat):Int),.int .i64 e] eS (0,0)):=dM;have ub:cU [a] h (h.set a (.cells (#[Value.string (tx S),.int .i64 ((S.length-s.length:Nat):Int),.int .i64 e].setIfInBounds 1 (.int .i64 ((S.length-(s.length-m):Nat):Int))) eS (0,0))):=cU.set (by simp);generalize h.set a (.cells (#[Value.string (tx S),.int .i64 ((S.length-s.length:Nat):Int),.int .i64 e].setIfInBounds 1 (.int .i64 ((S.length-(s.length-m):Nat):Int))) eS (0,0))=h2 at *;have d0:dF h2 ⟨a,0,none⟩=some (.string (tx S)):=by simp[dF,hb]
    have d1:dF h2 ⟨a,1,none⟩=some (.int .i64 ((S.length-(s.length-m):Nat):Int)):=by simp[dF,hb]
    have hcut:=aHv (P:=PG) (l:=S) (i:=S.length-s.length) (j:=S.length-(s.length-m)) (lo:=some (.int .i64 ((S.length-s.length:Nat):Int))) (hi:=some (.int .i64 ((S.length-(s.length-m):Nat):Int))) bR.und (.inr ⟨.i64,rfl⟩) (.inr ⟨.i64,rfl⟩) (by omega) (by omega);have hlist:(S.take (S.length-(s.length-m))).drop (S.length-s.length)=s.take m:=by
     conv=>rhs;rw[hR.suf]
     rw[zLx];congr 1;omega
    rw[hlist] at hcut;simp only[d0,d1,esub2,hcut,cG,reduceIte];rw[qF,h0] at hk;have hlen:(s.drop m).length=s.length-m:=xD;refine hk _ ⟨?_,?_,by rw[hlen];omega⟩ ub
    ·rw[hlen,hb,h0]
    ·rw[hlen];have h1:S.drop (S.length-(s.length-m))=(S.drop (S.length-s.length)).drop m:=by
      rw[aIn];congr 1;omega
     rw[h1,←hR.suf]
 ·have q:(e !=0)=true:=by simp[h0]
  rw[if_neg (by rintro⟨h1,_⟩;exact h0 h1),if_neg h0] at hk;have hdec:decide (e=0∧0≤n∧n≤(s.length:Int))=false:=by simp only[decide_eq_false_iff_not];rintro⟨h1,_⟩;exact h0 h1
  rw[hdec] at hk;simp only[eS.f2,fJ,bT.load,c2,q,cG,reduceIte];exact hk _ hR cU.refl
end Go.Proofs.YtppgkeodaejgcaaGreatDoor
