/- The texts of this claim, put together. -/
import Derived.Test.YtppgkeodaejgcaaGreatDoorRlXVC4
import Derived.Test.YtppgkeodaejgcaaGreatDoorRows
import Derived.ReadAgain
import Derived.ChangeReads
import Derived.ChangeBears
import Derived.RowKit3
import Derived.ChangeSame
import Derived.OpenShut
import Derived.Deep.Slices
import Derived.LaidMore
import Derived.Stop.Joined
import Derived.SevenTiedAt
import Derived.WalkKit
import Derived.ProofKit
import Derived.ChangeMaps5
import Derived.Lib.UnsafeStr
set_option linter.all false
set_option maxRecDepth 100000
open Go.Instr (loadAt fieldAt indexAt extract buildSlice build)
namespace Go.Proofs.YtppgkeodaejgcaaGreatDoor
section
open Go
def P64:List Nat:=[2,3,5,7,11,13,17,19,23,29,31,37,41,43,47,53,59,61,67,71,73,79,83,89,97,101,103,107,109,113,127,131,137,139,149,151,157,163,167,173,179,181,191,193,197,199,211,223,227,229,233,239,241,251,257,263,269,271,277,281,283,293,307,311]
def RT:List Nat:=[5411319704,6194414737,7344290767,8215976869,9551921755,10098905585,11043570340,11460697813,12214315672,13195500289,13492127166,14311783875,14809980276,15046980094,15499789991,16133124468,16720292289,16907126662,17444216262,17784676812,17950125167,18429019306,18734950876,19175934170,19734090066,20001703533,20132865992,20390182855,20516441075,20764397895,21588763473,21813078375,22141143685,22248366392,22769593852,22871018771,23170020180,23461497531,23651862830,23931792517,24205322401,24295138891,24734567280,24820601251,24990902297,25075189284,25569408389,26045227120,26200031510,26276752392,26428864332,26653801653,26727943347,27092625994,27306805839,27517677555,27725365998,27793908591,27997534228,28131656200,28198240250,28526537963,28973835255,29099129074]
def RS:List Nat:=[6074000999,7439101573,9603838834,11363415354,14244795007,15485724812,17708603819,18721328409]
def H8:List W:=[1779033703,3144134277,1013904242,2773480762,1359893119,2600822924,528734635,1541459225]
theorem aX6:(List.range 64).all (λi=>decide ((RT.getD i 0)^3≤P64.getD i 0*4294967296^3)&&decide (P64.getD i 0*4294967296^3<(RT.getD i 0+1)^3)&&decide (RT.getD i 0%4294967296=(kT.getD i 0).toNat)&&decide (P64.getD i 0*4294967296^3<68719476736^3)&&decide (P64.getD i 0<4294967296))=true:=by kernel_rfl
theorem aXq:(List.range 8).all (λi=>decide ((RS.getD i 0)^2≤P64.getD i 0*4294967296^2)&&decide (P64.getD i 0*4294967296^2<(RS.getD i 0+1)^2)&&decide (RS.getD i 0%4294967296=(H8.getD i 0).toNat)&&decide (P64.getD i 0*4294967296^2<68719476736^2))=true:=by kernel_rfl
def aJ3:Nat->List Nat->Nat->Option (List Nat)
 | 0,_,_=>none
 | f+1,out,x=>if out.length<64 then aJ3 f (if out.all (λd=>decide (x%d≠0)) then out++[x] else out) (x+1) else some out
theorem aSQ:aJ3 400 [] 2=some P64:=by kernel_rfl
theorem aQx{h:PH}{v:Value}{l:List Nat}(S:fR h 1 v (l.map oU))(i:Nat){k:cE}(hk:k (.int .u64 ((l.getD i 0:Nat):Int)) h):aT PG yC #[v,.int .i64 (i:Int)] h k:=by
 apply aBV.call;unfold aBV;have lv:=aKX S;by_cases hl:i<l.length
 ·have g1:((i:Int)<(l.length:Int))=True:=eq_true (by omega);obtain⟨pa,p1,p2⟩:=aLX S (lQ hl);simp only[lv,g1,p1,p2,cG,reduceIte];rw[aAX,lQ hl] at hk;exact hk
 ·have g1:((i:Int)<(l.length:Int))=False:=eq_false (by omega);simp only[lv,g1,cG,reduceIte];rw[aAX,List.getElem?_eq_none (by omega)] at hk;exact hk
def aYT:List Value->PH->Nat:=λvs _=>match vs[2]? with
 | some (Value.int _ x)=>(x+1).toNat
 | _=>0
theorem aUo{h:PH}{v w:Value}{a b:List Nat}(S:fR h 1 v (a.map oU))(T:fR h 1 w (b.map oU))(ha:Dig a)(hb:Dig b)(hla:a.length≤1000)(hlb:b.length≤1000){k:cE}(hk:k (.bool (decide (jM b<jM a))) h):aT PG aCi #[v,w] h k:=by
 apply aBU.call;unfold aBU;have lv:=aKX S;have lw:=aKX T;have e1:IntKind.i64.wrap ((a.length:Int)+(b.length:Int))=((a.length+b.length+1:Nat):Int)-1:=by rw[eV (by omega) (by omega)];omega
 simp only[lv,lw,e1,cG,reduceIte];have hA:jM a/4294967296^(a.length+b.length+1)=jM b/4294967296^(a.length+b.length+1):=by
  have h1:jM a<4294967296^(a.length+b.length+1):=aKP (aKB ha) (aKy (by decide) (by omega));have h2:jM b<4294967296^(a.length+b.length+1):=aKP (aKB hb) (aKy (by decide) (by omega));rw[Nat.div_eq_of_lt h1,Nat.div_eq_of_lt h2]
 refine⟨λvs h'=>∃m:Nat,m≤2001∧vs=[v,w,.int .i64 ((m:Int)-1)]∧h'=h∧jM a/4294967296^m=jM b/4294967296^m,aYT,⟨_,by omega,rfl,rfl,hA⟩,?_⟩;rintro ρ h' ⟨m,hm,hvs,rfl,hq⟩;simp only[iH,iT,kV,and_true] at hvs;obtain⟨v0,v1,v5⟩:=hvs;simp only[v0,v1,v5,iH,iT];unfold aGE;cases m with
 | zero=>
  have g1:((0:Int)≤((0:Nat):Int)-1)=False:=eq_false (by decide);simp only[g1,cG,reduceIte];rw[Nat.pow_zero,Nat.div_one,Nat.div_one] at hq;have:decide (jM b<jM a)=false:=by simp[hq]
  rw[this] at hk;exact hk
 | succ m=>
  have g0:((m+1:Nat):Int)-1=(m:Int):=by omega
  have g1:((0:Int)≤(m:Int))=True:=eq_true (by omega);have g2:IntKind.i64.wrap ((m:Int)-1)=(m:Int)-1:=eV (by omega) (by omega);rw[g0];simp only[g1,cG,reduceIte];refine aQx S m ?_;refine aQx T m ?_;have da:=aKF ha m;have db:=aKF hb m;have sa:jM a/4294967296^m/4294967296=jM a/4294967296^(m+1):=by rw[Nat.div_div_eq_div_mul,zLQ]
  have sb:jM b/4294967296^m/4294967296=jM b/4294967296^(m+1):=by rw[Nat.div_div_eq_div_mul,zLQ]
  have mono:∀{x y:Nat},x/4294967296^m<y/4294967296^m->x<y:=fun {x y} hxy=>by
   refine Nat.lt_of_not_le λhle=>?_;have:=Nat.div_le_div_right (c:=4294967296^m) hle;omega
  generalize a.getD m 0=p at *;generalize b.getD m 0=q at *;by_cases he:p=q
  ·subst he;simp only[bne_self_eq_false,g2,cG,reduceIte];refine⟨⟨m,by omega,rfl,(by trivial),?_⟩,?_⟩
   ·omega
   ·simp only[aYT,sA,pK];omega
  ·have g3:((p:Int) !=(q:Int))=true:=by rw[bne_iff_ne];omega
   have g4:decide ((q:Int)<(p:Int))=decide (jM b<jM a):=by
    by_cases hlt:q<p
    ·have:jM b<jM a:=mono (by omega);have h2:(q:Int)<(p:Int):=by omega
     simp only[this,h2]
    ·have:jM a<jM b:=mono (by omega);have hn:¬jM b<jM a:=by omega
     have h2:¬(q:Int)<(p:Int):=by omega
     simp only[hn,h2]
   simp only[g3,aPu,g4,cG,reduceIte];exact hk
theorem aVt{h:PH}(x n:Nat)(third:Bool)(hx:x≤68719476736)(hn:n<4294967296){k:cE}(hk:∀h',cZ h h'->k (.bool (decide (x^(if third then 3 else 2)≤n*4294967296^(if third then 3 else 2)))) h'):
  aT PG aCV #[.int .u64 (x:Int),.int .u64 (n:Int),.bool third] h k:=by
 apply aBW.call;unfold aBW;have b1:jK PG (buildSlice dO 1 #[(0,.int .u64 (x:Int))])=some (.cells #[.int .u64 (x:Int)] cA,λr=>pure (.slice (some ⟨r,0,none⟩) 1 1)):=by kernel_rfl
 simp only[b1,cG,reduceIte];intro r hr;refine fI ?_
 try rw[cW]
 have u1:cZ h (h.set r (.cells #[.int .u64 (x:Int)] cA)):=cU.new hr;have S1:fR (h.set r (.cells #[.int .u64 (x:Int)] cA)) 1 (.slice (some ⟨r,0,none⟩) 1 1) ([x].map oU):=(dZ.lit (n:=1) (oU.rows [x]) dL (by simp) (by decide) rfl).slR;generalize h.set r (.cells #[.int .u64 (x:Int)] cA)=h1 at *;have key:∀t:Nat,1≤t->t≤2->(∀h',cZ h h'->k (.bool (decide (x^(t+1)≤n*4294967296^(t+1)))) h')->yH k (.int .u64 (x:Int)) (.int .u64 (n:Int)) (.slice (some ⟨r,0,none⟩) 1 1) (.int .i64 (t:Int)) h1:=by
  intro t ht1 ht2 hkt;unfold yH;refine⟨λvs h'=>∃(j:Nat) (w:Value) (l:List Nat),j≤t∧vs=[.int .u64 (x:Int),.int .u64 (n:Int),w,.int .i64 (t:Int),.int .i64 (j:Int)]∧fR h' 1 w (l.map oU)∧(∀d∈l,d≤18446744069414584320)∧jM l<4294967296^(l.length+1)∧l.length≤1+4*j∧jM l=x^(j+1)∧(1≤j->Dig l)∧l≠[]∧cZ h h',gU t 4,⟨0,_,[x],by omega,rfl,S1,by simp;omega,by simp only[jM,rN,zLM];omega,by simp,by simp[jM],by omega,by simp,u1⟩,?_⟩;rintro ρ h' ⟨j,w,l,hj,hvs,S,hs,hd,hl,hv,hdg,hln,u⟩;simp only[iH,iT,kV,and_true] at hvs;obtain⟨v0,v1,v7,v8,v9⟩:=hvs;simp only[v0,v1,v7,v8,v9,iH,iT];unfold aGG;by_cases hlt:j<t
  ·have g1:((j:Int)<(t:Int))=True:=eq_true (by omega);have gi:=pR (i:=j) (by omega);simp only[g1,cG,reduceIte];refine aRC S hs hd (by omega) x (by omega) λh2 w2 l2 F2 O2 hd2 hl2 hv2 f2 u2=>?_;simp only[gi,cG,reduceIte];refine⟨⟨j+1,w2,l2,by omega,rfl,O2.slR,λd hd=>by have:=hd2 d hd;omega,aKP (aKB hd2) (aKy (by decide) (by omega)),by omega,by rw[hv2,hv,←zLQ],λ_=>hd2,aJl (by omega),u.trans u2⟩,?_⟩;simp only[gU,sA,pK];omega
  ·have g1:((j:Int)<(t:Int))=False:=eq_false (by omega);have hjt:j=t:=by omega
   subst hjt;have g2:IntKind.i64.wrap ((j:Int)+2)=((j+2:Nat):Int):=by rw[eV (by omega) (by omega)];omega
   have g3:=pR (i:=j) (by omega);obtain⟨zs,m1,m2⟩:=aQM (h:=h) (n:=j+2) (by omega);simp only[g1,g2,g3,m1,cG,reduceIte];intro r2 hr2;refine fI ?_
   try rw[cW]
   have u2:cZ h' (h'.set r2 (.cells zs cA (0,0))):=cU.new hr2;have O2:aGo (h'.set r2 (.cells zs cA (0,0))) (.slice (some ⟨r2,0,none⟩) (j+2) (j+2)) (List.replicate (j+2) 0) [r2]:=dZ.lit (n:=j+2) (oU.rows _) dL (by simp) (by unfold qZ;omega) m2;generalize h'.set r2 (.cells zs cA (0,0))=h2 at *;obtain⟨pb,q1,q2⟩:=O2.storeCell (t:=dO) (k:=.i64) (j:=j+1) dO.und cA.info cA.size cA.und rfl (by simp) (x:=.int .u64 (n:Int)) rfl;simp only[q1,cG,reduceIte];refine q2 _ λh3 O3 u3=>?_;have hrows:((List.replicate (j+2) 0).map oU).take (j+1)++[[(.int .u64 (n:Int):Value)]]++((List.replicate (j+2) 0).map oU).drop (j+1+1)=((List.replicate (j+2) 0).set (j+1) n).map oU:=by
    rw[List.set_eq_take_append_cons_drop,if_pos (by simp),qI,iH,aKm,List.map_drop];simp[oU]
   rw[hrows] at O3;have hdw:Dig ((List.replicate (j+2) 0).set (j+1) n):=λz hz=>by
    rcases List.mem_or_eq_of_mem_set hz with hz|rfl
    ·exact aLf _ z hz
    ·exact hn
   have hvw:jM ((List.replicate (j+2) 0).set (j+1) n)=n*4294967296^(j+1):=by
    have:=aM8 (List.replicate (j+2) 0) (j+1) n 0 (by rw[List.getElem?_replicate];simp);rw[aKc] at this;omega
   have hr0:h r2=none:=u.none hr2;have S3:=(S.ext u2).upd u3 (λa n' c e=>by
    simp only[fV];intro hh;obtain⟨a0,c0,e0,_,_,hx0,_⟩:=S.here;rw[e0] at e;have hne:(l.map oU)≠[]:=by simpa using hln
    obtain⟨b,o,cs,e',fr,ha0,hb0,_⟩:=hx0 hne;rw[ha0] at e;simp only[Value.slice.injEq,zL8] at e;rw[←e.1] at hh;simp only at hh;rw[hh,hr2] at hb0;cases hb0)
   refine aUo S3 O3.slR (hdg ht1) hdw (by omega) (by simp;omega) ?_;have hfin:=hkt h3 ((u.trans u2).fresh u3 (eD.one hr0));have e9:(!decide (jM ((List.replicate (j+2) 0).set (j+1) n)<jM l))=decide (x^(j+1)≤n*4294967296^(j+1)):=by
    rw[hvw,hv,zLm];simp
   simp only[e9,cG,reduceIte];exact hfin
 cases third with
 | true=>
  simp only[cG,reduceIte];exact key 2 (by omega) (by omega) hk
 | false=>
  simp only[cG,reduceIte];exact key 1 (by omega) (by omega) hk
def gap:List Value->PH->Nat:=λvs _=>match vs[2]? with
 | some (Value.int _ x)=>match vs[3]? with
  | some (Value.int _ y)=>(y-x).toNat
  | _=>0
 | _=>0
theorem aUG(x:Int):dA PG (convert cA cL (.int .u64 x))=some (.int .u32 (IntKind.u32.wrap x)):=by kernel_rfl
theorem aVa{k T r R:Nat}(h1:r^k≤T)(h2:T<(r+1)^k)(h3:R^k≤T)(h4:T<(R+1)^k):r=R:=by
 rcases Nat.lt_trichotomy r R with h|h|h
 ·have:=Nat.pow_le_pow_left (show r+1≤R by omega) k;omega
 ·exact h
 ·have:=Nat.pow_le_pow_left (show R+1≤r by omega) k;omega
theorem aRo{h:PH}(n:Nat)(third:Bool)(hn:n<4294967296)(hT:n*4294967296^(if third then 3 else 2)<68719476736^(if third then 3 else 2))(R:Nat)(hR1:R^(if third then 3 else 2)≤n*4294967296^(if third then 3 else 2))(hR2:n*4294967296^(if third then 3 else 2)<(R+1)^(if third then 3 else 2))(w:W)(hw:R%4294967296=w.toNat){k:cE}(hk:∀h',cZ h h'->k (wv w) h'):
  aT PG zP #[.int .u64 (n:Int),.bool third] h k:=by
 apply aCH.call;unfold aCH;have hpos:0<(if third then 3 else 2):=by cases third<;>decide
 refine⟨λvs h'=>∃lo hi:Nat,vs=[.int .u64 (n:Int),.bool third,.int .u64 (lo:Int),.int .u64 (hi:Int)]∧lo<hi∧hi≤68719476736∧lo^(if third then 3 else 2)≤n*4294967296^(if third then 3 else 2)∧n*4294967296^(if third then 3 else 2)<hi^(if third then 3 else 2)∧cZ h h',gap,⟨0,68719476736,rfl,by omega,by omega,by rw[Nat.zero_pow hpos];omega,hT,cU.refl⟩,?_⟩;rintro ρ h' ⟨lo,hi,hvs,hlh,hhi,h1,h2,u⟩;simp only[iH,iT,kV,and_true] at hvs;obtain⟨v0,v1,v5,v6⟩:=hvs;simp only[v0,v1,v5,v6,iH,iT];unfold aGn;have e1:IntKind.u64.wrap ((hi:Int)-(lo:Int))=((hi-lo:Nat):Int):=by rw[gL (by omega) (by omega)];omega
 by_cases hg:1<hi-lo
 ·have g1:((1:Int)<((hi-lo:Nat):Int))=True:=eq_true (by omega);have e2:IntKind.u64.wrap ((lo:Int)+(hi:Int))=((lo+hi:Nat):Int):=by rw[gL (by omega) (by omega)];omega
  have e3:Int.tdiv ((lo+hi:Nat):Int) 2=(((lo+hi)/2:Nat):Int):=rfl;have e4:IntKind.u64.wrap (((lo+hi)/2:Nat):Int)=(((lo+hi)/2:Nat):Int):=gL (by omega) (by omega);have qu:∀(t:TypeId) (a:Int),dA PG (binOp .quo t (.int .u64 a) (.int .u64 2))=some (.int .u64 (IntKind.u64.wrap (a.tdiv 2))):=λt a=>aL8 (by decide);simp only[e1,g1,e2,qu,e3,e4,cG,reduceIte];refine aVt ((lo+hi)/2) n third (by omega) hn λh3 u3=>?_;by_cases hc:((lo+hi)/2)^(if third then 3 else 2)≤n*4294967296^(if third then 3 else 2)
  ·simp only[hc,cG,reduceIte];unfold zQ;refine⟨⟨_,_,rfl,by omega,hhi,hc,h2,u.trans u3⟩,?_⟩;simp only[gap,sA,pK];omega
  ·simp only[hc,cG,reduceIte];unfold zQ;refine⟨⟨_,_,rfl,by omega,by omega,h1,by omega,u.trans u3⟩,?_⟩;simp only[gap,sA,pK];omega
 ·have g1:((1:Int)<((hi-lo:Nat):Int))=False:=eq_false (by omega);simp only[e1,g1,aUG,cG,reduceIte];have hhl:hi=lo+1:=by omega
  subst hhl;obtain rfl:lo=R:=aVa h1 h2 hR1 hR2;have e:Value.int .u32 (IntKind.u32.wrap (lo:Int))=wv w:=by
   unfold wv;rw[aFr,←hw];congr 1
  rw[e];exact hk _ u
theorem aZV{h:PH}{v x:Value}{l ys:List Nat}{F:List Nat}(O:aGo h v l F)(S:fR h 1 x (ys.map oU))(hl:l.length+ys.length≤1000000){t:TypeId}{k:cE}
  (hk:∀v' h' F',aGo h' v' (l++ys) F'->cU F h h'->(∀b∈F',b∈F∨h b=none)->k v' h'):cY PG (Builtin.append_ #[dO,dO] t #[v,x]) h k:=by
 refine jF dO.und dO.und cA.info cA.size cA.bytes cA.zero rfl (by decide) O S ?_ (by simp;omega) ?_
 ·intro r hr u hu;obtain⟨y,hyy,rfl⟩:=lO.1 hr;simp only[oU,fV] at hu;subst hu;rfl
 intro v' h' F' O' u' k' _;rw[←qI] at O';exact hk v' h' F' O' u' k'
theorem aQt(f:Nat)(out:List Nat)(x:Nat):aJ3 (f+1) out x=if out.length<64 then aJ3 f (if out.all (λd=>decide (x%d≠0)) then out++[x] else out) (x+1) else some out:=rfl
theorem aTI{h:PH}{k:cE}(hk:∀h' v F,aGo h' v P64 F->cZ h h'->k v h'):aT PG aBm #[.int .i64 64] h k:=by
 apply rI.call;unfold rI;refine⟨λvs h'=>∃(x:Nat) (v:Value) (out F:List Nat),vs=[.int .i64 64,v,.int .u64 (x:Int)]∧2≤x∧x≤402∧aJ3 (402-x) out x=some P64∧(∀d∈out,0<d)∧aGo h' v out F∧eD h F∧cZ h h',gU 402 2,⟨2,_,[],[],rfl,by omega,by omega,aSQ,by simp,dZ.nil,(λb hb=>by cases hb),cU.refl⟩,?_⟩;rintro ρ h' ⟨x,v,out,F,hvs,hx2,hx,hP,hd,O,fF,u⟩;simp only[iH,iT,kV,and_true] at hvs;obtain⟨v0,v3,v4⟩:=hvs;simp only[v0,v3,v4,iH,iT];unfold aFP;have lv:=aKX O.slR;have hx':x<402:=by
  refine Nat.lt_of_le_of_ne hx λe=>?_;subst e;cases hP
 obtain⟨f,hf⟩:∃f,402-x=f+1:=⟨401-x,by omega⟩;rw[hf,aQt] at hP;by_cases hl:out.length<64
 ·rw[if_pos hl] at hP;have g1:((out.length:Int)<64)=True:=eq_true (by omega);simp only[lv,g1,cG,reduceIte];refine⟨λvs h2=>∃(i:Nat),i≤out.length∧vs=[.int .i64 64,v,.int .u64 (x:Int),.bool ((out.take i).all (λd=>decide (x%d≠0))),.int .i64 (i:Int)]∧h2=h',gU out.length 4,⟨0,by omega,rfl,rfl⟩,?_⟩;rintro ρ2 h2 ⟨i,hi,hvs,rfl⟩;simp only[iH,iT,kV,and_true] at hvs;obtain⟨w0,w3,w4,w5,w6⟩:=hvs;simp only[w0,w3,w4,w5,w6,iH,iT];unfold aFO;by_cases hil:i<out.length
  ·have g2:((i:Int)<(out.length:Int))=True:=eq_true (by omega);have gi:=pR (i:=i) (by omega);have hxi:out[i]? =some out[i]:=lQ hil;have hdp:=hd _ (aKW hil);have htk:out.take (i+1)=out.take i++[out[i]]:=aSo hil;generalize out[i]=d at *;obtain⟨pa,p1,p2⟩:=aLX O.slR hxi;have rm:dA PG (binOp .rem cA (.int .u64 (x:Int)) (.int .u64 (d:Int)))=some (.int .u64 ((x%d:Nat):Int)):=by
    rw[aHz (by omega)];congr 2
   have hall:(out.take (i+1)).all (λd=>decide (x%d≠0))=((out.take i).all (λd=>decide (x%d≠0))&&decide (x%d≠0)):=by
    rw[htk,List.all_append];simp
   by_cases hz:x%d=0
   ·have g3:(((x%d:Nat):Int)==0)=true:=by simp[hz]
    simp only[lv,g2,p1,p2,rm,g3,cG,reduceIte];unfold vO aA1;simp only[gi,cG,reduceIte];refine⟨⟨i+1,by omega,?_,(by trivial)⟩,?_⟩
    ·rw[hall];simp[hz]
    ·simp only[gU,sA,pK];omega
   ·have g3:(((x%d:Nat):Int)==0)=false:=by simp;omega
    simp only[lv,g2,p1,p2,rm,g3,cG,reduceIte];unfold vO aA1;simp only[gi,cG,reduceIte];refine⟨⟨i+1,by omega,?_,(by trivial)⟩,?_⟩
    ·rw[hall];simp[hz]
    ·simp only[gU,sA,pK];omega
  ·have g2:((i:Int)<(out.length:Int))=False:=eq_false (by omega);have gx:IntKind.u64.wrap ((x:Int)+1)=((x+1:Nat):Int):=by rw[gL (by omega) (by omega)];omega
   rw[mW (by omega)];have hfx:402-(x+1)=f:=by omega
   cases hok:out.all (λd=>decide (x%d≠0)) with
   | false=>
    rw[hok] at hP;simp only[lv,g2,cG,reduceIte];unfold vR aA3;simp only[gx,cG,reduceIte];refine⟨⟨x+1,v,out,F,rfl,by omega,by omega,by rw[hfx];simpa using hP,hd,O,fF,u⟩,?_⟩;simp only[gU,sA,pK];omega
   | true=>
    rw[hok,if_pos rfl] at hP;have b1:jK PG (buildSlice dO 1 #[(0,.int .u64 (x:Int))])=some (.cells #[.int .u64 (x:Int)] cA,λr=>pure (.slice (some ⟨r,0,none⟩) 1 1)):=by kernel_rfl
    simp only[lv,g2,b1,cG,reduceIte];intro r hr;refine fI ?_
    try rw[cW]
    have u1:cZ h2 (h2.set r (.cells #[.int .u64 (x:Int)] cA)):=cU.new hr;have S1:fR (h2.set r (.cells #[.int .u64 (x:Int)] cA)) 1 (.slice (some ⟨r,0,none⟩) 1 1) ([x].map oU):=(dZ.lit (n:=1) (oU.rows [x]) dL (by simp) (by decide) rfl).slR;generalize h2.set r (.cells #[.int .u64 (x:Int)] cA)=h3 at *;refine aZV (O.ext u1) S1 (by simp;omega) λv' h4 F' O' u' k'=>?_;unfold vR aA3;simp only[gx,cG,reduceIte];have e1:=u.trans u1;refine⟨⟨x+1,v',out++[x],F',rfl,by omega,by omega,by rw[hfx];exact hP,λd hdm=>?_,O',fF.grow e1 k',e1.fresh u' fF⟩,?_⟩
    ·rcases jG.1 hdm with hdm|hdm
     ·exact hd d hdm
     ·simp only[fV] at hdm;omega
    ·simp only[gU,sA,pK];omega
 ·rw[if_neg hl] at hP;obtain rfl:out=P64:=aKh hP;have g1:((P64.length:Int)<64)=False:=eq_false (by decide);simp only[lv,g1,cG,reduceIte];exact hk _ v F O u
def aCx(w:W):List Value:=[wv w]
theorem aCx.rows(l:List W):Rows 1 (l.map aCx):=λr hr=>by
 obtain⟨p,-,rfl⟩:=lO.1 hr;rfl
theorem aCx.isCell(l:List W):∀r∈l.map aCx,∀u∈r,fP u=true:=λr hr u hu=>by
 obtain⟨y,hyy,rfl⟩:=lO.1 hr;simp only[aCx,fV] at hu;subst hu;rfl
abbrev aEg(h:PH)(v:Value)(l:List W)(F:List Nat):Prop:=dZ h cL 1 v (l.map aCx) F
abbrev WSl(h:PH)(v:Value)(l:List W):Prop:=fR h 1 v (l.map aCx)
theorem aER{h:PH}{v:Value}{l:List W}(S:WSl h v l){i:Nat}{x:W}(hx:l[i]? =some x):∃a,dA PG (indexAt eP v (.int .i64 (i:Int)))=some (.pointer (some a))∧cD PG h (loadAt cL (.pointer (some a)))=some (wv x):=
 S.loadCell (t:=eP) (k:=.i64) (j:=(i:Int)) eP.und cL.info cL.size cL.und rfl (by omega) (by rw[pQ,vD,hx];rfl)
theorem aPn{h:PH}{v x:Value}{l ys:List W}{F:List Nat}(O:aEg h v l F)(S:WSl h x ys)(hl:l.length+ys.length≤1000000){t:TypeId}{k:cE}
  (hk:∀v' h' F',aEg h' v' (l++ys) F'->cU F h h'->(∀b∈F',b∈F∨h b=none)->k v' h'):cY PG (Builtin.append_ #[eP,eP] t #[v,x]) h k:=by
 refine jF eP.und eP.und cL.info cL.size cL.bytes cL.zero rfl (by decide) O S (aCx.isCell ys) (by simp;omega) ?_;intro v' h' F' O' u' k' _;rw[←qI] at O';exact hk v' h' F' O' u' k'
theorem aSb(a:W):jK PG (buildSlice eP 1 #[(0,wv a)])=some (.cells #[wv a] cL,λr=>pure (.slice (some ⟨r,0,none⟩) 1 1)):=by kernel_rfl
theorem aQN{h:PH}{k:cE}(hk:∀h' v w F G,aEg h' v kT F->aEg h' w H8 G->eD h F->eD h G->cZ h h'->k (.tuple #[v,w]) h'):aT PG zT #[] h k:=by
 apply wW.call;unfold wW;refine aTI λh1 p Fp Op u1=>?_;refine⟨λvs h'=>∃(i:Nat) (v w:Value) (F G:List Nat),i≤64∧vs=[v,w,p,.int .i64 (i:Int)]∧aEg h' v (kT.take i) F∧aEg h' w (H8.take i) G∧(∀x∈F,x∉G)∧eD h1 F∧eD h1 G∧cZ h1 h',gU 64 3,⟨0,_,_,[],[],by omega,rfl,dZ.nil,dZ.nil,by simp,(λb hb=>by cases hb),(λb hb=>by cases hb),cU.refl⟩,?_⟩;rintro ρ h' ⟨i,v,w,F,G,hi,hvs,OF,OG,hFG,fF,fG,u⟩;simp only[iH,iT,kV,and_true] at hvs;obtain⟨v2,v3,v4,v5⟩:=hvs;simp only[v2,v3,v4,v5,iH,iT];unfold aED;by_cases hl:i<64
 ·have g1:((i:Int)<64)=True:=eq_true (by omega);have gi:=pR (i:=i) (by omega);have hpi:P64[i]? =some (P64.getD i 0):=by
   rw[aAX,lQ (show i<P64.length by show i<64;omega)];rfl
  have hki:kT.take (i+1)=kT.take i++[kT.getD i 0]:=by
   rw[aSo (show i<kT.length by rw[aJ7];omega),aAX,lQ (show i<kT.length by rw[aJ7];omega)];rfl
  have hrt:=aDC.1 aX6 i (aKH.2 hl);simp only[yE,decide_eq_true_eq] at hrt;obtain⟨⟨⟨⟨r1,r2⟩,r3⟩,r4⟩,r5⟩:=hrt;obtain⟨pa,p1,p2⟩:=aLX (Op.slR.ext u) hpi;simp only[g1,p1,p2,cG,reduceIte];refine aRo _ true r5 r4 _ r1 r2 (kT.getD i 0) r3 λh2 u2=>?_;have e2:=u.trans u2;simp only[aSb,cG,reduceIte];intro r hr;refine fI ?_
  try rw[cW]
  have u3:cZ h2 (h2.set r (.cells #[wv (kT.getD i 0)] cL)):=cU.new hr;have S3:WSl (h2.set r (.cells #[wv (kT.getD i 0)] cL)) (.slice (some ⟨r,0,none⟩) 1 1) [kT.getD i 0]:=(dZ.lit (n:=1) (aCx.rows [kT.getD i 0]) dL (by simp) (by decide) rfl).slR;generalize h2.set r (.cells #[wv (kT.getD i 0)] cL)=h3 at *;have e3:=e2.trans u3;refine aPn ((OF.ext u2).ext u3) S3 (by simp;omega) λv' h4 F' O4 u4 k4=>?_;rw[←hki] at O4;have e4:=e3.fresh u4 fF;have f4:=fF.grow e3 k4;have OG4:=((OG.ext u2).ext u3).upd u4 (λb hb hm=>hFG b hm hb);have hFG4:∀x∈F',x∉G:=λx hx hm=>by
   rcases k4 x hx with h0|h0
   ·exact hFG x h0 hm
   ·exact((OG.ext u2).ext u3).known x hm h0
  by_cases h8:i<8
  ·have g2:((i:Int)<8)=True:=eq_true (by omega);have hhi:H8.take (i+1)=H8.take i++[H8.getD i 0]:=by
    rw[aSo (show i<H8.length by show i<8;omega),aAX,lQ (show i<H8.length by show i<8;omega)];rfl
   have hrs:=aDC.1 aXq i (aKH.2 h8);simp only[yE,decide_eq_true_eq] at hrs;obtain⟨⟨⟨s1,s2⟩,s3⟩,s4⟩:=hrs;obtain⟨pb,q1,q2⟩:=aLX (Op.slR.ext e4) hpi;rw[p1] at q1;obtain rfl:pa=pb:=by simpa using q1
   simp only[g2,p1,q2,cG,reduceIte];refine aRo _ false r5 s4 _ s1 s2 (H8.getD i 0) s3 λh5 u5=>?_;have e5:=e4.trans u5;simp only[aSb,cG,reduceIte];intro r' hr';refine fI ?_
   try rw[cW]
   have u6:cZ h5 (h5.set r' (.cells #[wv (H8.getD i 0)] cL)):=cU.new hr';have S6:WSl (h5.set r' (.cells #[wv (H8.getD i 0)] cL)) (.slice (some ⟨r',0,none⟩) 1 1) [H8.getD i 0]:=(dZ.lit (n:=1) (aCx.rows [H8.getD i 0]) dL (by simp) (by decide) rfl).slR;generalize h5.set r' (.cells #[wv (H8.getD i 0)] cL)=h6 at *;have e6:=e5.trans u6;refine aPn ((OG4.ext u5).ext u6) S6 (by simp;omega) λw' h7 G' O7 u7 k7=>?_;rw[←hhi] at O7;unfold rZ zI;simp only[gi,cG,reduceIte];have O4':=((O4.ext u5).ext u6).upd u7 hFG4;have hFG7:∀x∈F',x∉G':=λx hx hm=>by
    rcases k7 x hm with h0|h0
    ·exact hFG4 x hx h0
    ·exact((O4.ext u5).ext u6).known x hx h0
   refine⟨⟨i+1,v',w',F',G',by omega,rfl,O4',O7,hFG7,f4,fG.grow e6 k7,e6.fresh u7 fG⟩,?_⟩;simp only[gU,sA,pK];omega
  ·have g2:((i:Int)<8)=False:=eq_false (by omega);have hhi:H8.take (i+1)=H8.take i:=by
    rw[mW (show H8.length≤i+1 by show 8≤i+1;omega),mW (show H8.length≤i by show 8≤i;omega)]
   simp only[g2,cG,reduceIte];unfold rZ zI;simp only[gi,cG,reduceIte];refine⟨⟨i+1,v',w,F',G,by omega,rfl,O4,by rw[hhi];exact OG4,hFG4,f4,fG,e4⟩,?_⟩;simp only[gU,sA,pK];omega
 ·have g1:((i:Int)<64)=False:=eq_false (by omega);rw[mW (by rw[aJ7];omega)] at OF;rw[mW (show H8.length≤i by show 8≤i;omega)] at OG;simp only[g1,cG,reduceIte];exact hk h' v w F G OF OG (fF.of u1) (fG.of u1) (u1.trans u)
theorem aAI{h:PH}{x:W}{n:Nat}(h1:1≤n)(h2:n≤31){k:cE}(hk:k (wv (tn x n)) h):aT PG jZ #[wv x,.int .i64 n] h k:=by
 apply sT.call;unfold sT;have e1:IntKind.i64.wrap (32-(n:Int))=((32-n:Nat):Int):=by rw[eV (by omega) (by omega)];omega
 simp only[aJO (show n≤32 by omega),e1,aNy (show 32-n≤32 by omega),aUt,cG,reduceIte];rw[BitVec.or_comm];exact hk
theorem aZW{t:TypeId}{x:W}{c:Nat}:dA PG (binOp .mul t (wv x) (.int .u32 (c:Int)))=some (wv (x*BitVec.ofNat 32 c)):=by
 unfold wv;rw[aQp,aFr,BitVec.toNat_mul,BitVec.toNat_ofNat,←Int.natCast_mul];congr 2;have:x.toNat*(c%2^32)%2^32=x.toNat*c%4294967296:=by rw[Nat.mul_mod_mod]
 rw[this];rfl
theorem aQQ{t:TypeId}{x:W}{c:Nat}{i:Int}{w:W}(hi:i=(c:Int))(hw:w=BitVec.ofNat 32 c):dA PG (binOp .mul t (wv x) (.int .u32 i))=some (wv (x*w)):=by
 subst hi hw;exact aZW
theorem aXJ{t:TypeId}{x:W}:dA PG (binOp .mul t (wv x) (.int .u32 16777216))=some (wv (x*16777216)):=aQQ (c:=16777216) (by decide) (by decide)
theorem aW5{t:TypeId}{x:W}:dA PG (binOp .mul t (wv x) (.int .u32 65536))=some (wv (x*65536)):=aQQ (c:=65536) (by decide) (by decide)
theorem aX7{t:TypeId}{x:W}:dA PG (binOp .mul t (wv x) (.int .u32 256))=some (wv (x*256)):=aQQ (c:=256) (by decide) (by decide)
theorem aZQ{t:TypeId}{x:W}:dA PG (binOp .sub t (.int .u32 4294967295) (wv x))=some (wv (~~~x)):=by
 unfold wv;rw[aNI,aFr,BitVec.toNat_not];have:=x.isLt;congr 2;omega
theorem aSe(i a b:Nat)(h:b<2^i):a*2^i ||| b=a*2^i+b:=by
 have:=Nat.shiftLeft_add_eq_or_of_lt (i:=i) (b:=b) h a;rw[Nat.shiftLeft_eq] at this;exact this.symm
theorem aZ0(a b:Nat)(h:b<16777216):a*16777216 ||| b=a*16777216+b:=aSe 24 a b h
theorem aZd(a b:Nat)(h:b<65536):a*65536 ||| b=a*65536+b:=aSe 16 a b h
theorem or8(a b:Nat)(h:b<256):a*256 ||| b=a*256+b:=aSe 8 a b h
theorem aXr{a b c d:Nat}(hb:b<256)(hc:c<256)(hd:d<256):((a*16777216 ||| b*65536) ||| c*256) ||| d=a*16777216+b*65536+c*256+d:=by
 rw[aZ0 a (b*65536) (by omega)];have e1:a*16777216+b*65536=(a*256+b)*65536:=by omega
 rw[e1,aZd _ (c*256) (by omega)];have e2:(a*256+b)*65536+c*256=(a*65536+b*256+c)*256:=by simp only[zLE,Nat.mul_assoc,Nat.reduceMul]
 rw[e2,or8 _ d hd]
theorem aX3{a b c d:Nat}(ha:a<256)(hb:b<256)(hc:c<256)(hd:d<256):
  (((a%4294967296*16777216%4294967296+b%4294967296*65536%4294967296)%4294967296+c%4294967296*256%4294967296)%4294967296+d%4294967296)%4294967296
   =a%4294967296*16777216%4294967296 ||| b%4294967296*65536%4294967296 ||| c%4294967296*256%4294967296 ||| d%4294967296:=by
 have lt:∀{x:Nat},x<256->x%4294967296=x:=λh=>aCk (by omega);rw[lt ha,lt hb,lt hc,lt hd,aCk (a:=a*16777216) (by omega),aCk (a:=b*65536) (by omega),aCk (a:=c*256) (by omega),aXr hb hc hd];rw[aCk (a:=a*16777216+b*65536) (by omega),aCk (a:=a*16777216+b*65536+c*256) (by omega)];exact aCk (by omega)
theorem w24:(16777216:W).toNat=16777216:=by simp
theorem w16:(65536:W).toNat=65536:=by simp
theorem aZp:(256:W).toNat=256:=by simp
theorem m24(a:Nat):(BitVec.ofNat 32 a*16777216).toNat=a%4294967296*16777216%4294967296:=by rw[BitVec.toNat_mul,BitVec.toNat_ofNat,w24]
theorem m16(a:Nat):(BitVec.ofNat 32 a*65536).toNat=a%4294967296*65536%4294967296:=by rw[BitVec.toNat_mul,BitVec.toNat_ofNat,w16]
theorem m8(a:Nat):(BitVec.ofNat 32 a*256).toNat=a%4294967296*256%4294967296:=by rw[BitVec.toNat_mul,BitVec.toNat_ofNat,aZp]
theorem s24(a:Nat):(BitVec.ofNat 32 a <<< 24).toNat=a%4294967296*16777216%4294967296:=by rw[BitVec.toNat_shiftLeft,BitVec.toNat_ofNat,Nat.shiftLeft_eq]
theorem s16(a:Nat):(BitVec.ofNat 32 a <<< 16).toNat=a%4294967296*65536%4294967296:=by rw[BitVec.toNat_shiftLeft,BitVec.toNat_ofNat,Nat.shiftLeft_eq]
theorem s8(a:Nat):(BitVec.ofNat 32 a <<< 8).toNat=a%4294967296*256%4294967296:=by rw[BitVec.toNat_shiftLeft,BitVec.toNat_ofNat,Nat.shiftLeft_eq]
theorem aVe(x y:W):(x+y).toNat=(x.toNat+y.toNat)%4294967296:=BitVec.toNat_add x y
theorem aUE(a b c d:UInt8):((BitVec.ofNat 32 a.toNat*16777216+BitVec.ofNat 32 b.toNat*65536)+BitVec.ofNat 32 c.toNat*256)+BitVec.ofNat 32 d.toNat=w4 a b c d:=by
 apply BitVec.eq_of_toNat_eq;unfold w4;rw[BitVec.toNat_or,BitVec.toNat_or,BitVec.toNat_or,aVe,aVe,aVe,s24,s16,s8,m24,m16,m8,BitVec.toNat_ofNat];exact aX3 a.toNat_lt b.toNat_lt c.toNat_lt d.toNat_lt
def zY(l:List W):List W:=l++List.replicate (64-l.length) 0
theorem aJS{l:List W}{i:Nat}(hi:i<l.length):(zY l)[i]? =some (l.getD i 0):=by
 unfold zY;rw[List.getElem?_append_left hi,aAX,lQ hi];rfl
theorem aPJ{l:List W}(hl:l.length≤64):(zY l).length=64:=by simp[zY];omega
theorem aTB{l:List W}(hl:l.length=64):zY l=l:=by simp[zY,hl]
theorem aTN{l:List W}(hl:l.length<64)(x:W):((zY l).map aCx).take l.length++[[wv x]]++((zY l).map aCx).drop (l.length+1)=(zY (l++[x])).map aCx:=by
 unfold zY;rw[show 64-l.length=(64-(l.length+1))+1 by omega,List.replicate_succ];simp only[qI,iH,jP,zLS];rw[zLG (by simp),mW (by simp)];have e:l.length+1=(l.map aCx).length+1:=by simp
 rw[e,←aI5];simp[aCx]
theorem aWA{h:PH}{v:Value}{l:List W}{F:List Nat}(O:aEg h v (zY l) F)(hl:l.length<64)(x:W):∃a,dA PG (indexAt eP v (.int .i64 (l.length:Int)))=some (.pointer (some a))∧
  ∀K:Value->PH->Prop,(∀h',aEg h' v (zY (l++[x])) F->cU F h h'->K undef h')->cY PG (dN cL (.pointer (some a)) (wv x)) h K:=by
 obtain⟨a,q1,q2⟩:=dZ.storeCell O (t:=eP) (k:=.i64) (j:=l.length) eP.und cL.info cL.size cL.und rfl (by rw[iS,aPJ (by omega)];exact hl) (x:=wv x) rfl;refine⟨a,q1,λK hK=>q2 K λh' O' u=>hK h' ?_ u⟩;rw[aTN hl] at O';exact O'
theorem rb6{b:List UInt8}(hb:b.length=64){i:Nat}(hi:i<16){h:PH}{R:cE}{n5:gI}{kv v w:Value}{F:List Nat}(O:aEg h w (zY (xN b i)) F)
  (hn:∀h',aEg h' w (zY (xN b (i+1))) F->cU F h h'->n5 [.string (tx b),kv,v,w,.int .i64 ((i+1:Nat):Int)] h'):
  yS R n5 (.string (tx b)) kv v w (.int .i64 (i:Int)) h:=by
 unfold yS;have e1:((i:Int)<16)=True:=eq_true (by omega);have e2:IntKind.i64.wrap (4*(i:Int))=((4*i:Nat):Int):=by rw[eV (by omega) (by omega)];omega
 have e31:IntKind.i64.wrap (((4*i:Nat):Int)+1)=((4*i+1:Nat):Int):=by rw[eV (by omega) (by omega)];omega
 have e32:IntKind.i64.wrap (((4*i:Nat):Int)+2)=((4*i+2:Nat):Int):=by rw[eV (by omega) (by omega)];omega
 have e33:IntKind.i64.wrap (((4*i:Nat):Int)+3)=((4*i+3:Nat):Int):=by rw[eV (by omega) (by omega)];omega
 have e4:=pR (i:=i) (by omega);have ix:∀j,j<64->b[j]? =some (b.getD j 0):=λj hj=>by
  rw[aAX,lQ (by omega)];rfl
 have i0:dA PG (Instr.index bR (.string (tx b)) (.int .i64 ((4*i:Nat):Int)))=_:=zF (j:=4*i) bR.und (ix _ (by omega));have i1:dA PG (Instr.index bR (.string (tx b)) (.int .i64 ((4*i+1:Nat):Int)))=_:=zF (j:=4*i+1) bR.und (ix _ (by omega));have i2:dA PG (Instr.index bR (.string (tx b)) (.int .i64 ((4*i+2:Nat):Int)))=_:=zF (j:=4*i+2) bR.und (ix _ (by omega));have i3:dA PG (Instr.index bR (.string (tx b)) (.int .i64 ((4*i+3:Nat):Int)))=_:=zF (j:=4*i+3) bR.und (ix _ (by omega));have hl:(xN b i).length=i:=aGw b i;obtain⟨a,q1,q2⟩:=aWA O (by omega) (wat b i);rw[hl] at q1;have hw:wat b i=w4 (b.getD (4*i) 0) (b.getD (4*i+1) 0) (b.getD (4*i+2) 0) (b.getD (4*i+3) 0):=rfl;rw[hw,←aUE] at q2;simp only[e1,e2,e31,e32,e33,e4,i0,i1,i2,i3,aSB,w8,aXJ,aW5,aX7,aFn,q1,cG,reduceIte];refine q2 _ λh' O' u=>hn h' ?_ u;rw[aUE,←hw,←aMe] at O';exact O'
theorem aZk{b:List UInt8}{i:Nat}(hi:i<48){h:PH}{R:cE}{n5:gI}{kv v w:Value}{F:List Nat}(O:aEg h w (zY (mM b i)) F)
  (hn:∀h',aEg h' w (zY (mM b (i+1))) F->cU F h h'->n5 [kv,v,w,.int .i64 ((i+1+16:Nat):Int)] h'):
  wZ R n5 kv v w (.int .i64 ((i+16:Nat):Int)) h:=by
 unfold wZ;have hl:=aJY b i;have S:=O.slR;have e1:(((i+16:Nat):Int)<64)=True:=eq_true (by omega);have e2:IntKind.i64.wrap (((i+16:Nat):Int)-15)=((i+1:Nat):Int):=by rw[eV (by omega) (by omega)];omega
 have e3:IntKind.i64.wrap (((i+16:Nat):Int)-2)=((i+14:Nat):Int):=by rw[eV (by omega) (by omega)];omega
 have e4:IntKind.i64.wrap (((i+16:Nat):Int)-16)=((i:Nat):Int):=by rw[eV (by omega) (by omega)];omega
 have e5:IntKind.i64.wrap (((i+16:Nat):Int)-7)=((i+9:Nat):Int):=by rw[eV (by omega) (by omega)];omega
 have e6:IntKind.i64.wrap (((i+16:Nat):Int)+1)=((i+1+16:Nat):Int):=by rw[eV (by omega) (by omega)];omega
 obtain⟨a1,p1,c1⟩:=aER S (aJS (l:=mM b i) (i:=i+1) (by omega));obtain⟨a2,p2,c2⟩:=aER S (aJS (l:=mM b i) (i:=i+14) (by omega));obtain⟨a3,p3,c3⟩:=aER S (aJS (l:=mM b i) (i:=i) (by omega));obtain⟨a4,p4,c4⟩:=aER S (aJS (l:=mM b i) (i:=i+9) (by omega));simp only[e1,e2,p1,c1,sr3,cG,reduceIte];refine aAI (n:=7) (by decide) (by decide) ?_;refine⟨c1,c1,?_⟩;refine aAI (n:=18) (by decide) (by decide) ?_;refine⟨c1,?_⟩;simp only[aEE,e3,p2,c2,aYM,cG,reduceIte];refine aAI (n:=17) (by decide) (by decide) ?_;refine⟨c2,c2,?_⟩;refine aAI (n:=19) (by decide) (by decide) ?_;refine⟨c2,?_⟩;obtain⟨a,q1,q2⟩:=aWA O (by omega) (aMK (mM b i) (i+16));rw[hl] at q1;simp only[aEE,aFn,e4,e5,p3,c3,p4,c4,q1,e6,cG,reduceIte];have hx:((tn ((mM b i).getD (i+14) 0) 17 ^^^ tn ((mM b i).getD (i+14) 0) 19) ^^^ ((mM b i).getD (i+14) 0>>>10))+(mM b i).getD (i+9) 0+((tn ((mM b i).getD (i+1) 0) 7 ^^^ tn ((mM b i).getD (i+1) 0) 18) ^^^ ((mM b i).getD (i+1) 0>>>3))+(mM b i).getD i 0=aMK (mM b i) (i+16):=by
  unfold aMK;rw[show i+16-15=i+1 by omega,show i+16-2=i+14 by omega,show i+16-16=i by omega,show i+16-7=i+9 by omega];simp only
  ac_rfl
 rw[hx];exact q2 _ λh' O' u=>hn h' O' u
theorem S8.l_get(s:S8){i:Nat}(hi:i<8):s.l[i]? =Option.some (s.l.getD i 0):=by
 rw[aAX,lQ (show i<s.l.length from hi)];rfl
theorem aZZ(a b c d e f g x:W):jK PG (buildSlice eP 8 #[(0,wv a),(1,wv b),(2,wv c),(3,wv d),(4,wv e),(5,wv f),(6,wv g),(7,wv x)])=some (.cells #[wv a,wv b,wv c,wv d,wv e,wv f,wv g,wv x] cL,λr=>pure (.slice (some ⟨r,0,none⟩) 8 8)):=by kernel_rfl
theorem aZh{ws:List W}(hws:ws.length=64){s:S8}{i:Nat}(hi:i<64){h:PH}{R:cE}{n:gI}{kv v w x:Value}(SK:WSl h kv kT)(SW:WSl h w ws)(SX:WSl h x s.l)
  (hn:∀x' h',WSl h' x' (rnd s (kT.getD i 0) (ws.getD i 0)).l->cZ h h'->n [kv,v,w,x',.int .i64 ((i+1:Nat):Int)] h'):
  xG R n kv v w x (.int .i64 (i:Int)) h:=by
 unfold xG;have e1:((i:Int)<64)=True:=eq_true (by omega);have e4:=pR (i:=i) (by omega);obtain⟨a0,p0,c0⟩:=aER SX (s.l_get (i:=0) (by decide));obtain⟨a1,p1,c1⟩:=aER SX (s.l_get (i:=1) (by decide));obtain⟨a2,p2,c2⟩:=aER SX (s.l_get (i:=2) (by decide));obtain⟨a3,p3,c3⟩:=aER SX (s.l_get (i:=3) (by decide));obtain⟨a4,p4,c4⟩:=aER SX (s.l_get (i:=4) (by decide));obtain⟨a5,p5,c5⟩:=aER SX (s.l_get (i:=5) (by decide));obtain⟨a6,p6,c6⟩:=aER SX (s.l_get (i:=6) (by decide));obtain⟨a7,p7,c7⟩:=aER SX (s.l_get (i:=7) (by decide));have z0:s.l.getD 0 0=s.a:=rfl;have z1:s.l.getD 1 0=s.b:=rfl;have z2:s.l.getD 2 0=s.c:=rfl;have z3:s.l.getD 3 0=s.d:=rfl;have z4:s.l.getD 4 0=s.e:=rfl;have z5:s.l.getD 5 0=s.f:=rfl;have z6:s.l.getD 6 0=s.g:=rfl;have z7:s.l.getD 7 0=s.h:=rfl;rw[z0] at c0;rw[z1] at c1;rw[z2] at c2;rw[z3] at c3;rw[z4] at c4;rw[z5] at c5;rw[z6] at c6;rw[z7] at c7;simp only[show((0:Nat):Int)=0 from rfl,show((1:Nat):Int)=1 from rfl,show((2:Nat):Int)=2 from rfl,show((3:Nat):Int)=3 from rfl,show((4:Nat):Int)=4 from rfl,show((5:Nat):Int)=5 from rfl,show((6:Nat):Int)=6 from rfl,show((7:Nat):Int)=7 from rfl] at p0 p1 p2 p3 p4 p5 p6 p7;have hk:kT[i]? =some (kT.getD i 0):=by
  rw[aAX,lQ (by rw[aJ7];exact hi)];rfl
 have hw:ws[i]? =some (ws.getD i 0):=by
  rw[aAX,lQ (by rw[hws];exact hi)];rfl
 obtain⟨ak,pk,ck⟩:=aER SK hk;obtain⟨aw,pw,cw⟩:=aER SW hw;simp only[e1,p0,p1,p2,p4,p5,p6,p7,c0,c1,c2,c4,c5,c6,c7,pk,ck,pw,cw,aPl,aZQ,aEE,cG,reduceIte];refine aAI (n:=6) (by decide) (by decide) ?_;refine⟨cw,ck,c7,?_⟩;refine aAI (n:=11) (by decide) (by decide) ?_;refine⟨cw,ck,c7,?_⟩;simp only[aEE,cG,reduceIte];refine aAI (n:=25) (by decide) (by decide) ?_;refine⟨cw,ck,c7,?_⟩;simp only[aEE,aFn,cG,reduceIte];refine aAI (n:=2) (by decide) (by decide) ?_;refine aAI (n:=13) (by decide) (by decide) ?_;simp only[aEE,cG,reduceIte];refine aAI (n:=22) (by decide) (by decide) ?_;simp only[aEE,aPl,aFn,p3,c3,aZZ,e4,cG,reduceIte];intro r hr;refine fI ?_
 try rw[cW]
 refine hn _ _ ?_ (cU.new hr);exact(dZ.lit (n:=8) (aCx.rows (rnd s (kT.getD i 0) (ws.getD i 0)).l) dL (by rfl) (by decide) rfl).slR
theorem aW0(s t:S8){i:Nat}(hi:i<8):(s.add t).l.take (i+1)=(s.add t).l.take i++[s.l.getD i 0+t.l.getD i 0]:=by
 have:i=0∨i=1∨i=2∨i=3∨i=4∨i=5∨i=6∨i=7:=by omega
 rcases this with rfl|rfl|rfl|rfl|rfl|rfl|rfl|rfl<;>rfl
theorem aVn{h:PH}{b:List UInt8}(hb:b.length=64){s:S8}{kv v:Value}(SK:WSl h kv kT)(SV:WSl h v s.l){k:cE}(hk:∀h' w,WSl h' w (aJp s b).l->cZ h h'->k w h'):
  aT PG aCS #[.string (tx b),kv,v] h k:=by
 apply tN.call;unfold tN;obtain⟨zs',hm,hz⟩:=aET (P:=PG) (n:=64) eP.und cL.info cL.size cL.bytes cL.zero rfl (by decide) (by omega) (by omega);simp only[show((64:Nat):Int)=64 from rfl] at hm;simp only[hm,cG,reduceIte];intro r hr;refine fI ?_
 try rw[cW]
 have u1:cZ h (h.set r (.cells zs' cL (0,0))):=cU.new hr;have O1:aEg (h.set r (.cells zs' cL (0,0))) (.slice (some ⟨r,0,none⟩) 64 64) (zY (xN b 0)) [r]:=dZ.lit (n:=64) (aCx.rows _) dL (by rw[iS,aPJ (by simp[aGw])]) (by decide) (by
  rw[hz];rfl)
 generalize h.set r (.cells zs' cL (0,0))=h1 at *;have fr:=eD.one hr;refine⟨λvs h'=>∃i:Nat,i≤16∧vs=[.string (tx b),kv,v,.slice (some ⟨r,0,none⟩) 64 64,.int .i64 (i:Int)]∧aEg h' (.slice (some ⟨r,0,none⟩) 64 64) (zY (xN b i)) [r]∧cZ h h',gU 16 4,⟨0,by omega,rfl,O1,u1⟩,?_⟩;rintro ρ h' ⟨i,hi,hvs,O,u⟩;simp only[iH,iT,kV,and_true] at hvs;obtain⟨v0,v1,v2,v7,v8⟩:=hvs;simp only[v0,v1,v2,v7,v8,iH,iT];by_cases hl:i<16
 ·refine rb6 hb hl O λh2 O2 u2=>⟨⟨i+1,by omega,rfl,O2,u.fresh u2 fr⟩,?_⟩;simp only[gU,sA,pK];omega
 obtain rfl:i=16:=by omega
 unfold yS;simp only[show(((16:Nat):Int)<16)=False from eq_false (by decide),cG,reduceIte];refine⟨λvs h2=>∃i:Nat,i≤48∧vs=[kv,v,.slice (some ⟨r,0,none⟩) 64 64,.int .i64 ((i+16:Nat):Int)]∧aEg h2 (.slice (some ⟨r,0,none⟩) 64 64) (zY (mM b i)) [r]∧cZ h h2,gU 64 3,⟨0,by omega,rfl,O,u⟩,?_⟩;rintro ρ2 h2 ⟨i,hi,hvs,O2,u2⟩;simp only[iH,iT,kV,and_true] at hvs;obtain⟨w1,w2,w7,w9⟩:=hvs;simp only[w1,w2,w7,w9,iH,iT];by_cases hl:i<48
 ·refine aZk hl O2 λh3 O3 u3=>⟨⟨i+1,by omega,rfl,O3,u2.fresh u3 fr⟩,?_⟩;simp only[gU,sA,pK];omega
 obtain rfl:i=48:=by omega
 have hws:(mM b 48).length=64:=aKr b;rw[aTB hws] at O2;unfold wZ;have b0:jK PG (buildSlice eP 0 #[])=some (.cells #[] cL,λr=>pure (.slice (some ⟨r,0,none⟩) 0 0)):=by kernel_rfl
 simp only[show(((48+16:Nat):Int)<64)=False from eq_false (by decide),b0,cG,reduceIte];intro r3 hr3;refine fI ?_
 try rw[cW]
 have u3:cZ h2 (h2.set r3 (.cells #[] cL)):=cU.new hr3;have O3:aEg (h2.set r3 (.cells #[] cL)) (.slice (some ⟨r3,0,none⟩) 0 0) [] [r3]:=dZ.lit (n:=0) (aCx.rows []) dL (by simp) (by decide) rfl;generalize h2.set r3 (.cells #[] cL)=h3 at *;have e3:=u2.trans u3;refine aPn O3 (SV.ext e3) (by simp[S8.l]) λx h4 F4 O4 u4 k4=>?_;rw[yF] at O4;have fr3:eD h [r3]:=eD.one (u2.none hr3);have e4:=e3.fresh u4 fr3;have SW:WSl h4 (.slice (some ⟨r,0,none⟩) 64 64) (mM b 48):=((O2.ext u3).upd u4 (λy hy hm=>by
  simp only[fV] at hy hm;subst hy;exact(O2.known y (by simp)) (by rw[hm];exact hr3))).slR
 refine⟨λvs h5=>∃(i:Nat) (x:Value),i≤64∧vs=[kv,v,.slice (some ⟨r,0,none⟩) 64 64,x,.int .i64 (i:Int)]∧WSl h5 x (aH2 (mM b 48) s i).l∧cZ h4 h5,gU 64 4,⟨0,_,by omega,rfl,O4.slR,cU.refl⟩,?_⟩;rintro ρ3 h5 ⟨i,x5,hi,hvs,S5,u5⟩;simp only[iH,iT,kV,and_true] at hvs;obtain⟨w1,w2,w7,w12,w13⟩:=hvs;simp only[w1,w2,w7,w12,w13,iH,iT];have e5:=e4.trans u5;by_cases hl:i<64
 ·refine aZh hws hl (SK.ext e5) (SW.ext u5) S5 λx' h6 S6 u6=>⟨⟨i+1,x',by omega,rfl,S6,u5.trans u6⟩,?_⟩;simp only[gU,sA,pK];omega
 obtain rfl:i=64:=by omega
 unfold xG;simp only[show(((64:Nat):Int)<64)=False from eq_false (by decide),cG,reduceIte];have hmix:(s.add (aH2 (mM b 48) s 64))=aJp s b:=rfl;generalize aH2 (mM b 48) s 64=q at *;refine⟨λvs h6=>∃(i:Nat) (z:Value) (F:List Nat),i≤8∧vs=[v,x5,z,.int .i64 (i:Int)]∧aEg h6 z ((s.add q).l.take i) F∧eD h5 F∧cZ h5 h6,gU 8 3,⟨0,_,[],by omega,rfl,dZ.nil,(λb hb=>by cases hb),cU.refl⟩,?_⟩;rintro ρ4 h6 ⟨i,z,F6,hi,hvs,O6,f6,u6⟩;simp only[iH,iT,kV,and_true] at hvs;obtain⟨w2,w12,w22,w23⟩:=hvs;simp only[w2,w12,w22,w23,iH,iT];unfold aE8;by_cases hl:i<8
 ·have g1:((i:Int)<8)=True:=eq_true (by omega);have gi:=pR (i:=i) (by omega);obtain⟨a1,p1,c1⟩:=aER ((SV.ext e5).ext u6) (s.l_get hl);obtain⟨a2,p2,c2⟩:=aER (S5.ext u6) (q.l_get hl);simp only[g1,gi,p1,c1,p2,c2,aFn,aSb,cG,reduceIte];intro r7 hr7;refine fI ?_
  try rw[cW]
  have u7:cZ h6 (h6.set r7 (.cells #[wv (s.l.getD i 0+q.l.getD i 0)] cL)):=cU.new hr7;have S7:WSl (h6.set r7 (.cells #[wv (s.l.getD i 0+q.l.getD i 0)] cL)) (.slice (some ⟨r7,0,none⟩) 1 1) [s.l.getD i 0+q.l.getD i 0]:=(dZ.lit (n:=1) (aCx.rows [_]) dL (by simp) (by decide) rfl).slR;generalize h6.set r7 (.cells #[wv (s.l.getD i 0+q.l.getD i 0)] cL)=h7 at *;refine aPn (O6.ext u7) S7 (by simp[S8.l];omega) λz' h8 F8 O8 u8 k8=>?_;rw[←aW0 s q hl] at O8;have e7:=u6.trans u7;refine⟨⟨i+1,z',F8,by omega,rfl,O8,f6.grow e7 k8,e7.fresh u8 f6⟩,?_⟩;simp only[gU,sA,pK];omega
 ·obtain rfl:i=8:=by omega
  have hfull:(s.add q).l.take 8=(aJp s b).l:=by rw[hmix];rfl
  rw[hfull] at O6;simp only[show(((8:Nat):Int)<8)=False from eq_false (by decide),cG,reduceIte];exact hk _ _ O6.slR (e5.trans u6)
end
section
open Go Bld
def aTu(m:Nat)(i:Nat):List Value->PH->Nat:=λvs _=>match vs[i]? with
 | some (.string s)=>m-s.size
 | _=>0
def aMt(n:Nat):Nat:=(119-n%64)%64
theorem aOC(n:Nat):aIw n=128::(List.replicate (aMt n) 0++be (n*8%18446744073709551616) 8):=rfl
theorem aYS{m j:Nat}(hj:j<8)(x:UInt8)(hx:x=UInt8.ofNat (m/256^j%256)):
  ((List.replicate (8-j) 0++(be m 8).drop (8-j)).map jC).take (7-j)++[jC x]++((List.replicate (8-j) 0++(be m 8).drop (8-j)).map jC).drop (7-j+1)=(List.replicate (8-(j+1)) 0++(be m 8).drop (8-(j+1))).map jC:=by
 have e1:(List.replicate (8-j) (0:UInt8)++(be m 8).drop (8-j)).take (7-j)=List.replicate (8-(j+1)) 0:=by
  rw[zLG (by simp;omega),List.take_replicate];congr 1;omega
 have e2:(List.replicate (8-j) (0:UInt8)++(be m 8).drop (8-j)).drop (7-j+1)=(be m 8).drop (8-j):=by
  rw[List.drop_append_of_le_length (by simp;omega)];have:(List.replicate (8-j) (0:UInt8)).drop (7-j+1)=[]:=aLq (by simp;omega);rw[this];rfl
 have e3:(be m 8).drop (8-(j+1))=x::(be m 8).drop (8-j):=by
  have hg:=aNL m 8 (8-(j+1)) (by omega);have:8-1-(8-(j+1))=j:=by omega
  rw[this] at hg;obtain⟨hlt',hg'⟩:=zLz.1 hg;rw[aM7 hlt',hg',hx];have:8-(j+1)+1=8-j:=by omega
  rw[this]
 rw[←aKm,←List.map_drop,e1,e2,e3];simp
theorem aXz{h:PH}{l:List UInt8}(hl:l.length≤1000000000){k:cE}(hk:∀h',cZ h h'->k (.string (tx (l++aIw l.length))) h'):aT PG aDp #[.string (tx l)] h k:=by
 apply wE.call;unfold wE;have w1:IntKind.u64.wrap (l.length:Int)=(l.length:Int):=gL (by omega) (by omega);have w2:IntKind.u64.wrap ((l.length:Int)*8)=((l.length*8:Nat):Int):=by rw[gL (by omega) (by omega)];omega
 simp only[bR.len,iB,aBZ,w1,w2,aLV,cG,reduceIte];intro r hr;refine fI ?_
 try rw[cW]
 have u1:cZ h (h.set r (.cells #[.int .u8 128] dJ)):=cU.new hr;have S1:fR (h.set r (.cells #[.int .u8 128] dJ)) 1 (.slice (some ⟨r,0,none⟩) 1 1) ([(128:UInt8)].map jC):=(dZ.lit (jC.rows [128]) dL (by simp) (by decide) (by rfl)).slR;generalize h.set r (.cells #[.int .u8 128] dJ)=h1 at *;have hcv:cD PG h1 (convert cX bR (.slice (some ⟨r,0,none⟩) 1 1))=some (.string (tx [128])):=aDH cX.und dJ.und bR.und S1;have hadd:dA PG (binOp .add bR (.string (tx l)) (.string (tx [128])))=some (.string (tx (l++[128]))):=lJ (by simp;omega);simp only[hcv,hadd,cG,reduceIte];have hz64:aMt l.length<64:=zLA _ (by decide);have hzd:aMt l.length=(119-l.length%64)%64:=rfl;generalize hpn:aMt l.length=z at *;refine⟨λvs h'=>∃j:Nat,j≤z∧vs=[.string (tx (l++128::List.replicate j 0)),.int .u64 ((l.length*8:Nat):Int)]∧cZ h h',aTu (l.length+1+z) 0,⟨0,by omega,rfl,u1⟩,?_⟩;rintro ρ h' ⟨j,hj,hvs,u⟩;simp only[iH,iT,kV,and_true] at hvs;obtain⟨v0,v3⟩:=hvs;simp only[v0,v3,iH,iT];unfold aGW;have hlen:(l++128::List.replicate j (0:UInt8)).length=l.length+1+j:=by simp;omega
 have rm:dA PG (binOp .rem bT (.int .i64 ((l.length+1+j:Nat):Int)) (.int .i64 64))=some (.int .i64 (((l.length+1+j)%64:Nat):Int)):=by
  rw[aHz (by decide)];exact congrArg some (congrArg _ (Int.ofNat_tmod _ 64).symm)
 simp only[bR.len,iB,hlen,rm,kE,cG,reduceIte];by_cases hjz:j<z
 ·have g:((((l.length+1+j)%64:Nat):Int) !=56)=true:=by rw[bne_iff_ne];omega
  simp only[g,aLV,cG,reduceIte];intro r2 hr2;refine fI ?_
  try rw[cW]
  have u2:cZ h' (h'.set r2 (.cells #[.int .u8 0] dJ)):=cU.new hr2;have S2:fR (h'.set r2 (.cells #[.int .u8 0] dJ)) 1 (.slice (some ⟨r2,0,none⟩) 1 1) ([(0:UInt8)].map jC):=(dZ.lit (jC.rows [0]) dL (by simp) (by decide) (by rfl)).slR;generalize h'.set r2 (.cells #[.int .u8 0] dJ)=h2 at *;have hcv2:cD PG h2 (convert cX bR (.slice (some ⟨r2,0,none⟩) 1 1))=some (.string (tx [0])):=aDH cX.und dJ.und bR.und S2;have hadd2:dA PG (binOp .add bR (.string (tx (l++128::List.replicate j 0))) (.string (tx [0])))=some (.string (tx (l++128::List.replicate (j+1) 0))):=by
   rw[lJ (by rw[hlen];simp;omega)];congr 3;rw[List.replicate_succ',mT];rfl
  simp only[hcv2,hadd2,cG,reduceIte];refine⟨⟨j+1,by omega,rfl,u.trans u2⟩,?_⟩;have hlen2:(l++128::List.replicate (j+1) (0:UInt8)).length=l.length+1+(j+1):=by simp;omega
  simp only[aTu,pK,iB,hlen,hlen2];omega
 ·obtain rfl:j=z:=by omega
  have g:((((l.length+1+j)%64:Nat):Int) !=56)=false:=by rw[bne_eq_false_iff_eq];omega
  obtain⟨zs',hm,hzz⟩:=aET (P:=PG) (n:=8) cX.und dJ.info dJ.size dJ.bytes dJ.zero rfl (by decide) (by omega) (by omega);simp only[show((8:Nat):Int)=8 from rfl] at hm;simp only[g,hm,cG,reduceIte];intro r2 hr2;refine fI ?_
  try rw[cW]
  have u2:cZ h' (h'.set r2 (.cells zs' dJ (0,0))):=cU.new hr2;have O2:dZ (h'.set r2 (.cells zs' dJ (0,0))) dJ 1 (.slice (some ⟨r2,0,none⟩) 8 8) ((List.replicate (8-0) 0++(be (l.length*8) 8).drop (8-0)).map jC) [r2]:=
   dZ.lit (n:=8) (jC.rows _) dL (by simp[iC]) (by decide) (by
    rw[hzz,aLq (by simp[iC])];rfl)
  generalize h'.set r2 (.cells zs' dJ (0,0))=h2 at *;have fr:eD h [r2]:=eD.one (u.none hr2);have e2:=u.trans u2;generalize hm8:l.length*8=m at *;refine⟨λvs h3=>∃i:Nat,i≤8∧vs=[.string (tx (l++128::List.replicate j 0)),.int .u64 ((m/256^i:Nat):Int),.slice (some ⟨r2,0,none⟩) 8 8,.int .i64 (7-(i:Int))]∧dZ h3 dJ 1 (.slice (some ⟨r2,0,none⟩) 8 8) ((List.replicate (8-i) 0++(be m 8).drop (8-i)).map jC) [r2]∧cZ h h3,aOg 3,⟨0,by omega,by simp,O2,e2⟩,?_⟩;rintro ρ2 h3 ⟨i,hi,hvs,O3,u3⟩;simp only[iH,iT,kV,and_true] at hvs;obtain⟨w0,w3,w4,w5⟩:=hvs;simp only[w0,w3,w4,w5,iH,iT];unfold aGi;by_cases hi8:i<8
  ·have g1:((0:Int)≤7-(i:Int))=True:=eq_true (by omega);have g2:7-(i:Int)=((7-i:Nat):Int):=by omega
   have g3:IntKind.i64.wrap (7-(i:Int)-1)=7-((i+1:Nat):Int):=by rw[eV (by omega) (by omega)];omega
   have hle:m/256^i≤m:=Nat.div_le_self _ _;have r1:dA PG (binOp .rem cA (.int .u64 ((m/256^i:Nat):Int)) (.int .u64 256))=some (.int .u64 ((m/256^i%256:Nat):Int)):=by
    rw[aHz (by decide)];exact congrArg some (congrArg _ (Int.ofNat_tmod _ 256).symm)
   have r2':IntKind.u8.wrap ((m/256^i%256:Nat):Int)=((UInt8.ofNat (m/256^i%256)).toNat:Int):=by rw[aHG];simp
   have r3:dA PG (binOp .quo cA (.int .u64 ((m/256^i:Nat):Int)) (.int .u64 256))=some (.int .u64 ((m/256^(i+1):Nat):Int)):=by
    rw[aL8 (by decide)];have:Int.tdiv ((m/256^i:Nat):Int) 256=((m/256^i/256:Nat):Int):=rfl;have hd2:m/256^i/256=m/256^(i+1):=by rw[Nat.div_div_eq_div_mul,zLQ]
    rw[this,hd2,gL (Int.natCast_nonneg _) (by have:=Nat.div_le_self m (256^(i+1));omega)]
   obtain⟨a,q1,q2⟩:=O3.storeCell (t:=cX) (k:=.i64) (j:=7-i) cX.und dJ.info dJ.size dJ.und rfl (by simp[iC];omega) (x:=.int .u8 ((UInt8.ofNat (m/256^i%256)).toNat:Int)) rfl;rw[←g2] at q1;simp only[g1,r1,aTX,r2',q1,cG,reduceIte];refine q2 _ λh4 O4 u4=>?_;have hp:=aYS (m:=m) hi8 _ rfl;simp only[jC] at hp O4;rw[hp] at O4;simp only[r3,g3,cG,reduceIte];refine⟨⟨i+1,by omega,rfl,O4,u3.fresh u4 fr⟩,?_⟩;simp only[aOg,sA,pK];omega
  ·obtain rfl:i=8:=by omega
   have g1:((0:Int)≤7-((8:Nat):Int))=False:=eq_false (by omega);have O3':dZ h3 dJ 1 (.slice (some ⟨r2,0,none⟩) 8 8) ((be m 8).map jC) [r2]:=O3;have hcv3:cD PG h3 (convert cX bR (.slice (some ⟨r2,0,none⟩) 8 8))=some (.string (tx (be m 8))):=aDH cX.und dJ.und bR.und O3'.slR;have hadd3:dA PG (binOp .add bR (.string (tx (l++128::List.replicate j 0))) (.string (tx (be m 8))))=some (.string (tx ((l++128::List.replicate j 0)++be m 8))):=lJ (by rw[hlen,iC];omega);simp only[g1,hcv3,hadd3,cG,reduceIte];have hfin:=hk h3 u3;rw[aOC,hpn,hm8,aCk (by omega)] at hfin;rw[mT];exact hfin
structure vF(h:PH)(b m:Nat)(A:List Tx)(c:Bool)(K:List Nat):Prop where
 here:∃(kv hv:Value) (l:List (Tx×Tx)),h b=some (.cells #[kv,hv,.map (some m),.bool c] fT (0,0))∧WSl h kv kT∧WSl h hv S0.l∧aC9 kv K∧aC9 hv K∧kB sG h m (l.map λp=>(p.1,sG p.2))∧(c=false->∀a∈A,(l.find? λp=>decide (oP a=p.1)).map (·.2)=some a)
 ne:b≠m
 out:∀x∈K,x≠b∧x≠m∧h x≠none
theorem vF.upd{h h':PH}{b m:Nat}{A:List Tx}{c:Bool}{K G:List Nat}(H:vF h b m A c K)(u:cU G h h')(hd:∀x∈b::m::K,x∉G):vF h' b m A c K:=by
 obtain⟨kv,hv,l,h1,h2,h3,h4,h5,h6,h7⟩:=H.here;refine⟨⟨kv,hv,l,u.get h1 (hd _ (by simp)),fR.upd h2 u λa n c' e=>hd _ (by simp[h4 a n c' e]),fR.upd h3 u λa n c' e=>hd _ (by simp[h5 a n c' e]),h4,h5,kB.upd h6 u (hd _ (by simp)),h7⟩,H.ne,λx hx=>⟨(H.out x hx).1,(H.out x hx).2.1,?_⟩⟩;obtain⟨o,ho⟩:=aHO.1 (H.out x hx).2.2;rw[u.get ho (hd x (by simp[hx]))];simp
theorem vF.ext{h h':PH}{b m:Nat}{A:List Tx}{c:Bool}{K:List Nat}(H:vF h b m A c K)(u:cZ h h'):vF h' b m A c K:=H.upd u (by simp)
theorem vF.known{h:PH}{b m:Nat}{A:List Tx}{c:Bool}{K:List Nat}(H:vF h b m A c K):∀x∈b::m::K,h x≠none:=by
 obtain⟨kv,hv,l,h1,h2,h3,h4,h5,h6,h7⟩:=H.here;intro x hx;simp only[gP] at hx;rcases hx with rfl|rfl|hx
 ·rw[h1];simp
 ·exact kB.known h6
 ·exact(H.out x hx).2.2
def aHM(A:List Tx):Prop:=∀a∈A,∀b∈A,oP a=oP b->a=b
theorem vF.uniq{h:PH}{b m:Nat}{A:List Tx}{K:List Nat}(H:vF h b m A false K):aHM A:=by
 obtain⟨kv,hv,l,h1,h2,h3,h4,h5,h6,h7⟩:=H.here;intro x hx y hy e;have a:=h7 rfl x hx;rw[e,h7 rfl y hy] at a;exact(aKh a).symm
theorem vF.sub{h:PH}{b m:Nat}{A B:List Tx}{c:Bool}{K:List Nat}(H:vF h b m A c K)(hs:∀a∈B,a∈A):vF h b m B c K:=by
 obtain⟨kv,hv,l,h1,h2,h3,h4,h5,h6,h7⟩:=H.here;exact⟨⟨kv,hv,l,h1,h2,h3,h4,h5,h6,λhc a ha=>h7 hc a (hs a ha)⟩,H.ne,H.out⟩
theorem aSc(s:S8):qF s []=(s,[]):=aHr (by decide)
theorem aTz{h:PH}{b m:Nat}{A:List Tx}{c:Bool}{K:List Nat}(H:vF h b m A c K){s:Tx}(hs:s.length≤100000000){k:cE}(hk:∀h',cZ h h'->k (.string (tx (oP s))) h'):
  aT PG xQ #[pT b 0,.string (tx s)] h k:=by
 apply nP.call;unfold nP;obtain⟨kv,hv,l,h1,h2,h3,-⟩:=H.here;refine aXz (by omega) λh4 u4=>?_;have hb:=u4.get h1;have icv:fP hv=true:=by obtain⟨_,_,e,_⟩:=h3.here;rw[e];rfl
 have c1:dD h4 ⟨b,0+1,none⟩=some hv:=by simp[dD,hb]
 simp only[fT.f1,eP.load,c1,cG,reduceIte];have hP:∃n,(s++aIw s.length).length=64*n:=by
  have hz:aMt s.length=(119-s.length%64)%64:=rfl;refine⟨(s.length+9+aMt s.length)/64,?_⟩;rw[aOC];simp only[jP,rN,aKw,iC];omega
 have hshow:aIe (qF S0 (s++aIw s.length)).1=oP s:=rfl;have hplen:(s++aIw s.length).length≤100000200:=by
  have hz:aMt s.length<64:=zLA _ (by decide);rw[aOC];simp only[jP,rN,aKw,iC];omega
 generalize s++aIw s.length=p at *;obtain⟨n,hn⟩:=hP;refine⟨λvs h'=>∃(i:Nat) (v:Value) (t:S8),i≤n∧vs=[pT b 0,.string (tx p),v,.int .i64 ((64*i:Nat):Int)]∧WSl h' v t.l∧qF t (p.drop (64*i))=qF S0 p∧cZ h h',gU (64*n) 3,⟨0,hv,S0,by omega,rfl,h3.ext u4,by simp,u4⟩,?_⟩;rintro ρ h' ⟨i,v,t,hi,hvs,St,hab,u⟩;simp only[iH,iT,kV,and_true] at hvs;obtain⟨v0,v5,v6,v7⟩:=hvs;simp only[v0,v5,v6,v7,iH,iT];unfold aCv;have hb':=u.get h1;by_cases hin:i<n
 ·have g1:(((64*i:Nat):Int)<(p.length:Int))=True:=eq_true (by omega);have g2:IntKind.i64.wrap (((64*i:Nat):Int)+64)=((64*(i+1):Nat):Int):=by rw[eV (by omega) (by omega)];omega
  have c0:dD h' ⟨b,0,none⟩=some kv:=by simp[dD,hb']
  have ec:dA PG (Instr.sliceAt bR (.string (tx p)) (some (.int .i64 ((64*i:Nat):Int))) (some (.int .i64 ((64*(i+1):Nat):Int))) none)=some (.string (tx ((p.take (64*(i+1))).drop (64*i)))):=
   aHx bR.und (.inr ⟨_,rfl⟩) (.inr ⟨_,rfl⟩) (by omega) (by omega)
  simp only[bR.len,iB,g1,g2,ec,fT.f0,eP.load,c0,cG,reduceIte];refine aVn (by rw[xV,uF];omega) (h2.ext u) St λh5 w S5 u5=>?_;refine⟨⟨i+1,w,_,by omega,rfl,S5,?_,u.trans u5⟩,?_⟩
  ·rw[←hab]
   conv=>rhs;rw[aHm (by rw[xV];omega)]
   rw[aI5,zLx];congr 2
   ·congr 2;omega
  ·simp only[gU,sA,pK];omega
 ·obtain rfl:i=n:=by omega
  have g1:(((64*i:Nat):Int)<(p.length:Int))=False:=eq_false (by omega);simp only[bR.len,iB,g1,cG,reduceIte];rw[aLq (by omega),aSc] at hab;rw[←hshow,←hab] at hk;refine⟨λvs h2=>∃(j:Nat) (z:Value) (F:List Nat),j≤8∧vs=[v,z,.int .i64 (j:Int)]∧dZ h2 dJ 1 z (((t.l.take j).flatMap wb).map jC) F∧eD h' F∧cZ h' h2,gU 8 2,⟨0,_,[],by omega,rfl,dZ.nil,(λb hb=>by cases hb),cU.refl⟩,?_⟩;rintro ρ2 h2' ⟨j,z,F,hj,hvs,O,fF,u2⟩;simp only[iH,iT,kV,and_true] at hvs;obtain⟨w6,w8',w9⟩:=hvs;simp only[w6,w8',w9,iH,iT];unfold aCg;by_cases hj8:j<8
  ·have e1:((j:Int)<8)=True:=eq_true (by omega);have e2:=pR (i:=j) (by omega);obtain⟨a1,p1,c1⟩:=aER (St.ext u2) (t.l_get hj8);have s24':dA PG (binOp .shr cL (wv (t.l.getD j 0)) (.int .u64 24))=_:=aJO (n:=24) (by decide);have s16':dA PG (binOp .shr cL (wv (t.l.getD j 0)) (.int .u64 16))=_:=aJO (n:=16) (by decide);have s8':dA PG (binOp .shr cL (wv (t.l.getD j 0)) (.int .u64 8))=_:=aJO (n:=8) (by decide);have b4:∀(a b c d:UInt8),jK PG (buildSlice cX 4 #[(0,.int .u8 (a.toNat:Int)),(1,.int .u8 (b.toNat:Int)),(2,.int .u8 (c.toNat:Int)),(3,.int .u8 (d.toNat:Int))])=some (.cells #[.int .u8 (a.toNat:Int),.int .u8 (b.toNat:Int),.int .u8 (c.toNat:Int),.int .u8 (d.toNat:Int)] dJ,λr=>pure (.slice (some ⟨r,0,none⟩) 4 4)):=λa b c d=>by kernel_rfl
   simp only[e1,p1,c1,s24',s16',s8',aTV,b4,cG,reduceIte];intro r hr;refine fI ?_
   try rw[cW]
   have hdt:=aQR t hj8;generalize hx:t.l.getD j 0=x at *;have u3:cZ h2' (h2'.set r (.cells #[.int .u8 ((UInt8.ofNat (x>>>24).toNat).toNat:Int),.int .u8 ((UInt8.ofNat (x>>>16).toNat).toNat:Int),.int .u8 ((UInt8.ofNat (x>>>8).toNat).toNat:Int),.int .u8 ((UInt8.ofNat x.toNat).toNat:Int)] dJ)):=cU.new hr;have S3:fR (h2'.set r (.cells #[.int .u8 ((UInt8.ofNat (x>>>24).toNat).toNat:Int),.int .u8 ((UInt8.ofNat (x>>>16).toNat).toNat:Int),.int .u8 ((UInt8.ofNat (x>>>8).toNat).toNat:Int),.int .u8 ((UInt8.ofNat x.toNat).toNat:Int)] dJ)) 1 (.slice (some ⟨r,0,none⟩) 4 4) ((wb x).map jC):=(dZ.lit (n:=4) (jC.rows (wb x)) dL (by rfl) (by decide) rfl).slR;generalize h2'.set r (.cells #[.int .u8 ((UInt8.ofNat (x>>>24).toNat).toNat:Int),.int .u8 ((UInt8.ofNat (x>>>16).toNat).toNat:Int),.int .u8 ((UInt8.ofNat (x>>>8).toNat).toNat:Int),.int .u8 ((UInt8.ofNat x.toNat).toNat:Int)] dJ)=h3' at *;refine jF cX.und cX.und dJ.info dJ.size dJ.bytes dJ.zero rfl (by decide) (O.ext u3) S3 (jC.isCell _) (by
    have:=aRm t (show j≤8 by omega);simp only[iS,aTU];omega) ?_
   intro z' h4' F' O4 u4' k4 _;rw[←qI,←hdt] at O4;have e3:=u2.trans u3;simp only[e2,cG,reduceIte];refine⟨⟨j+1,z',F',by omega,rfl,O4,fF.grow e3 k4,e3.fresh u4' fF⟩,?_⟩;simp only[gU,sA,pK];omega
  ·obtain rfl:j=8:=by omega
   have hfull:(t.l.take 8).flatMap wb=aIe t:=rfl;rw[hfull] at O;have hcv:cD PG h2' (convert cX bR z)=some (.string (tx (aIe t))):=aDH cX.und dJ.und bR.und O.slR;simp only[show(((8:Nat):Int)<8)=False from eq_false (by decide),hcv,cG,reduceIte];exact hk _ (u.trans u2)
theorem aUg(a b:Option Addr)(n c n' c' m:Nat):dA PG (build fT #[(0,.slice a n c),(1,.slice b n' c'),(2,.map (some m))])=some (.agg #[.slice a n c,.slice b n' c',.map (some m),.bool false]):=by kernel_rfl
theorem aXK{h:PH}{k:cE}(hk:∀h' b m K,vF h' b m [] false K->eD h (b::m::K)->cZ h h'->k (pT b 0) h'):aT PG aDy #[] h k:=by
 apply aDM.call;unfold aDM;refine aQN λh1 v w F G OF OG fF fG u1=>?_;simp only[aGh,cG,reduceIte];intro m hm;refine fI ?_
 try rw[cW]
 have u2:cZ h1 (h1.set m (.map #[] 0)):=cU.new hm;have M2:kB sG (h1.set m (.map #[] 0)) m []:=kB.new;generalize h1.set m (.map #[] 0)=h2 at *;obtain⟨av,cv,ev,-⟩:=OF.slR.here;obtain⟨aw,cw,ew,-⟩:=OG.slR.here;have hb:dA PG (build fT #[(0,v),(1,w),(2,.map (some m))])=some (.agg #[v,w,.map (some m),.bool false]):=by rw[ev,ew];exact aUg ..
 simp only[hb,cG,reduceIte];intro b hbn
 try rw[cW]
 have ec:Value.cells (.agg #[v,w,.map (some m),.bool false])= #[v,w,.map (some m),.bool false]:=rfl;rw[ec];have u3:cZ h2 (h2.set b (.cells #[v,w,.map (some m),.bool false] fT)):=cU.new hbn;have a3:(h2.set b (.cells #[v,w,.map (some m),.bool false] fT)) b=some (.cells #[v,w,.map (some m),.bool false] fT (0,0)):=dL;generalize h2.set b (.cells #[v,w,.map (some m),.bool false] fT)=h3 at *;have e12:=u1.trans u2;have hmb:b≠m:=λe=>by subst e;exact M2.known hbn
 have hb1:h1 b=none:=u2.none hbn;refine hk h3 b m (F++G) ⟨⟨v,w,[],a3,((OF.ext u2).ext u3).slR,((OG.ext u2).ext u3).slR,λa n c e=>by simp[aF8 OF a n c e],λa n c e=>by simp[aF8 OG a n c e],M2.ext u3,λ_ a ha=>by cases ha⟩,hmb,λx hx=>?_⟩ (λx hx=>?_) (e12.trans u3)
 ·have hk1:h1 x≠none:=by
   rcases jG.1 hx with hx|hx
   ·exact OF.known x hx
   ·exact OG.known x hx
  refine⟨λe=>hk1 (by rw[e];exact hb1),λe=>hk1 (by rw[e];exact hm),λe=>hk1 ((u2.trans u3).none e)⟩
 ·simp only[gP,jG] at hx;rcases hx with rfl|rfl|hx|hx
  ·exact e12.none hbn
  ·exact u1.none hm
  ·exact fF x hx
  ·exact fG x hx
theorem aKs{h:PH}{b m:Nat}{A:List Tx}{c:Bool}{K:List Nat}(H:vF h b m A c K){s:Tx}(hs:s.length≤100000000){k:cE}
  (hk:∀h' c',vF h' b m (s::A) c' K->(c=true->c'=true)->cU [b,m] h h'->k (.string (tx (oP s))) h'):aT PG kD #[pT b 0,.string (tx s)] h k:=by
 apply yR.call;unfold yR;refine aTz H hs λh1 u1=>?_;have H1:=H.ext u1;obtain⟨kv,hv,l,h1b,h2,h3,h4,h5,h6,h7⟩:=H1.here;have c2:dD h1 ⟨b,0+2,none⟩=some (.map (some m)):=by simp[dD,h1b]
 have c3:dD h1 ⟨b,0+3,none⟩=some (.bool c):=by simp[dD,h1b]
 have hlook:cD PG h1 (Instr.lookup dV (.map (some m)) (.string (tx (oP s))) true)=some (.tuple #[.string (tx (((l.find? λp=>decide (oP s=p.1)).map (·.2)).getD [])),.bool ((l.find? λp=>decide (oP s=p.1)).map (·.2)).isSome]):=by
  have:=aIT aI3 dV.und bR.info bR.zero h6 (oP s) true;have e:aCf (l.map λp=>(p.1,sG p.2)) (oP s)=((l.find? λp=>decide (oP s=p.1)).map (·.2)).map sG:=by
   unfold aCf;rw[List.find?_map,Option.map_map,Option.map_map];rfl
  rw[e] at this;rw[show(.string (tx (oP s)):Value)=sG (oP s) from rfl,this];cases (l.find? λp=>decide (oP s=p.1)).map (·.2)<;>rfl
 generalize hw:(l.find? λp=>decide (oP s=p.1)).map (·.2)=was at *;have fin:∀c':Bool,(c=true->c'=true)->(c'=false->c=false∧∀x,was=some x->x=s)->cY PG (dN fU (pT b (0+3)) (.bool c')) h1 λv35 h36=>
   dY (dD h36 ⟨b,0+2,none⟩) λv39=>
   cY PG (aHB dV v39 (.string (tx (oP s))) (.string (tx s))) h36 λv40 h41=>k (.string (tx (oP s))) h41:=by
  intro c' hc1 hc2;refine iU fU.und rfl h1b (by simp) rfl fU.info fU.size ?_;have es:(#[kv,hv,Value.map (some m),Value.bool c]:Array Value).setIfInBounds (0+3) (.bool c')= #[kv,hv,.map (some m),.bool c']:=rfl;rw[es];have u2:cU [b] h1 (h1.set b (.cells #[kv,hv,.map (some m),.bool c'] fT (0,0))):=cU.set (by simp);have b2:(h1.set b (.cells #[kv,hv,.map (some m),.bool c'] fT (0,0))) b=some (.cells #[kv,hv,.map (some m),.bool c'] fT (0,0)):=dL;generalize h1.set b (.cells #[kv,hv,.map (some m),.bool c'] fT (0,0))=h2' at *;have c2':dD h2' ⟨b,0+2,none⟩=some (.map (some m)):=by simp[dD,b2]
  simp only[c2',cG,reduceIte];have M2:=h6.upd u2 (by simpa using H.ne.symm);refine aMG aI3 dV.und M2 (oP s) (.string (tx s)) λh3' M3 u3=>?_;have hne:=H.ne;have hu1:cU [b,m] h1 h3':=by
   have t1:cU [b,m] h1 h2':=u2.mono λx hx=>.inl (by simp only[fV] at hx;simp[hx]);have t2:cU [b,m] h2' h3':=u3.mono λx hx=>.inl (by simp only[fV] at hx;simp[hx]);exact t1.trans t2
  have hu:cU [b,m] h h3':=u1.upd.trans hu1;have hK:∀x∈K,x∉[b,m]:=λx hx hm=>by
   have:=H1.out x hx;simp only[gP,kL,or_false] at hm;rcases hm with e|e
   ·exact this.1 e
   ·exact this.2.1 e
  obtain⟨l',e1,e2⟩:∃l':List (Tx×Tx),aES (l.map λp=>(p.1,sG p.2)) (oP s) (.string (tx s))=l'.map (λp=>(p.1,sG p.2))∧∀d,(l'.find? λp=>decide (d=p.1)).map (·.2)=if d=oP s then some s else(l.find? λp=>decide (d=p.1)).map (·.2):=by
   have hgen:∃l':List (Tx×Tx),aES (l.map λp=>(p.1,sG p.2)) (oP s) (.string (tx s))=l'.map (λp=>(p.1,sG p.2)):=by
    unfold aES;split
    ·refine⟨l.map λp=>if p.1=oP s then(oP s,s) else p,?_⟩;rw[zL2,zL2];apply zL3;intro p _;show(if p.1=oP s then(oP s,Value.string (tx s)) else(p.1,sG p.2))=(λp:Tx×Tx=>(p.1,sG p.2)) (if p.1=oP s then(oP s,s) else p);split<;>rfl
    ·exact⟨l++[(oP s,s)],by rw[qI];rfl⟩
   obtain⟨l',e⟩:=hgen;refine⟨l',e,λd=>?_⟩;have hg:=aUm (l.map λp=>(p.1,sG p.2)) (oP s) d (.string (tx s));rw[e] at hg;have eg:∀L:List (Tx×Tx),aCf (L.map λp=>(p.1,sG p.2)) d=((L.find? λp=>decide (d=p.1)).map (·.2)).map sG:=λL=>by
    unfold aCf;rw[List.find?_map,Option.map_map,Option.map_map];rfl
   rw[eg,eg] at hg;have hinj:∀{x y:Option Tx},x.map sG=y.map sG->x=y:=fun {x y} hxy=>by
    cases x<;>cases y<;>simp[sG] at hxy ⊢;exact aLa hxy
   apply hinj;rw[hg];split<;>rfl
  rw[e1] at M3;refine hk h3' c' ⟨⟨kv,hv,l',u3.get b2 (by simpa using hne),h2.upd hu1 (λa n c e=>hK _ (h4 a n c e)),h3.upd hu1 (λa n c e=>hK _ (h5 a n c e)),h4,h5,M3,λhcf a ha=>?_⟩,hne,λx hx=>?_⟩ hc1 hu
  ·obtain⟨hcc,hws⟩:=hc2 hcf;rw[e2];rcases gP.1 ha with rfl|ha
   ·rw[if_pos rfl]
   ·have hold:=h7 hcc a ha;by_cases hd:oP a=oP s
    ·rw[if_pos hd];rw[hd,hw] at hold;rw[hws a hold]
    ·rw[if_neg hd];exact hold
  ·have:=H1.out x hx;refine⟨this.1,this.2.1,?_⟩;obtain⟨o,ho⟩:=aHO.1 this.2.2;rw[hu1.get ho (hK x hx)];simp
 have yU:yV undef=none:=rfl;have gN:∀{X:(Value->PH->Prop)->Prop} {h:PH} {kv:cE} {w:Bool},nW none w X h kv=kv undef h:=fun {X h kv w}=>by simp[nW]
 simp only[fT.f2,fT.f3,dV.load,fU.load,c2,c3,hlook,cG,reduceIte];cases c with
 | true=>
  simp only[yU,gN,cG,reduceIte];exact fin true (λ_=>rfl) (λh=>by cases h)
 | false=>
  cases was with
  | none=>
   simp only[zLu,yU,gN,cG,reduceIte];exact fin false (λh=>h) (λ_=>⟨rfl,λx hx=>by cases hx⟩)
  | some x=>
   simp only[aLv,aIA,yU,gN,aDY,cG,reduceIte];refine fin (!decide (x=s)) (λh=>by cases h) λhf=>⟨rfl,λy hy=>?_⟩;obtain rfl:=aKh hy;simpa using hf
def aAn(p:Pr):Tx:=0::UInt8.ofNat (p.k.length%256)::(p.k++UInt8.ofNat (p.v.length%256)::p.v)
def rS(l r:Tx):Tx:=1::(l++r)
def aHF(n:Nat)(d:Tx):Tx:=2::(be n 8++d)
theorem aM3(l r:Tx):aAh l r=oP (rS l r):=rfl
def aAd(l:List Pr):List Tx:=if h:2≤l.length then rS (lU (l.take (dT l.length))) (lU (l.drop (dT l.length)))::(aAd (l.drop (dT l.length))++aAd (l.take (dT l.length))) else [aAn (l.headD ⟨[],[]⟩)]
termination_by l.length
decreasing_by
 ·have:=lK h;simp;omega
 ·have:=lK h;simp;omega
def rR(l:List Pr):List Tx:=aHF l.length (if l=[] then [] else lU l)::(if l=[] then [] else aAd l)
theorem tx0:({data:=#[0]}:ByteArray)=tx [0]:=rfl
theorem tx1:({data:=#[1]}:ByteArray)=tx [1]:=rfl
theorem tx2:({data:=#[2]}:ByteArray)=tx [2]:=rfl
theorem be1(n:Nat):be n 1=[UInt8.ofNat (n%256)]:=rfl
theorem aQW{h:PH}{b m:Nat}{A:List Tx}{c:Bool}{K:List Nat}(H:vF h b m A c K){p:Pr}(hl:p.k.length+p.v.length≤10000000){k:cE}
  (hk:∀h' c',vF h' b m (aAn p::A) c' K->(c=true->c'=true)->cU [b,m] h h'->k (.string (tx (aFi p))) h'):aT PG tV #[pT b 0,p.val] h k:=by
 apply uX.call;unfold uX;rw[aMT];intro r hr
 try rw[cW]
 have u1:cZ h (h.set r (.cells #[.string (tx p.k),.string (tx p.v)] cM)):=cU.new hr;have a1:(h.set r (.cells #[.string (tx p.k),.string (tx p.v)] cM)) r=some (.cells #[.string (tx p.k),.string (tx p.v)] cM (0,0)):=dL;generalize h.set r (.cells #[.string (tx p.k),.string (tx p.v)] cM)=h1 at *;have c0:dD h1 ⟨r,0,none⟩=some (.string (tx p.k)):=by simp[dD,a1]
 have c1:dD h1 ⟨r,0+1,none⟩=some (.string (tx p.v)):=by simp[dD,a1]
 have w1:IntKind.u64.wrap (p.k.length:Int)=(p.k.length:Int):=gL (by omega) (by omega);have w2:IntKind.u64.wrap (p.v.length:Int)=(p.v.length:Int):=gL (by omega) (by omega);simp only[cM.f0,cM.f1,bR.load,c0,c1,bR.len,iB,aBZ,w1,w2,cG,reduceIte];refine tH (n:=p.k.length) (c:=1) (by omega) (by decide) λh2 u2=>?_;have a2:=u2.get a1;have c0':dD h2 ⟨r,0,none⟩=some (.string (tx p.k)):=by simp[dD,a2]
 have c1':dD h2 ⟨r,0+1,none⟩=some (.string (tx p.v)):=by simp[dD,a2]
 have s1:dA PG (binOp .add bR (.string (tx [0])) (.string (tx (be p.k.length 1))))=some (.string (tx ([0]++be p.k.length 1))):=lJ (by rw[iC];decide);have s2:dA PG (binOp .add bR (.string (tx ([0]++be p.k.length 1))) (.string (tx p.k)))=some (.string (tx (([0]++be p.k.length 1)++p.k))):=lJ (by simp[iC];omega);simp only[bR.load,c0',c1',true_and,tx0,s1,s2,cG,reduceIte];refine tH (n:=p.v.length) (c:=1) (by omega) (by decide) λh3 u3=>?_;have a3:=u3.get a2;have c0'':dD h3 ⟨r,0,none⟩=some (.string (tx p.k)):=by simp[dD,a3]
 have c1'':dD h3 ⟨r,0+1,none⟩=some (.string (tx p.v)):=by simp[dD,a3]
 have s3:dA PG (binOp .add bR (.string (tx (([0]++be p.k.length 1)++p.k))) (.string (tx (be p.v.length 1))))=some (.string (tx ((([0]++be p.k.length 1)++p.k)++be p.v.length 1))):=lJ (by simp[iC];omega);have s4:dA PG (binOp .add bR (.string (tx ((([0]++be p.k.length 1)++p.k)++be p.v.length 1))) (.string (tx p.v)))=some (.string (tx (aAn p))):=by
  rw[lJ (by simp[iC];omega)];congr 3;simp[aAn,be1]
 have s1':=s1;simp only[bR.load,c0'',c1'',true_and,s3,s4,cG,reduceIte];have u:=(u1.trans u2).trans u3;refine aKs (H.ext u) (by simp[aAn];omega) λh' c' H' hc u'=>?_;exact hk h' c' H' hc (u.upd.trans u')
theorem aUk{n j:Nat}(h2:2≤n)(h1:2^j<n)(h3:¬2^j*2<n):dT n=2^j:=by
 unfold dT;congr 1;refine(Nat.log2_eq_iff (by omega)).2 ⟨by omega,?_⟩;rw[zLQ];omega
theorem aJH{h:PH}{n:Nat}(h2:2≤n)(hn:n≤65536){k:cE}(hk:k (.int .i64 ((dT n:Nat):Int)) h):aT PG qP #[.int .i64 (n:Int)] h k:=by
 apply aB3.call;unfold aB3;refine⟨λvs h'=>∃j:Nat,2^j<n∧vs=[.int .i64 (n:Int),.int .i64 ((2^j:Nat):Int)]∧h'=h,gU n 1,⟨0,by omega,rfl,rfl⟩,?_⟩;rintro ρ h' ⟨j,hj,hvs,rfl⟩;simp only[iH,iT,kV,and_true] at hvs;obtain⟨v0,v3⟩:=hvs;simp only[v0,v3,iH,iT];unfold aGV;have hp:0<2^j:=Nat.pow_pos (by decide);have e1:IntKind.i64.wrap (((2^j:Nat):Int)*2)=((2^(j+1):Nat):Int):=by rw[eV (by omega) (by omega),zLQ];omega
 by_cases hl:2^(j+1)<n
 ·have g1:(((2^(j+1):Nat):Int)<(n:Int))=True:=eq_true (by omega);simp only[e1,g1,cG,reduceIte];refine⟨⟨j+1,hl,rfl,by trivial⟩,?_⟩;simp only[gU,sA,pK];rw[zLQ];rw[zLQ] at hl;omega
 ·have g1:(((2^(j+1):Nat):Int)<(n:Int))=False:=eq_false (by omega);simp only[e1,g1,cG,reduceIte];rw[aUk h2 hj (by rw[zLQ] at hl;exact hl)] at hk;exact hk
theorem aIR:∀(n:Nat) {h:PH} {v:Value} {l:List Pr} {b m:Nat} {A:List Tx} {c:Bool} {K:List Nat},l.length≤n->l≠[]->l.length≤65536->vF h b m A c K->fR h 2 v (l.map Pr.cells)->(∀a n c,v= .slice (some a) n c->a.block∉[b,m])->aAb l->∀{k:cE},
  (∀h' c',vF h' b m (aAd l++A) c' K->(c=true->c'=true)->cU [b,m] h h'->k (.string (tx (lU l))) h')->aT PG lZ #[pT b 0,v] h k
 | 0,_,_,l,_,_,_,_,_,h0,hne,_,_,_,_,_,_,_=>by
  have:l=[]:=zLN (by omega);exact absurd this hne
 | n+1,h,v,l,b,m,A,c,K,hn,hne,hl,H,S,hv,hs,k,hk=>by
  apply rH.call;unfold rH;have lv:=S.len (t':=bT) cJ.und;rw[iS] at lv;have hpos:0<l.length:=aHN.2 hne;by_cases h1:l.length=1
  ·have e1:((l.length:Int)==1)=true:=by simp[h1]
   obtain⟨p,hp⟩:=List.length_eq_one_iff.1 h1;obtain⟨x,o,e2,-,-,e3⟩:=S.pair (j:=0) (p:=p) (by rw[hp];rfl);rw[show((0:Nat):Int)=0 from rfl] at e2;simp only[lv,e1,e2,e3,cG,reduceIte];have hd:lU l=aFi p:=by rw[lU,dif_neg (by omega),hp];rfl
   have ha:aAd l=[aAn p]:=by rw[aAd,dif_neg (by omega),hp];rfl
   rw[hd,ha] at hk;refine aQW H (by have:=hs p (by rw[hp];simp);omega) λh' c' H' hc u=>hk h' c' H' hc u
  ·have e1:((l.length:Int)==1)=false:=by simp;omega
   have h2:2≤l.length:=by omega
   simp only[lv,e1,cG,reduceIte];refine aJH h2 hl ?_;have hlt:=lK h2;obtain⟨v1,s1,t1,x1⟩:=S.cut (lo:=none) (hi:=some (.int .i64 ((dT l.length:Nat):Int))) (l:=0) (m:=dT l.length) cJ.und cM.info cM.size (.inl ⟨rfl,rfl⟩) (.inr ⟨_,rfl⟩) (by omega) (by simp;omega);obtain⟨v2,s2,t2,x2⟩:=S.cut (lo:=some (.int .i64 ((dT l.length:Nat):Int))) (hi:=none) (l:=dT l.length) (m:=l.length) cJ.und cM.info cM.size (.inr ⟨_,rfl⟩) (.inl ⟨rfl,by simp⟩) (by omega) (by simp);rw[zLb,←aKm] at t1;rw[←aKm,←List.map_drop,zLI] at t2;have hv1:∀a n c,v1= .slice (some a) n c->a.block∉[b,m]:=λa n c e=>by
    obtain⟨x0,n0,c0,e0,e5⟩:=x1 a n c e;rw[e5];exact hv _ _ _ e0
   have hv2:∀a n c,v2= .slice (some a) n c->a.block∉[b,m]:=λa n c e=>by
    obtain⟨x0,n0,c0,e0,e5⟩:=x2 a n c e;rw[e5];exact hv _ _ _ e0
   simp only[s1,s2,cG,reduceIte];have hd:lU l=aAh (lU (l.take (dT l.length))) (lU (l.drop (dT l.length))):=by rw[lU,dif_pos h2]
   have ha:aAd l=rS (lU (l.take (dT l.length))) (lU (l.drop (dT l.length)))::(aAd (l.drop (dT l.length))++aAd (l.take (dT l.length))):=by rw[aAd,dif_pos h2]
   rw[hd,ha] at hk;refine aIR n (by simp;omega) (aJl (by rw[uF];omega)) (by simp;omega) H t1 hv1 (λp hp=>hs p (aKz hp)) λh1 c1 H1 hc1 u1=>?_;have a1:dA PG (binOp .add bR (.string (tx [1])) (.string (tx (lU (l.take (dT l.length))))))=some (.string (tx ([1]++lU (l.take (dT l.length))))):=lJ (by rw[zJ];decide);simp only[tx1,a1,cG,reduceIte];refine aIR n (by simp;omega) (aJl (by rw[xV];omega)) (by simp;omega) H1 (t2.upd u1 hv2) hv2 (λp hp=>hs p (aL3 hp)) λh2 c2 H2 hc2 u2=>?_;have a2:dA PG (binOp .add bR (.string (tx ([1]++lU (l.take (dT l.length))))) (.string (tx (lU (l.drop (dT l.length))))))=some (.string (tx (rS (lU (l.take (dT l.length))) (lU (l.drop (dT l.length)))))):=by
    rw[lJ (by rw[jP,zJ,zJ];decide)];rfl
   simp only[a2,cG,reduceIte];refine aKs H2 (by simp[rS,zJ]) λh3 c3 H3 hc3 u3=>?_;rw[aM3] at hk;refine hk h3 c3 ?_ (λh=>hc3 (hc2 (hc1 h))) ((u1.trans u2).trans u3);rw[zLV,mT];exact H3
theorem aN7{h:PH}{b m:Nat}{A:List Tx}{c:Bool}{K:List Nat}(H:vF h b m A c K){n:Nat}{d:Tx}(hn:n≤1000000)(hd:d.length≤1000000){k:cE}
  (hk:∀h' c',vF h' b m (aHF n d::A) c' K->(c=true->c'=true)->cU [b,m] h h'->k (.string (tx (aI2 n d))) h'):aT PG rK #[pT b 0,.int .i64 (n:Int),.string (tx d)] h k:=by
 apply aDQ.call;unfold aDQ;have g1:((n:Int)<0)=False:=eq_false (by omega);have w1:IntKind.u64.wrap (n:Int)=(n:Int):=gL (by omega) (by omega);simp only[g1,cG,reduceIte];unfold aDq;simp only[aBZ,w1,cG,reduceIte];refine tH (n:=n) (c:=8) (by omega) (by decide) λh1 u1=>?_;have a1:dA PG (binOp .add bR (.string (tx [2])) (.string (tx (be n 8))))=some (.string (tx ([2]++be n 8))):=lJ (by rw[iC];decide);have a2:dA PG (binOp .add bR (.string (tx ([2]++be n 8))) (.string (tx d)))=some (.string (tx (aHF n d))):=by
  rw[lJ (by simp[iC];omega)];congr 3
 simp only[tx2,a1,a2,cG,reduceIte];refine aKs (H.ext u1) (by simp[aHF,iC];omega) λh' c' H' hc u'=>?_;exact hk h' c' H' hc (u1.upd.trans u')
theorem aPr{h:PH}{b m:Nat}{A:List Tx}{c:Bool}{K:List Nat}(H:vF h b m A c K){v:Value}{l:List Pr}(hl:l.length≤65536)(S:fR h 2 v (l.map Pr.cells))(hv:∀a n c,v= .slice (some a) n c->a.block∉[b,m])(hs:aAb l){k:cE}
  (hk:∀h' c',vF h' b m (rR l++A) c' K->(c=true->c'=true)->cU [b,m] h h'->k (.string (tx (lB l))) h'):aT PG uI #[pT b 0,v] h k:=by
 apply aCD.call;unfold aCD;have lv:=S.len (t':=bT) cJ.und;rw[iS] at lv;by_cases h0:l=[]
 ·subst h0;simp only[lv,zLM,show(((0:Nat):Int)==0)=true from rfl,cG,reduceIte];exact aN7 H (n:=0) (d:=[]) (by decide) (by decide) hk
 ·have hpos:0<l.length:=aHN.2 h0;have e1:((l.length:Int)==0)=false:=by simp;omega
  simp only[lv,e1,cG,reduceIte];refine aIR l.length (oL _) h0 hl H S hv hs λh1 c1 H1 hc1 u1=>?_;refine aN7 H1 (by omega) (by rw[zJ];decide) λh2 c2 H2 hc2 u2=>?_;unfold lB rR at hk;rw[if_neg h0] at hk;exact hk h2 c2 (by rw[if_neg h0];exact H2) (λh=>hc2 (hc1 h)) (u1.trans u2)
def Bk(b m:Nat)(A:List Tx)(K:List Nat)(h:PH):Prop:=∃c A',vF h b m A' c K∧∀a∈A,a∈A'
theorem Bk.ext{b m:Nat}{A:List Tx}{K:List Nat}{h h':PH}(H:Bk b m A K h)(u:cZ h h'):Bk b m A K h':=by
 obtain⟨c,A',B,hs⟩:=H;exact⟨c,A',B.ext u,hs⟩
theorem Bk.upd{b m:Nat}{A:List Tx}{K G:List Nat}{h h':PH}(H:Bk b m A K h)(u:cU G h h')(hd:∀x∈b::m::K,x∉G):Bk b m A K h':=by
 obtain⟨c,A',B,hs⟩:=H;exact⟨c,A',B.upd u hd,hs⟩
theorem Bk.mono{b m:Nat}{A B:List Tx}{K:List Nat}{h:PH}(H:Bk b m A K h)(hs:∀a∈B,a∈A):Bk b m B K h:=by
 obtain⟨c,A',B',h1⟩:=H;exact⟨c,A',B',λa ha=>h1 a (hs a ha)⟩
theorem Bk.known{b m:Nat}{A:List Tx}{K:List Nat}{h:PH}(H:Bk b m A K h):∀x∈b::m::K,h x≠none:=by
 obtain⟨c,A',B,hs⟩:=H;exact B.known
theorem aMN{h:PH}{b m:Nat}{A:List Tx}{K:List Nat}(H:Bk b m A K h){s:Tx}(hs:s.length≤100000000){k:cE}
  (hk:∀h',Bk b m (s::A) K h'->cU [b,m] h h'->k (.string (tx (oP s))) h'):aT PG kD #[pT b 0,.string (tx s)] h k:=by
 obtain⟨c,A',B,h1⟩:=H;refine aKs B hs λh' c' B' _ u=>hk h' ⟨c',s::A',B',λa ha=>?_⟩ u;rcases gP.1 ha with rfl|ha
 ·simp
 ·simp[h1 a ha]
theorem aUa{h:PH}{b m:Nat}{A:List Tx}{K:List Nat}(H:Bk b m A K h){p:Pr}(hl:p.k.length+p.v.length≤10000000){k:cE}
  (hk:∀h',Bk b m (aAn p::A) K h'->cU [b,m] h h'->k (.string (tx (aFi p))) h'):aT PG tV #[pT b 0,p.val] h k:=by
 obtain⟨c,A',B,h1⟩:=H;refine aQW B hl λh' c' B' _ u=>hk h' ⟨c',_,B',λa ha=>?_⟩ u;rcases gP.1 ha with rfl|ha
 ·simp
 ·simp[h1 a ha]
theorem aXZ{h:PH}{b m:Nat}{A:List Tx}{K:List Nat}(H:Bk b m A K h){n:Nat}{d:Tx}(hn:n≤1000000)(hd:d.length≤1000000){k:cE}
  (hk:∀h',Bk b m (aHF n d::A) K h'->cU [b,m] h h'->k (.string (tx (aI2 n d))) h'):aT PG rK #[pT b 0,.int .i64 (n:Int),.string (tx d)] h k:=by
 obtain⟨c,A',B,h1⟩:=H;refine aN7 B hn hd λh' c' B' _ u=>hk h' ⟨c',_,B',λa ha=>?_⟩ u;rcases gP.1 ha with rfl|ha
 ·simp
 ·simp[h1 a ha]
def Off(b m:Nat)(v:Value):Prop:=∀a n c,v= .slice (some a) n c->a.block∉[b,m]
theorem aNM{h:PH}{v:Value}{l:List Pr}{b m:Nat}{A:List Tx}{K:List Nat}(hne:l≠[])(hl:l.length≤65536)(H:Bk b m A K h)(S:fR h 2 v (l.map Pr.cells))(hv:Off b m v)(hs:aAb l){k:cE}
  (hk:∀h',Bk b m (aAd l++A) K h'->cU [b,m] h h'->k (.string (tx (lU l))) h'):aT PG lZ #[pT b 0,v] h k:=by
 obtain⟨c,A',B,h1⟩:=H;refine aIR l.length (oL _) hne hl B S hv hs λh' c' B' _ u=>hk h' ⟨c',_,B',λa ha=>?_⟩ u;rcases jG.1 ha with ha|ha
 ·simp[ha]
 ·simp[h1 a ha]
theorem aVv{h:PH}{b m:Nat}{A:List Tx}{K:List Nat}(H:Bk b m A K h){v:Value}{l:List Pr}(hl:l.length≤65536)(S:fR h 2 v (l.map Pr.cells))(hv:Off b m v)(hs:aAb l){k:cE}
  (hk:∀h',Bk b m (rR l++A) K h'->cU [b,m] h h'->k (.string (tx (lB l))) h'):aT PG uI #[pT b 0,v] h k:=by
 obtain⟨c,A',B,h1⟩:=H;refine aPr B hl S hv hs λh' c' B' _ u=>hk h' ⟨c',_,B',λa ha=>?_⟩ u;rcases jG.1 ha with ha|ha
 ·simp[ha]
 ·simp[h1 a ha]
theorem eD.off{h:PH}{F:List Nat}(f:eD h F){b m:Nat}(hb:h b≠none)(hm:h m≠none):∀x∈F,x∉[b,m]:=λx hx hm'=>by
 simp only[gP,kL,or_false] at hm';rcases hm' with rfl|rfl
 ·exact hb (f _ hx)
 ·exact hm (f _ hx)
theorem cU.grow2{h h1:PH}{b m:Nat}(u:cU [b,m] h h1)(hb:h1 b≠none)(hm:h1 m≠none){x:Nat}(hx:h1 x=none):h x=none:=by
 cases e:h x with
 | none=>rfl
 | some o=>
  exfalso;by_cases c:x∈[b,m]
  ·simp only[gP,kL,or_false] at c;rcases c with rfl|rfl
   ·exact hb hx
   ·exact hm hx
  ·have:=u x o e c;rw[hx] at this;cases this
theorem aM4:∀(n:Nat) {h:PH} {v:Value} {l:List Pr} {j:Nat} {b m:Nat} {A:List Tx} {K:List Nat},l.length≤n->j<l.length->l.length≤65536->Bk b m A K h->fR h 2 v (l.map Pr.cells)->Off b m v->aAb l->∀{k:cE},
  (∀h' v' F,Bk b m A K h'->dZ h' bR 1 v' ((nV l j).map iY) F->eD h F->cU [b,m] h h'->k v' h')->aT PG uC #[pT b 0,v,.int .i64 (j:Int)] h k
 | 0,_,_,l,j,_,_,_,_,h0,hj,_,_,_,_,_,_,_=>by omega
 | n+1,h,v,l,j,b,m,A,K,hn,hj,hl,H,S,hv,hs,k,hk=>by
  apply uY.call;unfold uY;have lv:=S.len (t':=bT) cJ.und;rw[iS] at lv;have g1:((j:Int)<0)=False:=eq_false (by omega);have g2:((l.length:Int)≤(j:Int))=False:=eq_false (by omega);by_cases h1:l.length=1
  ·have e1:((l.length:Int)==1)=true:=by simp[h1]
   simp only[g1,lv,g2,hQ,e1,cG,reduceIte,cT,Nat.reduceAdd];have hp:nV l j=[]:=by rw[nV,dif_neg (by omega)]
   rw[hp] at hk;exact hk h _ [] H dZ.nil (λb hb=>by cases hb) cU.refl
  ·have e1:((l.length:Int)==1)=false:=by simp;omega
   have h2:2≤l.length:=by omega
   have hlt:=lK h2;have kb:=H.known b (by simp);have km:=H.known m (by simp);simp only[g1,lv,g2,hQ,e1,cG,reduceIte,cT,Nat.reduceAdd];refine aJH h2 hl ?_;obtain⟨v1,s1,t1,x1⟩:=S.cut (lo:=none) (hi:=some (.int .i64 ((dT l.length:Nat):Int))) (l:=0) (m:=dT l.length) cJ.und cM.info cM.size (.inl ⟨rfl,rfl⟩) (.inr ⟨_,rfl⟩) (by omega) (by simp;omega);obtain⟨v2,s2,t2,x2⟩:=S.cut (lo:=some (.int .i64 ((dT l.length:Nat):Int))) (hi:=none) (l:=dT l.length) (m:=l.length) cJ.und cM.info cM.size (.inr ⟨_,rfl⟩) (.inl ⟨rfl,by simp⟩) (by omega) (by simp);rw[zLb,←aKm] at t1;rw[←aKm,←List.map_drop,zLI] at t2;have hv1:Off b m v1:=λa n c e=>by
    obtain⟨x0,n0,c0,e0,e5⟩:=x1 a n c e;rw[e5];exact hv _ _ _ e0
   have hv2:Off b m v2:=λa n c e=>by
    obtain⟨x0,n0,c0,e0,e5⟩:=x2 a n c e;rw[e5];exact hv _ _ _ e0
   have fin:∀{h3:PH} {v3:Value} {F3:List Nat} {q:List Tx} {d:Tx},Bk b m A K h3->dZ h3 bR 1 v3 (q.map iY) F3->eD h F3->cU [b,m] h h3->q.length≤20->nV l j=q++[d]->dY (jK PG (buildSlice cP 1 #[(0,.string (tx d))])) λx40=>∀r39,h3 r39=none->dY (dA PG (x40.2 r39)) λv41=>eJ (PH.set h3 r39 x40.1) λh42=>cY PG (Builtin.append_ #[cP,cP] cP #[v3,v41]) h42 λv43 h44=>k v43 h44:=by
    intro h3 v3 F3 q d B3 O3 f3 u3 hq hp;simp only[aMO,cG,reduceIte,cT,Nat.reduceAdd];intro r hr;refine fI ?_
    try rw[cW]
    have u4:cZ h3 (h3.set r (.cells #[.string (tx d)] bR)):=cU.new hr;have s4:fR (h3.set r (.cells #[.string (tx d)] bR)) 1 (.slice (some ⟨r,0,none⟩) 1 1) ([d].map iY):=(dZ.lit (n:=1) (rows:=[d].map iY) (λr hr=>by simp only[iH,iT,fV] at hr;subst hr;rfl) dL (by simp) (by decide) rfl).slR;generalize h3.set r (.cells #[.string (tx d)] bR)=h4 at *;have k3b:=B3.known b (by simp);have k3m:=B3.known m (by simp);refine jF cP.und cP.und bR.info bR.size bR.bytes bR.zero rfl (by decide) (O3.ext u4) s4 (λr hr u hu=>by
     obtain⟨y,hy,rfl⟩:=lO.1 hr;exact iY.isC y u hu) (by simp only[iS,zLS];omega) ?_
    intro v5 h5 F5 O5 u5 k5 _;rw[←qI,←hp] at O5;refine hk h5 v5 F5 ((B3.ext u4).upd u5 (λx hx hm'=>?_)) O5 (λx hx=>?_) ((u3.trans u4.upd).then u5 (λx hx=>.inr (f3 x hx)))
    ·have:h x≠none:=H.known x hx;exact this (f3 x hm')
    ·rcases k5 x hx with hx|hx
     ·exact f3 x hx
     ·exact u3.grow2 k3b k3m (u4.none hx)
   have deep:∀(l':List Pr) (j':Nat),l'.length≤65536->(nV l' j').length≤20:=λl' j' hl'=>by
    have:=aEi 16 l' j' hl';omega
   by_cases hjm:j<dT l.length
   ·have g3:((j:Int)<((dT l.length:Nat):Int))=True:=eq_true (by omega);simp only[g3,s1,s2,cG,reduceIte,cT,Nat.reduceAdd];refine aM4 n (l:=l.take (dT l.length)) (by rw[uF];omega) (by rw[uF];omega) (by rw[uF];omega) H t1 hv1 (λp hp=>hs p (aKz hp)) λh3 v3 F3 B3 O3 f3 u3=>?_;refine aNM (aJl (by rw[xV];omega)) (by rw[xV];omega) B3 (t2.upd u3 hv2) hv2 (λp hp=>hs p (aL3 hp)) λh4 B4 u4=>?_;refine fin (q:=nV (l.take (dT l.length)) j) (B4.mono λa ha=>by simp[ha]) (O3.upd u4 (f3.off kb km)) f3 (u3.trans u4) (deep _ _ (by rw[uF];omega)) ?_;rw[nV,dif_pos h2,if_pos hjm]
   ·have g3:((j:Int)<((dT l.length:Nat):Int))=False:=eq_false (by omega);have w1:IntKind.i64.wrap ((j:Int)-((dT l.length:Nat):Int))=((j-dT l.length:Nat):Int):=by rw[eV (by omega) (by omega)];omega
    simp only[g3,s1,s2,w1,cG,reduceIte,cT,Nat.reduceAdd];refine aM4 n (l:=l.drop (dT l.length)) (by rw[xV];omega) (by rw[xV];omega) (by rw[xV];omega) H t2 hv2 (λp hp=>hs p (aL3 hp)) λh3 v3 F3 B3 O3 f3 u3=>?_;refine aNM (aJl (by rw[uF];omega)) (by rw[uF];omega) B3 (t1.upd u3 hv1) hv1 (λp hp=>hs p (aKz hp)) λh4 B4 u4=>?_;refine fin (q:=nV (l.drop (dT l.length)) (j-dT l.length)) (B4.mono λa ha=>by simp[ha]) (O3.upd u4 (f3.off kb km)) f3 (u3.trans u4) (deep _ _ (by rw[xV];omega)) ?_;rw[nV,dif_pos h2,if_neg hjm]
def gF(i n:Nat):Nat:=if h:2≤n then(if i<dT n then 1+gF i (dT n) else 1+gF (i-dT n) (n-dT n)) else 0
termination_by n
decreasing_by
 ·have:=lK h;omega
 ·have:=lK h;omega
def oM(p:Pr)(i n:Nat)(path:List Tx):Tx:=
 if h:2≤n then(if i<dT n then aAh (oM p i (dT n) path) (path.getD (gF i n-1) []) else aAh (path.getD (gF i n-1) []) (oM p (i-dT n) (n-dT n) path)) else aFi p
termination_by n
decreasing_by
 ·have:=lK h;omega
 ·have:=lK h;omega
def upA(p:Pr)(i n:Nat)(path:List Tx):List Tx:=
 if h:2≤n then(if i<dT n then rS (oM p i (dT n) path) (path.getD (gF i n-1) [])::upA p i (dT n) path else rS (path.getD (gF i n-1) []) (oM p (i-dT n) (n-dT n) path)::upA p (i-dT n) (n-dT n) path) else [aAn p]
termination_by n
decreasing_by
 ·have:=lK h;omega
 ·have:=lK h;omega
theorem aJJ:∀(d i n:Nat),n≤2^d->gF i n≤d
 | 0,i,n,h=>by rw[gF,dif_neg (by simp at h;omega)];exact oL _
 | d+1,i,n,h=>by
  by_cases h2:2≤n
  ·obtain⟨a,b⟩:=aEk h2 h;rw[gF,dif_pos h2];split
   ·have:=aJJ d i (dT n) a;omega
   ·have:=aJJ d (i-dT n) (n-dT n) b;omega
  ·rw[gF,dif_neg h2];omega
theorem aKY:∀(n:Nat) (p:Pr) (i:Nat) (q r:List Tx),gF i n≤q.length->oM p i n (q++r)=oM p i n q:=by
 intro n;induction n using Nat.strongRecOn with
 | ind n ih=>
  intro p i q r hq;by_cases h2:2≤n
  ·obtain⟨m1,m2⟩:=lK h2;rw[gF,dif_pos h2] at hq;rw[oM,dif_pos h2]
   conv=>rhs;rw[oM,dif_pos h2]
   have hg:(q++r).getD (gF i n-1) []=q.getD (gF i n-1) []:=by
    have hd:gF i n-1<q.length:=by
     by_cases hi:i<dT n
     ·rw[if_pos hi] at hq;rw[gF,dif_pos h2,if_pos hi];omega
     ·rw[if_neg hi] at hq;rw[gF,dif_pos h2,if_neg hi];omega
    rw[aAX,aAX,List.getElem?_append_left hd]
   rw[hg];by_cases hi:i<dT n
   ·rw[if_pos hi] at hq;rw[if_pos hi,if_pos hi,ih (dT n) m2 p i q r (by omega)]
   ·rw[if_neg hi] at hq;rw[if_neg hi,if_neg hi,ih (n-dT n) (by omega) p (i-dT n) q r (by omega)]
  ·rw[oM,dif_neg h2]
   conv=>rhs;rw[oM,dif_neg h2]
theorem aWM:∀(n:Nat) (p:Pr) (i:Nat) (path:List Tx),upP p i n path=if gF i n≤path.length∧∀d∈path.drop (path.length-gF i n),d.length=32 then some (oM p i n (path.drop (path.length-gF i n)),path.take (path.length-gF i n)) else none:=by
 intro n;induction n using Nat.strongRecOn with
 | ind n ih=>
  intro p i path;by_cases h2:2≤n
  ·obtain⟨m1,m2⟩:=lK h2;rcases List.eq_nil_or_concat path with rfl|⟨q,x,rfl⟩
   ·rw[upP,dif_pos h2,if_neg]
    ·rfl
    ·rintro⟨h,-⟩;rw[gF,dif_pos h2] at h;split at h<;>simp at h<;>omega
   ·rw[List.concat_eq_append];have key:∀(d:Nat) (Y:Tx->Tx) (U:List Tx->Tx) (o:Option (Tx×List Tx)),gF i n=1+d->(∀z,d≤z.length->U (z++[x])=U z)->
      o=(if d≤q.length∧∀y∈q.drop (q.length-d),y.length=32 then some (U (q.drop (q.length-d)),q.take (q.length-d)) else none)->(∀z,z.length=d->oM p i n (z++[x])=Y (U z))->
      (if x.length≠32 then none else o.map λy=>(Y y.1,y.2))=if gF i n≤(q++[x]).length∧∀y∈(q++[x]).drop ((q++[x]).length-gF i n),y.length=32 then some (oM p i n ((q++[x]).drop ((q++[x]).length-gF i n)),(q++[x]).take ((q++[x]).length-gF i n)) else none:=by
     intro d Y U o hd hU ho hY;have hl:(q++[x]).length-gF i n=q.length-d:=by rw[hd,jP,zLS];omega
     rw[hl,hd];by_cases hdq:d≤q.length
     ·have e1:(q++[x]).drop (q.length-d)=q.drop (q.length-d)++[x]:=List.drop_append_of_le_length (by omega);have e2:(q++[x]).take (q.length-d)=q.take (q.length-d):=zLG (by omega);rw[e1,e2];by_cases hx:x.length=32
      ·rw[if_neg (by simpa using hx),ho];by_cases hall:∀y∈q.drop (q.length-d),y.length=32
       ·rw[if_pos ⟨hdq,hall⟩,if_pos ⟨by simp;omega,λy hy=>by
         rcases jG.1 hy with hy|hy
         ·exact hall y hy
         ·simp only[fV] at hy;rw[hy];exact hx⟩,hY _ (by rw[xV];omega)]
        rfl
       ·rw[if_neg (λh=>hall h.2),if_neg (λh=>hall λy hy=>h.2 y (by simp[hy]))];rfl
      ·rw[if_pos hx,if_neg (λh=>hx (h.2 x (by simp)))]
     ·have ho':o=none:=by rw[ho,if_neg (λh=>hdq h.1)]
      have hno:¬(1+d≤(q++[x]).length∧∀y∈(q++[x]).drop (q.length-d),y.length=32):=λh=>hdq (by have:=h.1;rw[jP,zLS] at this;omega);rw[ho',if_neg hno];split<;>rfl
    rw[upP,dif_pos h2,List.getLast?_concat,List.dropLast_concat];simp only;by_cases hi:i<dT n
    ·have hd:gF i n=1+gF i (dT n):=by rw[gF,dif_pos h2,if_pos hi]
     simp only[hi,if_true];refine key (gF i (dT n)) (λy=>aAh y x) (λz=>oM p i (dT n) z) _ hd (λz hz=>aKY _ _ _ _ _ hz) (ih (dT n) m2 p i q) (λz hz=>?_)
     conv=>lhs;rw[oM,dif_pos h2,if_pos hi]
     rw[aKY _ _ _ _ _ (by omega),hd,aAX,show 1+gF i (dT n)-1=z.length by omega,List.getElem?_concat_length];rfl
    ·have hd:gF i n=1+gF (i-dT n) (n-dT n):=by rw[gF,dif_pos h2,if_neg hi]
     simp only[hi,if_false];refine key (gF (i-dT n) (n-dT n)) (λy=>aAh x y) (λz=>oM p (i-dT n) (n-dT n) z) _ hd (λz hz=>aKY _ _ _ _ _ hz) (ih (n-dT n) (by omega) p (i-dT n) q) (λz hz=>?_)
     conv=>lhs;rw[oM,dif_pos h2,if_neg hi]
     rw[aKY _ _ _ _ _ (by omega),hd,aAX,show 1+gF (i-dT n) (n-dT n)-1=z.length by omega,List.getElem?_concat_length];rfl
  ·have h0:gF i n=0:=by rw[gF,dif_neg h2]
   rw[upP,dif_neg h2,h0,Nat.sub_zero,if_pos ⟨Nat.zero_le _,λd hd=>by simp at hd⟩,zLI,oM,dif_neg h2]
structure OkC(f:Lf):Prop where
 n1:1≤f.n
 n2:f.n≤4096
 i1:0≤f.i
 i2:f.i<f.n
 len:f.path.length=gF f.i.toNat f.n.toNat
 all:∀d∈f.path,d.length=32
def aLk(f:Lf):Tx:=oM f.p f.i.toNat f.n.toNat f.path
def aGl(f:Lf):List Tx:=aHF f.n.toNat (aLk f)::upA f.p f.i.toNat f.n.toNat f.path
theorem aOk{f:Lf}(H:OkC f):oR f=some (aI2 f.n.toNat (aLk f)):=by
 have h1:=H.n1;have h2:=H.n2;have h3:=H.i1;have h4:=H.i2;unfold oR;rw[if_neg (by omega),aWM,←H.len,Nat.sub_self,zLb,List.take_zero,if_pos ⟨oL _,H.all⟩];rfl
theorem aPB{f:Lf}(H:¬OkC f):oR f=none:=by
 unfold oR;by_cases c:f.n<1∨4096<f.n∨f.i<0∨f.n≤f.i
 ·rw[if_pos c]
 ·rw[if_neg c,aWM];by_cases d:gF f.i.toNat f.n.toNat≤f.path.length∧∀d∈f.path.drop (f.path.length-gF f.i.toNat f.n.toNat),d.length=32
  ·rw[if_pos d];obtain⟨d1,d2⟩:=d;by_cases e:f.path.length=gF f.i.toNat f.n.toNat
   ·exfalso;rw[←e,Nat.sub_self,zLb] at d2;exact H ⟨by omega,by omega,by omega,by omega,e,d2⟩
   ·have hne:f.path.take (f.path.length-gF f.i.toNat f.n.toNat)≠[]:=aJl (by rw[uF];omega);cases ht:f.path.take (f.path.length-gF f.i.toNat f.n.toNat) with
    | nil=>exact absurd ht hne
    | cons x xs=>rfl
  ·rw[if_neg d];rfl
theorem aJc:∀(d:Nat) {h:PH} {i n:Nat},n≤2^d->1≤n->n≤4096->i<n->∀{k:cE},k (.int .i64 ((gF i n:Nat):Int)) h->aT PG pM #[.int .i64 (i:Int),.int .i64 (n:Int)] h k
 | d,h,i,n,hd,h1,hn,hi,k,hk=>by
  apply aBS.call;unfold aBS;by_cases e1:n=1
  ·have q:((n:Int)==1)=true:=by simp[e1]
   simp only[hQ,q,cG,reduceIte,cT,Nat.reduceAdd];have:gF i n=0:=by rw[gF,dif_neg (by omega)]
   rw[this] at hk;exact hk
  ·have q:((n:Int)==1)=false:=by simp;omega
   have h2:2≤n:=by omega
   obtain⟨m1,m2⟩:=lK h2;cases d with
   | zero=>simp at hd;omega
   | succ d=>
    obtain⟨a,b⟩:=aEk h2 hd;simp only[hQ,q,cG,reduceIte,cT,Nat.reduceAdd];refine aJH h2 (by omega) ?_;have hdl:=aJJ 12 i n (by omega);by_cases c:i<dT n
    ·have g:((i:Int)<((dT n:Nat):Int))=True:=eq_true (by omega);have he:gF i n=1+gF i (dT n):=by rw[gF,dif_pos h2,if_pos c]
     have w:IntKind.i64.wrap (1+((gF i (dT n):Nat):Int))=((gF i n:Nat):Int):=by rw[eV (by omega) (by omega)];omega
     simp only[g,cG,reduceIte,cT,Nat.reduceAdd];refine aJc d a (by omega) (by omega) c ?_;simp only[w,cG,reduceIte,cT,Nat.reduceAdd];exact hk
    ·have g:((i:Int)<((dT n:Nat):Int))=False:=eq_false (by omega);have he:gF i n=1+gF (i-dT n) (n-dT n):=by rw[gF,dif_pos h2,if_neg c]
     have w:IntKind.i64.wrap (1+((gF (i-dT n) (n-dT n):Nat):Int))=((gF i n:Nat):Int):=by rw[eV (by omega) (by omega)];omega
     have w1:IntKind.i64.wrap ((i:Int)-((dT n:Nat):Int))=((i-dT n:Nat):Int):=by rw[eV (by omega) (by omega)];omega
     have w2:IntKind.i64.wrap ((n:Int)-((dT n:Nat):Int))=((n-dT n:Nat):Int):=by rw[eV (by omega) (by omega)];omega
     simp only[g,w1,w2,cG,reduceIte,cT,Nat.reduceAdd];refine aJc d b (by omega) (by omega) (by omega) ?_;simp only[w,cG,reduceIte,cT,Nat.reduceAdd];exact hk
end
section
open Go
theorem aXI{hs:List Int}{l:List gY}(R:qY hs l)(hpos:∀y∈hts l,0≤y){best:Int}(h1:best=0∨best∈hts l)(h2:∀y∈hts l,y≤best)(h0:0≤best):aKj hs=best:=by
 unfold aKj;rcases List.eq_nil_or_concat hs with rfl|⟨ys,y,rfl⟩
 ·rcases h1 with h|h
  ·exact h.symm
  ·exact absurd (R.mem.2 h) (by simp)
 ·have hy:y∈hts l:=R.mem.1 (by simp);have e1:=h2 y hy;have e0:=hpos y hy;simp only[List.concat_eq_append,List.getLast?_append,List.getLast?_singleton,Option.some_or,aIA];rcases h1 with h|h
  ·omega
  ·have:=R.mem.2 h;rcases jG.1 (by simpa[List.concat_eq_append] using this:best∈ys++[y]) with hb|hb
   ·have hup:=R.up;rw[List.concat_eq_append,List.pairwise_append] at hup;have:=hup.2.2 best hb y (by simp);omega
   ·simp at hb;exact hb.symm
theorem fR.kn{h:PH}{x:Value}{xs:List gY}(H:fR h 2 x (xs.map gY.cells)){k:IntKind}{j:Nat}{m:gY}(hm:xs[j]? =some m):
  ∃b o,dA PG (indexAt dR x (.int k j))=some (pT b o)∧dD h ⟨b,o,none⟩=some (.int .u64 m.height)∧dD h ⟨b,o+1,none⟩=some (.string m.root)∧cD PG h (loadAt eH (pT b o))=some (.agg m.cells.toArray):=by
 obtain⟨b,o,h1,h2,h3⟩:=H.fields dR.und eH.info eH.size (k:=k) (j:=j) (r:=m.cells) (by rw[vD,hm];rfl);exact⟨b,o,h1,h2 0 _ rfl,h2 1 _ rfl,h3 _ eH.und rfl⟩
structure xI(h:PH)(a:Nat)(l:List gY)(F:List Nat):Prop where
 here:∃v G,h a=some (.cells #[v] gE (0,0))∧dZ h eH 2 v (l.map gY.cells) G∧F=a::G∧a∉G
theorem xI.known{h:PH}{a:Nat}{l:List gY}{F:List Nat}(H:xI h a l F):∀b∈F,h b≠none:=by
 obtain⟨v,G,ha,hO,rfl,hn⟩:=H;intro b hb;rcases gP.1 hb with rfl|hb
 ·rw[ha];simp
 ·exact hO.known b hb
theorem xI.upd{h h':PH}{a:Nat}{l:List gY}{F G:List Nat}(H:xI h a l F)(u:cU G h h')(hd:∀b∈F,b∉G):xI h' a l F:=by
 obtain⟨v,G',ha,hO,rfl,hn⟩:=H;exact⟨v,G',u.get ha (hd a (by simp)),hO.upd u (λb hb=>hd b (by simp[hb])),rfl,hn⟩
theorem xI.ext{h h':PH}{a:Nat}{l:List gY}{F:List Nat}(H:xI h a l F)(u:cZ h h'):xI h' a l F:=H.upd u (by simp)
theorem aKT{h:PH}{a:Nat}{l:List gY}{F:List Nat}(hR:xI h a l F)(hl:l.length≤1000000)(x:Int){k:cE}
  (hk:k (.tuple #[.string ((kO l x).getD ⟨#[]⟩),.bool (kO l x).isSome]) h):aT PG mK #[pT a 0,.int .u64 x] h k:=by
 obtain⟨v,G,ha,hO,rfl,hn⟩:=hR;have lv:=hO.slR.len (t':=bT) dR.und;rw[iS] at lv;apply uP.call;unfold uP;refine⟨λvs h'=>∃i:Nat,i≤l.length∧vs=[pT a 0,.int .u64 x,.int .i64 i]∧h'=h∧kO l x=kO (l.drop i) x,gU l.length 2,⟨0,by omega,rfl,rfl,rfl⟩,?_⟩;rintro ρ h' ⟨i,hi,hvs,rfl,hr⟩;simp only[iH,iT,kV,and_true] at hvs;obtain⟨e0,e1,e5⟩:=hvs;rw[e0,e1,e5];unfold aCp;by_cases hlt:i<l.length
 ·have hd:((i:Int)<(l.length:Int))=True:=by apply eq_true;omega
  obtain⟨m,hm⟩:∃m,l[i]? =some m:=⟨_,lQ hlt⟩;obtain⟨b,o,a1,a2,a3,-⟩:=hO.slR.kn (k:=.i64) hm;have e2:=pR (i:=i) (by omega);have ha':dD h' ⟨a,0,none⟩=some v:=by simp[dD,ha]
  have hdr:l.drop i=m::l.drop (i+1):=by
   rw[aM7 hlt];rw[lQ hlt] at hm;simp at hm;rw[hm]
  simp only[gE.f0,dR.load,ha',lv,hd,a1,eH.f0,eH.f1,cA.load,bR.load,a2,a3,e2,cG,reduceIte];by_cases e:x=m.height
  ·have e3:(m.height==x)=true:=by simp[e]
   have e4:kO l x=some m.root:=by rw[hr,hdr];simp[kO,e]
   rw[e4] at hk;simp only[e3,cG,reduceIte];exact hk
  ·have e3:(m.height==x)=false:=by simp;exact λh=>e h.symm
   simp only[e3,cG,reduceIte];refine⟨⟨i+1,by omega,rfl,by trivial,?_⟩,by simp[gU,e5];omega⟩;rw[hr,hdr];simp[kO,e]
 ·have hd:((i:Int)<(l.length:Int))=False:=by apply eq_false;omega
  have ha':dD h' ⟨a,0,none⟩=some v:=by simp[dD,ha]
  simp only[gE.f0,dR.load,ha',lv,hd,cG,reduceIte];have e4:kO l x=none:=by rw[hr,aLq (by omega)];rfl
  rw[e4] at hk;exact hk
theorem aK0{l:List gY}{i:Nat}{m:gY}(hm:l[i]? =some m):hts (l.take (i+1))=hts (l.take i)++[m.height]:=by
 rw[zLT,hm];simp[hts]
theorem aSh{h:PH}{a:Nat}{l:List gY}{hs:List Int}{F:List Nat}(hR:xI h a l F)(hl:l.length≤1000000)(R:qY hs l)(hpos:∀y∈hts l,0≤y){k:cE}
  (hk:k (.int .u64 (aKj hs)) h):aT PG vE #[pT a 0] h k:=by
 obtain⟨v,G,ha,hO,rfl,hn⟩:=hR;have lv:=hO.slR.len (t':=bT) dR.und;rw[iS] at lv;apply rX.call;unfold rX;refine⟨λvs h'=>∃(i:Nat) (best:Int),i≤l.length∧vs=[pT a 0,.int .u64 best,.int .i64 i]∧h'=h∧(best=0∨best∈hts (l.take i))∧(∀y∈hts (l.take i),y≤best)∧0≤best,gU l.length 2,⟨0,0,by omega,rfl,rfl,.inl rfl,by simp[hts],by omega⟩,?_⟩;rintro ρ h' ⟨i,best,hi,hvs,rfl,q1,q2,q3⟩;simp only[iH,iT,kV,and_true] at hvs;obtain⟨e0,e1,e5⟩:=hvs;rw[e0,e1,e5];unfold aB1;have ha':dD h' ⟨a,0,none⟩=some v:=by simp[dD,ha]
 by_cases hlt:i<l.length
 ·have hd:((i:Int)<(l.length:Int))=True:=by apply eq_true;omega
  obtain⟨m,hm⟩:∃m,l[i]? =some m:=⟨_,lQ hlt⟩;obtain⟨b,o,a1,a2,a3,-⟩:=hO.slR.kn (k:=.i64) hm;have e2:=pR (i:=i) (by omega);have hmp:0≤m.height:=hpos _ (zL6 (rC hm));simp only[gE.f0,dR.load,ha',lv,hd,a1,eH.f0,cA.load,a2,cG,reduceIte];by_cases e:best<m.height
  ·simp only[e,cG,reduceIte];unfold pD uG;simp only[e2,cG,reduceIte];refine⟨⟨i+1,m.height,by omega,rfl,by trivial,.inr ?_,?_,hmp⟩,by simp[gU,e5];omega⟩
   ·rw[aK0 hm];simp
   ·intro y hy;rw[aK0 hm] at hy;rcases jG.1 hy with hy|hy
    ·have:=q2 y hy;omega
    ·simp at hy;omega
  ·simp only[e,cG,reduceIte];unfold pD uG;simp only[e2,cG,reduceIte];refine⟨⟨i+1,best,by omega,rfl,by trivial,?_,?_,q3⟩,by simp[gU,e5];omega⟩
   ·rw[aK0 hm];simp;rcases q1 with h|h
    ·exact .inl h
    ·exact .inr (.inl h)
   ·intro y hy;rw[aK0 hm] at hy;rcases jG.1 hy with hy|hy
    ·exact q2 y hy
    ·simp at hy;omega
 ·have hd:((i:Int)<(l.length:Int))=False:=by apply eq_false;omega
  simp only[gE.f0,dR.load,ha',lv,hd,cG,reduceIte];rw[mW (by omega)] at q1 q2;rw[aXI R hpos q1 q2 q3] at hk;exact hk
theorem aWs:jK PG (buildSlice dR 0 #[])=some (.cells #[] eH,λr=>pure (.slice (some ⟨r,0,none⟩) 0 0)):=by kernel_rfl
theorem aWf(m:gY):jK PG (buildSlice dR 1 #[(0,.agg m.cells.toArray)])=some (.cells m.cells.toArray eH,λr=>pure (.slice (some ⟨r,0,none⟩) 1 1)):=by kernel_rfl
theorem aUc(m:gY):dA PG (build eH #[(0,.int .u64 m.height),(1,.string m.root)])=some (.agg m.cells.toArray):=by kernel_rfl
theorem aXk{h:PH}{a:Nat}{l:List gY}{F:List Nat}(hR:xI h a l F)(hl:l.length≤4096)(x:gY){k:cE}
  (hk:∀h' F',xI h' a (aAa l x).2 F'->cU [a] h h'->(∀b∈F',b∈F∨h b=none)->k (.int .i64 (aAa l x).1) h'):aT PG rV #[pT a 0,.int .u64 x.height,.string x.root] h k:=by
 apply vM.call;unfold vM;unfold aAa at hk;simp only[bR.len,cG,reduceIte];by_cases c1:x.root.size=32
 ·have e1:((x.root.size:Int) !=32)=false:=by simp[c1]
  rw[if_neg (by simpa using c1)] at hk;simp only[e1,cG,reduceIte];refine aKT hR (by omega) x.height ?_;simp only[aNh,cG,reduceIte];by_cases c2:x.height∈hts l
  ·simp only[c2,cG,reduceIte];rw[if_pos c2] at hk;exact hk _ _ hR cU.refl (λb hb=>.inl hb)
  ·rw[if_neg c2] at hk;obtain⟨v,G,ha,hO,hF,hn⟩:=hR.here;have lv:=hO.slR.len (t':=bT) dR.und;rw[iS] at lv;have ha':dD h ⟨a,0,none⟩=some v:=by simp[dD,ha]
   simp only[c2,gE.f0,dR.load,ha',lv,cG,reduceIte];by_cases c3:4096≤l.length
   ·have e3:((4096:Int)≤(l.length:Int))=True:=by apply eq_true;omega
    simp only[e3,cG,reduceIte];rw[if_pos c3] at hk;exact hk _ _ hR cU.refl (λb hb=>.inl hb)
   ·have e3:((4096:Int)≤(l.length:Int))=False:=by apply eq_false;omega
    rw[if_neg c3] at hk;simp only[e3,aWs,cG,reduceIte];intro r hr;refine fI ?_;have u1:cZ h (h.set r (.cells #[] eH)):=cU.new hr;have hN:dZ (h.set r (.cells #[] eH)) eH 2 (.slice (some ⟨r,0,none⟩) 0 0) [] [r]:=dZ.lit (by intro r hr;cases hr) dL rfl (by simp) rfl;have f1:eD h [r]:=eD.one hr;generalize h.set r (.cells #[] eH)=h1 at *;have ha1:dD h1 ⟨a,0,none⟩=some v:=by simp[dD,u1.get ha]
    simp only[ha1,cG,reduceIte];refine jF dR.und dR.und eH.info eH.size eH.bytes eH.zero rfl (by decide) hN (hO.slR.ext u1) (gY.isCell _) (by simp;omega) ?_;intro v2 h2 F2 hO2 u2 k2 _;have w2:=u1.fresh u2 f1;have f2:=f1.grow u1 k2;rw[yF] at hO2;simp only[aUc,aWf,cG,reduceIte];intro r3 hr3;refine fI ?_;have u3:cZ h2 (h2.set r3 (.cells x.cells.toArray eH)):=cU.new hr3;have hx3:fR (h2.set r3 (.cells x.cells.toArray eH)) 2 (.slice (some ⟨r3,0,none⟩) 1 1) ([x].map gY.cells):=(dZ.lit (gY.rows _) dL (by simp) (by decide) (by simp)).slR;generalize h2.set r3 (.cells x.cells.toArray eH)=h3 at *;refine jF dR.und dR.und eH.info eH.size eH.bytes eH.zero rfl (by decide) (hO2.ext u3) hx3 (gY.isCell _) (by simp;omega) ?_;intro v4 h4 F4 hO4 u4 k4 _;have w4:=(w2.trans u3).fresh u4 f2;have f4:=f2.grow (w2.trans u3) k4;rw[←qI] at hO4;have ha4:=w4.get ha;have na4:a∉F4:=λhm'=>by have:=f4 a hm';rw[ha] at this;cases this
    refine iU dR.und rfl ha4 (by simp) ?_ dR.info dR.size ?_
    ·obtain⟨_,_,rfl,-⟩:=hO4.slR.here;rfl
    refine hk _ (a::F4) ⟨v4,F4,by simpa using dL,hO4.upd (cU.set (F:=[a]) (by simp)) (λb hb=>by simp;rintro rfl;exact na4 hb),rfl,na4⟩ (w4.upd.trans (cU.set (by simp))) ?_;intro b hb;simp only[gP] at hb;rcases hb with rfl|hb
    ·exact .inl (by rw[hF];simp)
    ·exact .inr (f4 b hb)
 ·have e1:((x.root.size:Int) !=32)=true:=by simp;omega
  rw[if_pos (by simpa using c1)] at hk;simp only[e1,cG,reduceIte];exact hk _ _ hR cU.refl (λb hb=>.inl hb)
end
section
open Go Go.RowKit Go.ChangeShapes
def aKC(W:World):PH:=λb=>W.heap[b]?
theorem aSO(W:World):pJ (aKC W) W:=λ_ _ h=>h
structure aJq(W W':World):Prop where
 os:W'.os=W.os
 output:W'.output=W.output
 heap:∀b,b<W.heap.size->W'.heap[b]? =W.heap[b]?
theorem aS8{P:Program}{f:FuncId}{args:Array Value}{W:World}(H:aT P f args (aKC W) λv h'=>v= .bool true∧cZ (aKC W) h')(he:aEQ P f=true:=by kernel_rfl):
  Calls P f args W λe w'=>e= .returned (.bool true)∧aJq W w':=by
 refine(H.calls he W (aSO W)).mono ?_;rintro e w' ⟨v,h',rfl,⟨rfl,hx⟩,hs,hf⟩;refine⟨rfl,hf.os,hf.output,λb hb=>?_⟩;cases e:W.heap[b]? with
 | none=>simp at e;omega
 | some o=>exact hs b o (hx.get e)
theorem aJq.cell{W W':World}(K:aJq W W')(a:Addr)(h:a.block<W.heap.size):W'.cell? a=W.cell? a:=by
 unfold World.cell?;rw[K.heap _ h]
theorem aJq.frozen{W W':World}(K:aJq W W')(a:Addr)(h:a.block<W.heap.size):W'.frozen? a=W.frozen? a:=by
 unfold World.frozen?;rw[K.heap _ h]
theorem aJq.sameAt{W W':World}(K:aJq W W')(p:MemPlace)(h:p.block<W.heap.size):W.sameAt W' p:=by
 cases p with
 | cell b off=>exact K.cell _ h
 | map b=>exact K.heap _ h
theorem aJq.but{W W':World}(K:aJq W W')(may:MemPlace->Prop):W.keptBut W' may:=by
 refine⟨K.os,K.output,λi hi=>?_⟩;rw[K.heap i hi];cases W.heap[i]? with
 | none=>rfl
 | some o=>
  cases o with
  | cells c t fr=>exact⟨rfl,rfl,rfl,λ_ _=>rfl⟩
  | map es clock=>exact .inr ⟨rfl,rfl⟩
  | _=>rfl
theorem aK6{H:Type}{enc:TypeId×Value->H}{P:Program}{w w':World}{base:Nat}{spare:Nat->Bool}{held:Bool}:∀{ts:List TypeId} {vs:List Value} {ds:List (DataW H)} {ps:List MemPlace},
  DataW.TrodAll enc P w base spare held ts vs ds ps->(∀p∈ps,w.sameAt w' p)->DataW.TrodAll enc P w' base spare held ts vs ds ps
 | [],[],[],_,h,_=>h
 | _::_,_::_,_::_,_,⟨p,q,⟨n,h1⟩,h2,e⟩,hs=>⟨p,q,⟨n,DataW.trod_carry n _ _ _ h1 λx hx=>hs x (by rw[e];exact zLk _ hx)⟩,aK6 h2 (λx hx=>hs x (by rw[e];exact zLl _ hx)),e⟩
theorem aQ7{H:Type}{enc:TypeId×Value->H}{P:Program}{f:Func}{s:ChangeSpec}{apart fresh handsOn again:Bool}{W W':World}{args:Array Value}{ds gs:List (DataW H)}{before:List MemPlace}
  {T:TypeId->Prop} (KP:Kids P T) (full:∀t e,T t->P.underlying t=some (.slice e)->0<P.cellsOf e) (hT:∀t∈f.params.toList,T t) {tb:TypeId} (hb:P.underlying tb=some .bool) (hr:f.resultTypes= #[tb])
  (hs:s.vars=[]) (hW:DataW.Whole enc P f.params.toList s.vars apart W args.toList ds gs before) (hK:aJq W W')
  (e1:(s.fn H (ds++gs)).results=[.lit (.bool true)]) (e2:(s.fn H (ds++gs)).args=ds) (e3:(s.fn H (ds++gs)).vars=[]):
  s.post enc P f apart fresh handsOn again W args (.bool true) W':=by
 have hlt:=λp hp=>hW.lt p hp;have hW':=hW;obtain⟨pa,pv,hA,hV,rfl,hz,hn⟩:=hW';rw[hs] at hV;obtain⟨rfl,rfl⟩:=trodVars_none hV;simp only[zLP] at *;have hargs:∀sp:Nat->Bool,(∀p∈pa,sp p.block=true)->DataW.TrodAll enc P W' 0 sp true f.params.toList args.toList ds pa:=λsp hsp=>
  aK6 (DataW.TrodAll.respare KP full hT hA hsp) λp hp=>hK.sameAt p (hlt p hp)
 have hres:∀(b:Nat) (sp:Nat->Bool) (hd:Bool),DataW.TrodAll enc P W' b sp hd f.resultTypes.toList ((Value.bool true).resultList f.resultTypes.size) (s.fn H ds).results []:=λb sp hd=>by
  rw[e1,hr];exact trodAll_cons_mk (shut_bool hb _) trodAll_mk0
 have hvars:∀sp:Nat->Bool,DataW.TrodVars enc P W' sp s.vars (s.fn H ds).vars []:=λsp=>by rw[e3,hs];rfl
 have hold:∀p∈pa,(λb=>decide (b<W.heap.size)) p.block=true:=λp hp=>by simpa using hlt p hp
 refine⟨ds,[],pa,[],pa,[],hW,by simpa using hres _ _ _,by simpa[e2] using hargs _ hold,by simpa using hvars _,World.keptBut_mono (λp hp=>⟨hp,by simp[hp]⟩) (hK.but (· ∈pa)),λ_=>?_⟩;refine⟨ok_one hr rfl (okWide_bool_mk hb _),_,_,([]++pa)++[],⟨[]++pa,[],trodAll_append (hargs _ (λ_ _=>rfl)) (hres _ _ _),hvars _,rfl,?_,?_⟩,?_⟩
 ·intro b off hp;have hp':MemPlace.cell b off∈pa:=by simpa using hp
  rw[hK.frozen ⟨b,off,none⟩ (hlt _ hp')];exact hz b off hp'
 ·intro ha;simpa using hn ha
 ·intro p hp _;simpa using hp
variable{H:Type}{enc:TypeId×Value->H}{P:Program}{w:World}{spare:Nat->Bool}{held:Bool}
def Rd(enc:TypeId×Value->H)(P:Program)(w:World)(spare:Nat->Bool)(held:Bool)(t:TypeId)(cs:List Value):Prop:=∃n x,DataW.trod enc P w 0 spare held n t cs=some x
theorem aGm{t:TypeId}{k:IntKind}{cs:List Value}(ht:P.underlying t=some (.int k))(h:Rd enc P w spare held t cs):∃n,cs=[.int k n]∧(Lit.int k n).wf=true:=by
 obtain⟨n,x,h⟩:=h;obtain⟨i,rfl,_,hw⟩:=DataW.trod_int ht h;exact⟨i,rfl,hw⟩
theorem aXa{t:TypeId}{cs:List Value}(ht:P.underlying t=some .bool)(h:Rd enc P w spare held t cs):∃b,cs=[.bool b]:=by
 obtain⟨n,x,h⟩:=h;obtain⟨i,rfl,_⟩:=DataW.trod_bool ht h;exact⟨i,rfl⟩
theorem aPK{t:TypeId}{cs:List Value}(ht:P.underlying t=some .string)(h:Rd enc P w spare held t cs):∃s:ByteArray,cs=[.string s]∧s.size≤maxLen:=by
 obtain⟨n,x,h⟩:=h;obtain⟨i,rfl,_,hw⟩:=DataW.trod_string ht h;exact⟨i,rfl,hw⟩
theorem aL2{t:TypeId}{fs:Array Field}{cs:List Value}(ht:P.underlying t=some (.struct fs))(h:Rd enc P w spare held t cs):
  cs.length=P.cellsOf t∧∀(i:Nat) (f:Field),fs[i]? =some f->Rd enc P w spare held f.type ((cs.drop f.offset).take (P.cellsOf f.type)):=by
 obtain⟨n,x,h⟩:=h;obtain⟨xs,m,rfl,_,hl,hx,hf⟩:=DataW.trod_struct ht h;refine⟨hl,λi f hi=>?_⟩;have h1:=hf i f hi;have hlt:i<xs.length:=by rw[hx];exact(aI6.1 hi).1
 rw[lQ hlt] at h1;exact⟨m,_,h1⟩
theorem aVw{t e:TypeId}{n:Nat}{cs:List Value}(ht:P.underlying t=some (.array n e))(h:Rd enc P w spare held t cs):
  cs.length=P.cellsOf t∧∀i,i<n->Rd enc P w spare held e ((cs.drop (i*P.cellsOf e)).take (P.cellsOf e)):=by
 obtain⟨m,x,h⟩:=h;cases m with
 | zero=>simp[DataW.trod] at h
 | succ m=>
  unfold DataW.trod at h;rw[ht] at h;split at h<;>simp_all;obtain⟨hl,xs,hp,hd⟩:=h;intro i hi;have:=mapM_some_get hp i i (by simp[hi]);have hlt:i<xs.length:=by have:=mapM_some_length hp;simp at this;omega
  rw[lQ hlt] at this;exact⟨m,_,this⟩
theorem aPT{w:World}{a:Addr}{v:Value}(h:w.cell? a=some v):∃c t fr,w.heap[a.block]? =some (.cells c t fr)∧a.spot=none∧c[a.off]? =some v:=by
 unfold World.cell? at h;split at h
 ·rename_i c t fr e;cases hs:a.spot with
  | none=>rw[hs] at h;exact⟨c,t,fr,e,rfl,by simpa using h⟩
  | some b=>rw[hs] at h;simp at h
 ·cases h
theorem aTO{a:Addr}(h:a.spot=none)(n:Nat):a.add n=⟨a.block,a.off+n,none⟩:=by
 obtain⟨b,o,s⟩:=a;simp only at h;subst h;exact lT b o n
theorem aUi{t e:TypeId}{cs:List Value}(ht:P.underlying t=some (.slice e))(hpos:0<P.cellsOf e)(h:Rd enc P w spare held t cs):
  ∃v rows,cs=[v]∧fR (aKC w) (P.cellsOf e) v rows∧∀r∈rows,Rd enc P w spare held e r:=by
 obtain⟨n,x,h⟩:=h;rcases Go.Deep.open_slice ht h with⟨rfl,_⟩|⟨a,len,cap,m,k,D,Pl,rfl,hb,hl,hm,hmm,rfl,hx⟩
 ·exact⟨_,[],rfl,dZ.nil (e:=e).slR,by simp⟩
 have hlm:len≤m:=by rw[hmm];split<;>omega
 obtain⟨R,hR⟩:=Go.Deep.choose_lt (α:=List Value) (n:=len) (p:=λi r=>w.cells? 0 (a.add (i*P.cellsOf e)) (P.cellsOf e)=some r∧Rd enc P w spare held e r) (λi hi=>by
  obtain⟨r,h1,h2⟩:=hx i (by omega);exact⟨r,h1,k,_,h2⟩)
 have hrows:Rows (P.cellsOf e) ((List.range len).map R):=λr hr=>by
  obtain⟨i,hi,rfl⟩:=lO.1 hr;exact(World.cells?_some (hR i (aKH.1 hi)).1).2.1
 refine⟨_,(List.range len).map R,rfl,⟨hrows,some a,cap,by simp,by simpa using hl,hm,λhne=>?_,trivial⟩,λr hr=>?_⟩
 ·have hlen:0<len:=by
   rcases Nat.eq_zero_or_pos len with h0|h0
   ·subst h0;simp at hne
   ·exact h0
  have cell:∀i j,i<len->j<P.cellsOf e->w.cell? (a.add (i*P.cellsOf e+j))=(R i)[j]?:=λi j hi hj=>by
   rw[←Go.Deep.add_add];exact(World.cells?_some (hR i hi).1).2.2 j hj
  have hRl:∀i,i<len->(R i).length=P.cellsOf e:=λi hi=>(World.cells?_some (hR i hi).1).2.1;have c0:=cell 0 0 hlen hpos;rw[Nat.zero_mul,fE,show a.add 0=a by simp[Addr.add],lQ (by rw[hRl 0 hlen];exact hpos)] at c0;obtain⟨c,tt,fr,hh,hs,_⟩:=aPT c0;have at_:∀i j,i<len->j<P.cellsOf e->c[a.off+(i*P.cellsOf e+j)]? =(R i)[j]?:=λi j hi hj=>by
   have h1:=cell i j hi hj;rw[aTO hs] at h1;have hj':j<(R i).length:=by rw[hRl i hi];exact hj
   rw[lQ hj'] at h1 ⊢;obtain⟨c',_,_,hh',_,h2⟩:=aPT h1;simp only[hh,zL8,Obj.cells.injEq] at hh';rw[←hh'.1] at h2;exact h2
  have hle:a.off+len*P.cellsOf e≤c.size:=by
   have h1:=at_ (len-1) (P.cellsOf e-1) (by omega) (by omega);have hj':P.cellsOf e-1<(R (len-1)).length:=by rw[hRl _ (by omega)];omega
   rw[lQ hj'] at h1;have h2:=(aI6.1 h1).1;have h3:(len-1)*P.cellsOf e+P.cellsOf e=len*P.cellsOf e:=by rw[←Nat.succ_mul];congr 1;omega
   omega
  refine⟨a.block,a.off,c,tt,fr,by rw[←hs],hh,by simpa using hle,?_⟩;have hfl:=hrows.flat;simp only[iS,List.length_range] at hfl;apply List.ext_getElem?;intro q;by_cases hq:q<len*P.cellsOf e
  ·have hq1:q/P.cellsOf e<len:=Nat.div_lt_of_lt_mul (by rw[zLR];exact hq);have hq2:=zLA q hpos;have hq3:q/P.cellsOf e*P.cellsOf e+q%P.cellsOf e=q:=by rw[zLR];exact Nat.div_add_mod _ _
   have h1:=at_ _ _ hq1 hq2;rw[hq3] at h1;have h2:=hrows.at (i:=q/P.cellsOf e) (r:=R (q/P.cellsOf e)) (by simp[hq1]);have h3:((List.range len).map R).flatten[q]? =(R (q/P.cellsOf e))[q%P.cellsOf e]?:=by
    rw[←h2,List.getElem?_take_of_lt hq2,aMB,hq3]
   rw[h3,←h1,aKb,Array.getElem?_extract];simp only[iS,List.length_range];rw[if_pos (by omega)]
  ·rw[List.getElem?_eq_none (by rw[Array.length_toList,Array.size_extract];simp;omega),List.getElem?_eq_none (by omega)]
 ·obtain⟨i,hi,rfl⟩:=lO.1 hr;exact(hR i (aKH.1 hi)).2
theorem aR7{r:Reach}{base:Nat}{t e:TypeId}{v:Value}{d:DataW H}{p:List MemPlace}(ht:P.underlying t=some (.slice e))(hpos:0<P.cellsOf e)(hval:Value.okWide P w r base t v)(hd:DataW.Trod enc P w 0 spare held t v d p):
  ∃rows,fR (aKC w) (P.cellsOf e) v rows∧∀r∈rows,Rd enc P w spare held e r:=by
 obtain⟨a,n,c,rfl⟩:=Go.WideShapes.okWide_slice ht hval;obtain⟨k,hk⟩:=hd;obtain⟨v,rows,h1,h2,h3⟩:=aUi ht hpos ⟨k,_,hk⟩;obtain rfl:Value.slice a n c=v:=by simpa[Value.cells] using h1
 exact⟨rows,h2,h3⟩
end
section
open Go Go.RowKit Go.ChangeShapes
mutual
def aME{H:Type}:DataW H->List Value
 | .lit (.int k n)=>[.int k n]
 | .agg jE=>aLu jE
 | _=>[]
def aLu{H:Type}:List (DataW H)->List Value
 | []=>[]
 | d::r=>aME d++aLu r
end
def aLW(P:Program):Nat->TypeId->Bool
 | 0,_=>false
 | n+1,t=>match P.underlying t with
  | some (.int _)=>true
  | some (.array len e)=>aLW P n e&&P.cellsOf t==len*P.cellsOf e
  | _=>false
theorem aKD{H:Type}(c:Nat):∀(xs:List (DataW H×List MemPlace)) (cs:List Value),cs.length=xs.length*c->(∀i x,xs[i]? =some x->((cs.drop (i*c)).take c)=aME x.1)->cs=aLu (xs.map (·.1))
 | [],cs,hl,_=>by
  have:cs=[]:=zLN (by simpa using hl);simp[this,aLu]
 | x::xs,cs,hl,h=>by
  have h0:=h 0 x rfl;simp only[Nat.zero_mul,zLb] at h0;rw[rN,zLE,Nat.one_mul] at hl;have ih:=aKD c xs (cs.drop c) (by rw[xV];omega) λi y hy=>by
   have:=h (i+1) y (by simpa using hy);rw[zLE,Nat.one_mul] at this;rw[aI5,Nat.add_comm c,this]
  rw[iH,aLu,←h0,←ih,aOD]
theorem aLo{H:Type}{enc:TypeId×Value->H}{P:Program}{w:World}{base:Nat}{spare:Nat->Bool}{held:Bool}:∀(m n:Nat) (t:TypeId) (cs:List Value) (x:DataW H×List MemPlace),aLW P m t=true->DataW.trod enc P w base spare held n t cs=some x->cs=aME x.1
 | 0,_,_,_,_,hp,_=>by simp[aLW] at hp
 | m+1,n,t,cs,x,hp,h=>by
  unfold aLW at hp;split at hp
  ·rename_i k hu;obtain⟨i,rfl,rfl,_⟩:=DataW.trod_int hu h;rfl
  ·rename_i len e hu;simp only[yE,beq_iff_eq] at hp;obtain⟨xs,m',rfl,rfl,hl,hn,hel⟩:=DataW.trod_array hu h;rw[aME];refine aKD (P.cellsOf e) xs cs (by rw[hl,hp.2,hn]) λi y hy=>?_;have hi:i<len:=by rw[←hn];exact(zLz.1 hy).1
   have:=hel i hi;rw[hy] at this;exact aLo m m' e _ y hp.1 this
  ·cases hp
theorem aTD{P:Program}{w:World}{n:String}{g:Nat}{cs:Array Value}(hg:P.globalNamed n=some g)(h:w.var? P n=some cs):∃e fr,w.heap[g]? =some (.cells cs e fr):=by
 simp only[World.var?,hg,aDG] at h;split at h
 ·rename_i a b c hh;cases h;exact⟨b,c,hh⟩
 ·cases h
theorem aN2{P:Program}{w:World}:∀{l:List (String×DataW Unit)} {ps:List MemPlace},DataW.LaidVars P w l ps->∀{n:String} {d:DataW Unit},(n,d)∈l->∀{g:Nat} {t:TypeId} {m:Nat},P.globalNamed n=some g->(P.globals[g]?).map (·.type)=some t->aLW P m t=true->
  ∃e fr,w.heap[g]? =some (.cells (aME d).toArray e fr)
 | [],_,_,_,_,hm,_,_,_,_,_,_=>by cases hm
 | (n0,d0)::r,ps,H,n,d,hm,g,t,m,hg,ht,hp=>by
  obtain⟨g0,t0,cs0,f0,p0,q0,hg0,ht0,hv0,hd0,hr,_⟩:=H;rcases gP.1 hm with e|hm
  ·simp only[Prod.mk.injEq] at e;obtain⟨rfl,rfl⟩:=e;obtain rfl:=aKh (hg.symm.trans hg0);obtain rfl:=aKh (ht.symm.trans ht0);obtain⟨e,fr,hh⟩:=aTD hg0 hv0;have:=aLo m f0 t cs0.toList _ hp hd0;refine⟨e,fr,?_⟩;rw[hh];congr 2;apply zLv;simpa using this
  ·exact aN2 hr hm hg ht hp
theorem aYI:Kids PG (· < PG.types.size):=kids_rows (by kernel_rfl) (by kernel_rfl)
theorem aX4:∀t e,t<PG.types.size->PG.underlying t=some (.slice e)->0<PG.cellsOf e:=slices_full_of PG (by kernel_rfl)
theorem aVr{H:Type}{enc:TypeId×Value->H}{P:Program}{w:World}{spare:Nat->Bool}{held:Bool}{t:TypeId}{v:Value}{d:DataW H}{p:List MemPlace}(hd:DataW.Trod enc P w 0 spare held t v d p):Rd enc P w spare held t v.cells.toList:=by
 obtain⟨k,hk⟩:=hd;exact⟨k,_,hk⟩
theorem aLc{n:Int}(h:(Lit.int .u64 n).wf=true):0≤n∧n<18446744073709551616:=by
 simp[Lit.wf,IntKind.min,IntKind.max,IntKind.signed,IntKind.bits] at h;omega
end
section
open Go
theorem neqPtrSelf{h:PH}{x y:Operand}(a:Addr):cD PG h (jS .neq dU x y (.pointer (some a)) (.pointer (some a)))=some (.bool false):=by
 show cD PG h (Op.equalIn (9999+1) dU (.pointer (some a)) (.pointer (some a)) >>= λb=>(pure (Value.bool (!b)):Sem Value))=_;rw[jQ];have:cD PG h (Op.equalIn (9999+1) dU (.pointer (some a)) (.pointer (some a)))=some true:=by
  rw[Op.equalIn,kC dU.und];simp only[kR];rw[aBY dG.info];simp[dG.size,sameAddr,cD,pure]
 rw[this];rfl
theorem semE_viewAt{h:PH}{r:Nat}{x:TypeId×Nat}{α:Type}(hs:kA h r=some (some x))(f:Option (Addr×TypeId)->Sem α):cD PG h (viewAt r >>= f)=cD PG h (f none):=by
 rw[jQ];have:cD PG h (viewAt r)=some none:=by
  show(kA h r).bind _=_;rw[hs];rfl
 rw[this];rfl
theorem semE_seenAt{h:PH}{a:Addr}{x:TypeId×Nat}{α:Type}(hs:kA h a.block=some (some x))(f:Addr->Sem α):cD PG h (Conv.seenAt a >>= f)=cD PG h (f a):=by
 rw[jQ];have:cD PG h (Conv.seenAt a)=some a:=by
  unfold Conv.seenAt;rw[semE_viewAt hs];rfl
 rw[this];rfl
theorem semE_cellsIn{h:PH}{r:Nat}{x:TypeId×Nat}{α:Type}(hs:kA h r=some (some x))(f:Option Nat->Sem α):cD PG h (cellsIn r >>= f)=cD PG h (f (some x.2)):=by
 rw[jQ];have:cD PG h (cellsIn r)=some (some x.2):=by
  show(kA h r).bind _=_;rw[hs];rfl
 rw[this];rfl
theorem to_unsafe{h:PH}{a:Nat}{c:Array Value}(ha:h a=some (.cells c fJ (0,0)))(hc:1<c.size):cD PG h (convert dU iE (pT a 1))=some (pT a 1):=by
 have hs:kA h a=some (some (fJ,c.size)):=by unfold kA;rw[ha]
 show cD PG h (underlying dU >>= _)=_;rw[kC dU.und];show cD PG h (underlying iE >>= _)=_;rw[kC iE.und];show cD PG h (underlying dU >>= _)=_;rw[kC dU.und];show cD PG h (underlying iE >>= _)=_;rw[kC iE.und];show cD PG h (Conv.seenAt ⟨a,1,none⟩ >>= _)=_;rw[semE_seenAt (a:=⟨a,1,none⟩) hs];show cD PG h (cellsIn a >>= _)=_;rw[semE_cellsIn hs];have h1:¬(1 ≥ c.size):=by omega
 simp only[kR];rw[aBY dG.info];simp[dG.size,h1,cD,pure]
theorem from_unsafe{h:PH}{a:Nat}{c:Array Value}(ha:h a=some (.cells c fJ (0,0)))(hc:c.size=3):cD PG h (convert iE dU (pT a 1))=some (pT a 1):=by
 have hs:kA h a=some (some (fJ,c.size)):=by unfold kA;rw[ha]
 rw[hc] at hs;show cD PG h (underlying iE >>= _)=_;rw[kC iE.und];show cD PG h (underlying dU >>= _)=_;rw[kC dU.und];show cD PG h (underlying iE >>= _)=_;rw[kC iE.und];show cD PG h (underlying dU >>= _)=_;rw[kC dU.und];show cD PG h (Conv.seenAt ⟨a,1,none⟩ >>= _)=_;rw[semE_seenAt (a:=⟨a,1,none⟩) hs];have hv:cD PG h (variablesAt ⟨a,1,none⟩ dG 1)=some true:=by
  show(kA h a).bind _=_;rw[hs]
  kernel_rfl
 simp only[kR];rw[aBY dG.info];simp only[dG.size];rw[jQ,hv];simp[cD,pure]
theorem NoEscape_ok{h:PH}{v:Value}{k:cE}(hk:k v h):aT PG aAP #[v] h k:=
 aT.entry (v:=v) (by kernel_rfl) hk
structure WAt(h:PH)(a:Nat)(e:Int)(bs:List UInt8)(F:List Nat):Prop where
 here:∃p v G,h a=some (.cells #[.int .i64 e,p,v] fJ (0,0))∧(p= .pointer none∨p=pT a 1)∧dZ h dJ 1 v (bs.map jC) G∧F=a::G∧a∉G
theorem WAt.known{h:PH}{a:Nat}{e:Int}{bs:List UInt8}{F:List Nat}(H:WAt h a e bs F):∀b∈F,h b≠none:=by
 obtain⟨p,v,G,ha,hp,hO,rfl,hn⟩:=H;intro b hb;rcases gP.1 hb with rfl|hb
 ·rw[ha];simp
 ·exact hO.known b hb
theorem WAt.upd{h h':PH}{a:Nat}{e:Int}{bs:List UInt8}{F G:List Nat}(H:WAt h a e bs F)(u:cU G h h')(hd:∀b∈F,b∉G):WAt h' a e bs F:=by
 obtain⟨p,v,G',ha,hp,hO,rfl,hn⟩:=H;exact⟨p,v,G',u.get ha (hd a (by simp)),hp,hO.upd u (λb hb=>hd b (by simp[hb])),rfl,hn⟩
theorem WAt.ext{h h':PH}{a:Nat}{e:Int}{bs:List UInt8}{F:List Nat}(H:WAt h a e bs F)(u:cZ h h'):WAt h' a e bs F:=H.upd u (by simp)
def aGy(h:PH)(a:Nat)(F:List Nat)(e:Int)(bs:List UInt8)(k:PH->Prop):Prop:=∀h' F',WAt h' a e bs F'->cU F h h'->(∀b∈F',b∈F∨h b=none)->k h'
theorem copyCheck_ok{h:PH}{a:Nat}{m p v:Value}(ha:h a=some (.cells #[m,p,v] fJ (0,0)))(hp:p= .pointer none∨p=pT a 1){k:cE}
  (hk:∀h',h' a=some (.cells #[m,pT a 1,v] fJ (0,0))->cU [a] h h'->(∀b,b≠a->h' b=h b)->k (.tuple #[]) h'):aT PG mD #[pT a 1] h k:=by
 apply nJ.call;unfold nJ;have hc:dD h ⟨a,1,none⟩=some p:=by simp[dD,ha]
 simp only[dG.f0,dU.load,hc,cG,reduceIte];rcases hp with rfl|rfl
 ·simp only[aHu dU.und,Option.isNone_none,cG,reduceIte];refine cD.semH (to_unsafe ha (by simp)) ?_;refine NoEscape_ok ?_;refine cD.semH (from_unsafe ha (by simp)) ?_;refine iU dU.und rfl ha (by simp) rfl dU.info dU.size ?_;exact hk _ dL (cU.set (by simp)) (λb hb=>oZ hb)
 ·simp only[aHu dU.und,Option.isNone_some,neqPtrSelf,dG.f0,dU.load,hc,cG,reduceIte];exact hk _ ha cU.refl (λ_ _=>rfl)
theorem byte_lit(x:Int):jK PG (buildSlice cX 1 #[(0,.int .u8 x)])=some (.cells #[.int .u8 x] dJ,λr=>pure (.slice (some ⟨r,0,none⟩) 1 1)):=by kernel_rfl
theorem buf_app{h:PH}{a:Nat}{e:Int}{p v x:Value}{bs ys:List UInt8}{G:List Nat}{t2 e2:TypeId}(hu2:PG.underlying t2=some (.slice e2))(ha:h a=some (.cells #[.int .i64 e,p,v] fJ (0,0)))(hp:p= .pointer none∨p=pT a 1)(hO:dZ h dJ 1 v (bs.map jC) G)(hn:a∉G)
  (hx:fR h 1 x (ys.map jC)) (hl:bs.length+ys.length≤140737488355328) {k:PH->Prop} (hk:aGy h a (a::G) e (bs++ys) k):
  cY PG (Builtin.append_ #[cX,t2] cX #[v,x]) h λv' h'=>cY PG (dN cX (pT a 2) v') h' λ_ h''=>k h'':=by
 refine jF cX.und hu2 dJ.info dJ.size dJ.bytes dJ.zero rfl (by decide) hO hx (jC.isCell _) (by simp;omega) ?_;intro v2 h2 F2 hO2 u2 k2 _;rw[←qI] at hO2;have ha2:=u2.get ha hn;have hn2:a∉F2:=λhm=>by
  rcases k2 a hm with h1|h1
  ·exact hn h1
  ·rw[ha] at h1;cases h1
 refine iU cX.und rfl ha2 (by simp) ?_ cX.info cX.size ?_
 ·obtain⟨_,_,rfl,-⟩:=hO2.slR.here;rfl
 ·refine hk _ (a::F2) ⟨p,v2,F2,dL,hp,hO2.upd (cU.set (F:=[a]) (by simp)) (λb hb=>by simp;rintro rfl;exact hn2 hb),rfl,hn2⟩ ((u2.mono λb hb=>.inl (by simp[hb])).trans (cU.set (by simp))) (λb hb=>?_);rcases gP.1 hb with rfl|hb
  ·exact .inl (by simp)
  ·rcases k2 b hb with h1|h1
   ·exact .inl (by simp[h1])
   ·exact .inr h1
theorem WriteByte_ok{h:PH}{a:Nat}{e:Int}{bs:List UInt8}{F:List Nat}(hW:WAt h a e bs F)(hl:bs.length+1≤140737488355328)(x:UInt8){k:cE}(hk:aGy h a F e (bs++[x]) (k .nilIface)):
  aT PG mE #[pT a 1,.int .u8 x.toNat] h k:=by
 obtain⟨p,v,G,ha,hp,hO,rfl,hn⟩:=hW;apply mX.call;unfold mX;refine copyCheck_ok ha hp λh1 ha1 u1 o1=>?_;have hc:dD h1 ⟨a,2,none⟩=some v:=by simp[dD,ha1]
 have hO1:=hO.upd u1 (λb hb hf=>by simp at hf;subst hf;exact hn hb);simp only[dG.f1,cX.load,hc,byte_lit,cG,reduceIte];intro r hr;refine fI ?_;have u2:cZ h1 (h1.set r (.cells #[.int .u8 x.toNat] dJ)):=cU.new hr;have s2:fR (h1.set r (.cells #[.int .u8 x.toNat] dJ)) 1 (.slice (some ⟨r,0,none⟩) 1 1) ([x].map jC):=(dZ.lit (jC.rows [x]) dL (by simp) (by decide) (by simp[jC])).slR;refine buf_app cX.und (u2.get ha1) (.inr rfl) (hO1.ext u2) hn s2 (by simpa using hl) ?_;intro h3 F3 hW3 u3 k3;refine hk _ F3 hW3 ((u1.mono λb hb=>.inl (by simp at hb;simp[hb])).trans (u2.upd.trans u3)) λb hb=>?_;rcases k3 b hb with h'|h'
 ·exact .inl h'
 ·by_cases hba:b=a
  ·exact .inl (by simp[hba])
  ·have:=u2.none h';rw[o1 b hba] at this;exact .inr this
theorem buf_str{h:PH}{a:Nat}{e:Int}{p v:Value}{bs ys:List UInt8}{G:List Nat}(ha:h a=some (.cells #[.int .i64 e,p,v] fJ (0,0)))(hp:p= .pointer none∨p=pT a 1)(hO:dZ h dJ 1 v (bs.map jC) G)(hn:a∉G)
  (hl:bs.length+ys.length≤140737488355328) {k:PH->Prop} (hk:aGy h a (a::G) e (bs++ys) k):
  cY PG (Builtin.append_ #[cX,bR] cX #[v,.string (tx ys)]) h λv' h'=>cY PG (dN cX (pT a 2) v') h' λ_ h''=>k h'':=by
 refine aN0 cX.und bR.und dJ.info dJ.size dJ.bytes dJ.zero rfl (by decide) hO (by simp;omega) ?_;intro v2 h2 F2 hO2 u2 k2 _;rw[←qI] at hO2;have ha2:=u2.get ha hn;have hn2:a∉F2:=λhm=>by
  rcases k2 a hm with h1|h1
  ·exact hn h1
  ·rw[ha] at h1;cases h1
 refine iU cX.und rfl ha2 (by simp) ?_ cX.info cX.size ?_
 ·obtain⟨_,_,rfl,-⟩:=hO2.slR.here;rfl
 ·refine hk _ (a::F2) ⟨p,v2,F2,dL,hp,hO2.upd (cU.set (F:=[a]) (by simp)) (λb hb=>by simp;rintro rfl;exact hn2 hb),rfl,hn2⟩ ((u2.mono λb hb=>.inl (by simp[hb])).trans (cU.set (by simp))) (λb hb=>?_);rcases gP.1 hb with rfl|hb
  ·exact .inl (by simp)
  ·rcases k2 b hb with h1|h1
   ·exact .inl (by simp[h1])
   ·exact .inr h1
theorem WriteString_ok{h:PH}{a:Nat}{e:Int}{bs ys:List UInt8}{F:List Nat}(hW:WAt h a e bs F)(hl:bs.length+ys.length≤140737488355328){k:cE}(hk:aGy h a F e (bs++ys) (k (.tuple #[.int .i64 ys.length,.nilIface]))):
  aT PG kU #[pT a 1,.string (tx ys)] h k:=by
 obtain⟨p,v,G,ha,hp,hO,rfl,hn⟩:=hW;apply kP.call;unfold kP;refine copyCheck_ok ha hp λh1 ha1 u1 o1=>?_;have hc:dD h1 ⟨a,2,none⟩=some v:=by simp[dD,ha1]
 have hO1:=hO.upd u1 (λb hb hf=>by simp at hf;subst hf;exact hn hb);simp only[dG.f1,cX.load,hc,bR.len,iB,cG,reduceIte];refine buf_str ha1 (.inr rfl) hO1 hn hl ?_;intro h3 F3 hW3 u3 k3;refine hk _ F3 hW3 ((u1.mono λb hb=>.inl (by simp at hb;simp[hb])).trans u3) λb hb=>?_;rcases k3 b hb with h'|h'
 ·exact .inl h'
 ·by_cases hba:b=a
  ·exact .inl (by simp[hba])
  ·rw[o1 b hba] at h';exact .inr h'
theorem semE_loadBytes{h:PH}:∀(l:List UInt8) (a:Addr) (acc:ByteArray),a.spot=none->(∀j x,l[j]? =some x->dD h (a.add j)=some (.int .u8 x.toNat))->cD PG h (loadBytes a acc l.length)=some ⟨acc.data++l.toArray⟩
 | [],a,acc,_,_=>by show some acc=_;simp
 | x::xs,a,acc,hsp,hc=>by
  have h0:=hc 0 x rfl;have ha0:a.add 0=a:=by obtain⟨b,o,w⟩:=a;cases w<;>simp[Addr.add]
  rw[ha0] at h0;show(dD h a).bind _=_;rw[h0,aDG];show cD PG h (loadBytes (a.add 1) (acc.push ((x.toNat:Int).toNat.toUInt8)) xs.length)=_;rw[semE_loadBytes xs (a.add 1) _ (by obtain⟨b,o,w⟩:=a;simp at hsp;subst hsp;rw[lT]) λj y hy=>?_]
  ·congr 1;apply ByteArray.ext;show(acc.push _).data++xs.toArray=_;rw[ByteArray.data_push];apply zLv;simp
  ·have:=hc (j+1) y (by simpa using hy);have e:(a.add 1).add j=a.add (j+1):=by
    obtain⟨b,o,w⟩:=a;simp at hsp;subst hsp;rw[lT,lT,lT];congr 1;omega
   rw[e];exact this
theorem unsafeStr{h:PH}{g:Nat}{cs:Array Value}{bs:List UInt8}(hb:h g=some (.cells cs dJ (0,0)))(hle:bs.length≤cs.size)(hcs:cs.toList.take bs.length=bs.map λb=>Value.int .u8 b.toNat)(hne:bs≠[])(hmax:bs.length≤qZ){k:cE}
  (hk:∀h',cU [g] h h'->k (.string (tx bs)) h'):cY PG (Builtin.unsafeString_ #[oB,bT] bR #[pT g 0,.int .i64 bs.length]) h k:=by
 have hl:bs.length≠0:=by simpa using hne
 have h63:¬((bs.length:Int)>IntKind.i64.max):=by
  have:IntKind.i64.max=9223372036854775807:=rfl;unfold qZ at hmax;omega
 have hneg:¬(bs.length:Int)<0:=by omega
 have hz:¬(bs.length:Int)=0:=by omega
 have hdef:Builtin.unsafeString_ #[oB,bT] bR #[pT g 0,.int .i64 bs.length]=
   (do
    let n ←asInt (.int .i64 bs.length)
    if n<0 then runtimePanic (.error "unsafe.String: len out of range")
    if n>IntKind.i64.max then unsupported (.unsafePointer "String: a length above the largest int")
    if n=0 then pure (.string .empty)
    else if ←variablesAt ⟨g,0,none⟩ (←elemOf oB) n.toNat then do
     let s ←loadBytes ⟨g,0,none⟩ .empty n.toNat
     freeze ⟨g,0,none⟩ n.toNat
     pure (.string s)
    else unsupported (.unsafePointer "String: not so many bytes at ptr")):=rfl
 rw[hdef];have hs:kA h g=some (some (dJ,cs.size)):=by unfold kA;rw[hb]
 have hv:cD PG h (variablesAt ⟨g,0,none⟩ dJ bs.length)=some true:=by
  show(kA h g).bind _=_;rw[hs];have hc1:PG.cellsOf dJ=1:=by kernel_rfl
  have:=Go.Lib.liesAt_bytes (P:=PG) hc1 (cs.size/PG.cellsOf dJ) bs.length (by rw[hc1];simpa using hle);show some (liesAt PG PG.depth dJ (cs.size/PG.cellsOf dJ) 0 dJ bs.length)=some true;rw[this]
 have hlb:=semE_loadBytes (h:=h) bs ⟨g,0,none⟩ .empty rfl (λj x hx=>by
  rw[lT];unfold dD;simp only[hb,fE];have hj:j<bs.length:=(zLz.1 hx).1;have:(cs.toList.take bs.length)[j]? =some (.int .u8 x.toNat):=by rw[hcs,vD,hx];rfl
  rw[aH9,if_pos hj] at this;simpa using this)
 have helem:cD PG h (elemOf oB)=some dJ:=by kernel_rfl
 simp only[asInt,asIntOf,pure_bind,map_pure,hneg,h63,hz,if_false,pQ];refine iM helem ?_;refine iM hv ?_;simp only[if_true];refine iM hlb ?_;show(∃o,h g=some o)∧_;refine⟨⟨_,hb⟩,?_⟩;have hfin:=hk (mR h ⟨g,0,none⟩ bs.length) (λb o hbo hn=>by
  unfold mR;rw[if_neg hl,if_neg (by simpa using hn)];exact hbo)
 show k (.string _) _;have e:(⟨ByteArray.empty.data++bs.toArray⟩:ByteArray)=tx bs:=by apply ByteArray.ext;simp[tx]
 rw[e];exact hfin
theorem unsafeNone{h:PH}{q:Option Addr}:cD PG h (Builtin.unsafeString_ #[oB,bT] bR #[.pointer q,.int .i64 0])=some (.string (tx [])):=by
 cases q<;>rfl
theorem String_ok{h:PH}{a:Nat}{e:Int}{bs:List UInt8}{F:List Nat}(hW:WAt h a e bs F){k:cE}(hk:∀h',cU F h h'->k (.string (tx bs)) h'):
  aT PG kK #[pT a 1] h k:=by
 obtain⟨p,v,G,ha,hp,hO,rfl,hn⟩:=hW;have hc:dD h ⟨a,2,none⟩=some v:=by simp[dD,ha]
 have lv:=hO.slR.len (t':=bT) cX.und;rw[iS] at lv;apply kQ.call;unfold kQ;simp only[dG.f1,cX.load,hc,lv,cG,reduceIte];have hload:∀h',dD h' ⟨a,2,none⟩=some v->cD PG h' (loadAt cX (pT a 2))=some v:=λh' h1=>by rw[cX.load];exact h1
 rcases hO.here with⟨rfl,hr,rfl⟩|⟨g,cap,cs,rfl,rfl,hb,hle,hmax,hsz,htk⟩
 ·have hnil:bs=[]:=by simpa using hr
  subst hnil;refine cD.semH (a:=.pointer none) rfl ?_;refine⟨hc,?_⟩;refine cD.semH unsafeNone ?_;exact hk _ cU.refl
 ·simp only[iS] at *;by_cases hne:bs=[]
  ·subst hne;by_cases hc0:cap=0
   ·subst hc0;have hs:kA h g=some (some (dJ,cs.size)):=by unfold kA;rw[hb]
    show cY PG (viewAt g >>= _) h _;refine iM (a:=none) (by rw[show viewAt g=(viewAt g >>= λx=>pure x) by simp,semE_viewAt hs];rfl) ?_;refine iM (a:=dJ) (by kernel_rfl) ?_;intro r hr;have u:cZ h (h.set r (.view ⟨g,0,none⟩ dJ)):=cU.new hr;refine⟨by rw[dD];simp[u.get ha],?_⟩;refine cD.semH unsafeNone ?_;exact hk _ u.upd
   ·refine cD.semH (a:=pT g 0) ?_ ?_
    ·show cD PG h (if cap≠0 then _ else _)=_;rw[if_pos hc0];rfl
    ·refine⟨hc,?_⟩;refine cD.semH unsafeNone ?_;exact hk _ cU.refl
  ·have hpos:0<bs.length:=aHN.2 hne;refine cD.semH (a:=pT g 0) ?_ ?_
   ·show cD PG h (if cap≠0 then _ else _)=_;rw[if_pos (by omega)];rfl
   ·refine⟨hc,?_⟩;rw[zL7,jC.flat] at htk;refine unsafeStr hb (by omega) htk hne (by omega) λh' u=>?_;exact hk _ (u.mono λb hb=>.inl (by simp at hb;simp[hb]))
structure WS(h0:PH)(F0:List Nat)(h:PH)(a:Nat)(e:Int)(bs:List UInt8)(F:List Nat):Prop where
 at_:WAt h a e bs F
 upd:cU F0 h0 h
 grow:∀b∈F,b∈F0∨h0 b=none
theorem WS.refl{h:PH}{a:Nat}{e:Int}{bs:List UInt8}{F:List Nat}(H:WAt h a e bs F):WS h F h a e bs F:=⟨H,cU.refl,λb hb=>.inl hb⟩
theorem WS.step{h0 h h':PH}{F0 F F':List Nat}{a:Nat}{e e':Int}{bs bs':List UInt8}(S:WS h0 F0 h a e bs F)(H:WAt h' a e' bs' F')(u:cU F h h')(g:∀b∈F',b∈F∨h b=none):WS h0 F0 h' a e' bs' F':=
 ⟨H,S.upd.then u S.grow,λb hb=>by
  rcases g b hb with h1|h1
  ·exact S.grow b h1
  ·by_cases hF:b∈F0
   ·exact .inl hF
   ·right;cases hh:h0 b with
    | none=>rfl
    | some o=>rw[S.upd.get hh hF] at h1;cases h1⟩
theorem WS.ext{h0 h h':PH}{F0 F:List Nat}{a:Nat}{e:Int}{bs:List UInt8}(S:WS h0 F0 h a e bs F)(u:cZ h h'):WS h0 F0 h' a e bs F:=S.step (S.at_.ext u) u.upd (λb hb=>.inl hb)
theorem WS.next{h:PH}{a:Nat}{F:List Nat}{e:Int}{bs:List UInt8}{k:PH->Prop}(hk:aGy h a F e bs k){h':PH}{F':List Nat}(S:WS h F h' a e bs F'):k h':=hk h' F' S.at_ S.upd S.grow
theorem aSG(x:Int):dA PG (convert bT cA (.int .i64 x))=some (.int .u64 (IntKind.u64.wrap x)):=by kernel_rfl
theorem aRn(x:Int):dA PG (convert cA dJ (.int .u64 x))=some (.int .u8 (IntKind.u8.wrap x)):=by kernel_rfl
theorem aIj(x:Int):dA PG (convert cA bT (.int .u64 x))=some (.int .i64 (IntKind.i64.wrap x)):=by kernel_rfl
theorem aRU(x:Int):dA PG (convert dJ cA (.int .u8 x))=some (.int .u64 (IntKind.u64.wrap x)):=by kernel_rfl
theorem aQG{n k:Nat}(hk:k<8):((n:Int).fdiv (2^(min (((8*k:Nat):Int)).toNat IntKind.u64.bits)))=((n/256^k:Nat):Int):=by
 have e1:min (((8*k:Nat):Int)).toNat IntKind.u64.bits=8*k:=by
  have:IntKind.u64.bits=64:=rfl;rw[this];omega
 have e2:(2:Nat)^(8*k)=256^k:=by rw[Nat.pow_mul]
 rw[e1];have e3:((2:Int)^(8*k))=((256^k:Nat):Int):=by
  rw[←e2];exact(Int.natCast_pow 2 (8*k)).symm
 rw[e3,Int.fdiv_eq_ediv_of_nonneg _ (Int.natCast_nonneg _)];exact(Int.natCast_ediv n (256^k)).symm
theorem aQ0{h:PH}{a:Nat}{e:Int}{bs:List UInt8}{F:List Nat}(hW:WAt h a e bs F){n c:Nat}(hc:c≤8)(hn:n<18446744073709551616)(hl:bs.length≤140737488355000){k:cE}(hk:aGy h a F e (bs++be n c) (k (.tuple #[]))):
  aT PG xY #[pT a 0,.int .u64 n,.int .i64 c] h k:=by
 apply yK.call;unfold yK;have e0:IntKind.i64.wrap ((c:Int)-1)=(c:Int)-1:=eV (by omega) (by omega);simp only[e0,cG,reduceIte];refine⟨λvs h'=>∃(i:Nat) (F':List Nat),i≤c∧vs=[pT a 0,.int .u64 n,.int .i64 ((c:Int)-1-i)]∧WS h F h' a e (bs++(be n c).take i) F',λvs _=>match vs with|[_,_,.int _ j]=>(j+1).toNat|_=>0,⟨0,F,by omega,by simp,by simpa using WS.refl hW⟩,?_⟩;rintro ρ h' ⟨i,F',hi,hvs,S⟩;simp only[iH,iT,kV,and_true] at hvs;obtain⟨s0,s1,s2⟩:=hvs;rw[s0,s1,s2];unfold aHj;by_cases hlt:i<c
 ·have hd:(0≤(c:Int)-1-i)=True:=by apply eq_true;omega
  obtain⟨q,hq⟩:∃q:Nat,c-1-i=q:=⟨_,rfl⟩;have hqi:(c:Int)-1-i=(q:Int):=by omega
  have e1:IntKind.i64.wrap (8*(q:Int))=((8*q:Nat):Int):=by rw[eV (by omega) (by omega)];omega
  have e2:IntKind.i64.wrap ((q:Int)-1)=(c:Int)-1-((i+1:Nat):Int):=by rw[eV (by omega) (by omega)];omega
  have h8:(0:Int)≤((8*q:Nat):Int):=by omega
  have e3:IntKind.u8.wrap (((n/256^q:Nat):Int))=((UInt8.ofNat (n/256^q%256)).toNat:Int):=by
   rw[aHG];simp
  rw[hqi] at hd ⊢;simp only[hd,fJ.f1,fE,e1,aHt h8,aQG (show q<8 by omega),aRn,e3,e2,cG,reduceIte];have hlen:(bs++(be n c).take i).length≤140737488355100:=by
   rw[jP,uF,iC];omega
  refine WriteByte_ok S.at_ (by omega) _ λh3 F3 hW3 u3 k3=>?_;have ht:=aIq (n:=n) hlt;rw[hq] at ht;rw[mT,←ht] at hW3;exact⟨⟨i+1,F3,by omega,rfl,S.step hW3 u3 k3⟩,by simp[s2];omega⟩
 ·have hd:(0≤(c:Int)-1-i)=False:=by apply eq_false;omega
  rw[mW (by rw[iC];omega)] at S;simp only[hd,cG,reduceIte];exact S.next hk
theorem aRt{h:PH}{a:Nat}{e:Int}{bs:List UInt8}{F:List Nat}(hW:WAt h a e bs F)(x:Int){k:cE}(hk:aGy h a F (if e=0 then x else e) bs (k (.tuple #[]))):
  aT PG lD #[pT a 0,.int .i64 x] h k:=by
 have hW':=hW;obtain⟨p,v,G,ha,hp,hO,rfl,hn⟩:=hW;have hc:dD h ⟨a,0,none⟩=some (.int .i64 e):=by simp[dD,ha]
 apply qG.call;unfold qG;by_cases h0:e=0
 ·have q:(e==0)=true:=by simp[h0]
  rw[if_pos h0] at hk;simp only[nN.f0,fY.load,hc,q,cG,reduceIte];refine iU fY.und rfl ha (by simp) rfl fY.info fY.size ?_;refine hk _ (a::G) ⟨p,v,G,dL,hp,hO.upd (cU.set (F:=[a]) (by simp)) (λb hb=>by simp;rintro rfl;exact hn hb),rfl,hn⟩ (cU.set (by simp)) (λb hb=>.inl hb)
 ·have q:(e==0)=false:=by simp[h0]
  rw[if_neg h0] at hk;simp only[nN.f0,fY.load,hc,q,cG,reduceIte];exact hk _ _ hW' cU.refl (λb hb=>.inl hb)
def aGe(s:Int×List UInt8)(n:Int):Int×List UInt8:=if 0≤n∧n≤255 then(s.1,s.2++be n.toNat 1) else(if s.1=0 then 1 else s.1,s.2)
def aJP(s:Int×List UInt8)(l:List UInt8):Int×List UInt8:=if l.length≤65535 then(s.1,s.2++(be l.length 2++l)) else(if s.1=0 then 1 else s.1,s.2)
theorem aXF{h:PH}{a:Nat}{e:Int}{bs:List UInt8}{F:List Nat}(hW:WAt h a e bs F)(hl:bs.length≤140737488355000)(n:Int){k:cE}(hk:aGy h a F (aGe (e,bs) n).1 (aGe (e,bs) n).2 (k (.tuple #[]))):
  aT PG nM #[pT a 0,.int .i64 n] h k:=by
 apply aDT.call;unfold aDT;unfold aGe at hk;have bad:¬(0≤n∧n≤255)->aT PG lD #[pT a 0,.int .i64 1] h λv12 h13=>k (.tuple #[]) h13:=by
  intro hb;rw[if_neg hb] at hk;exact aRt hW 1 hk
 by_cases h1:n<0
 ·simp only[h1,fJ.f0,cG,reduceIte];exact bad (by omega)
 ·by_cases h2:255<n
  ·simp only[h1,h2,fJ.f0,cG,reduceIte];exact bad (by omega)
  ·rw[if_pos (by omega)] at hk;obtain⟨m,rfl⟩:=zLn (a:=n) (by omega);have e1:IntKind.u64.wrap (m:Int)=(m:Int):=gL (by omega) (by omega);simp only[h1,h2,aSG,e1,cG,reduceIte];exact aQ0 hW (c:=1) (by omega) (by omega) hl hk
theorem aUB{h:PH}{a:Nat}{e:Int}{bs:List UInt8}{F:List Nat}(hW:WAt h a e bs F)(hl:bs.length≤140737488355000){n:Nat}(hn:n<18446744073709551616){k:cE}(hk:aGy h a F e (bs++be n 8) (k (.tuple #[]))):
  aT PG mJ #[pT a 0,.int .u64 n] h k:=by
 apply aBR.call;unfold aBR;exact aQ0 hW (c:=8) (by omega) hn hl hk
theorem aRl{h:PH}{a:Nat}{e:Int}{bs ys:List UInt8}{F:List Nat}(hW:WAt h a e bs F)(hl:bs.length+ys.length≤140737488355328){k:cE}(hk:aGy h a F e (bs++ys) (k (.tuple #[]))):
  aT PG tF #[pT a 0,.string (tx ys)] h k:=by
 apply aEG.call;unfold aEG;simp only[fJ.f1,fE,cG,reduceIte];exact WriteString_ok hW hl hk
theorem aXU{h:PH}{a:Nat}{e:Int}{bs ys:List UInt8}{F:List Nat}(hW:WAt h a e bs F)(hl:bs.length≤140737488200000){k:cE}(hk:aGy h a F (aJP (e,bs) ys).1 (aJP (e,bs) ys).2 (k (.tuple #[]))):
  aT PG rJ #[pT a 0,.string (tx ys)] h k:=by
 apply aDL.call;unfold aDL;unfold aJP at hk;by_cases h1:ys.length≤65535
 ·have q:((65535:Int)<(ys.length:Int))=False:=by apply eq_false;omega
  rw[if_pos h1] at hk;have e1:IntKind.u64.wrap (ys.length:Int)=(ys.length:Int):=gL (by omega) (by omega);simp only[bR.len,iB,q,aSG,e1,cG,reduceIte];refine aQ0 hW (c:=2) (by omega) (by omega) (by omega) λh2 F2 hW2 u2 k2=>?_;have hl2:=iC ys.length 2;refine aRl hW2 (by rw[jP,hl2];omega) λh3 F3 hW3 u3 k3=>?_;rw[mT] at hW3;exact WS.next hk (((WS.refl hW).step hW2 u2 k2).step hW3 u3 k3)
 ·have q:((65535:Int)<(ys.length:Int))=True:=by apply eq_true;omega
  rw[if_neg h1] at hk;simp only[bR.len,iB,q,fJ.f0,cG,reduceIte];exact aRt hW 1 hk
theorem aMM{h:PH}{a:Nat}{e:Int}{c:Array Value}{T:TypeId}{fr:Nat×Nat}(ha:h a=some (.cells c T fr))(hc:c[0]? =some (.int .i64 e)){k:cE}(hk:k (.int .i64 e) h):aT PG nZ #[pT a 0] h k:=by
 apply aEO.call;unfold aEO;have hc':dD h ⟨a,0,none⟩=some (.int .i64 e):=by simp[dD,ha,hc]
 simp only[nN.f0,fY.load,hc',cG,reduceIte];exact hk
def aIu(s:Int×List UInt8):List UInt8×Int:=if s.1=0 then(s.2,0) else([],s.1)
theorem aM2{h:PH}{a:Nat}{e:Int}{bs:List UInt8}{F:List Nat}(hW:WAt h a e bs F){k:cE}(hk:∀h',cU F h h'->k (.tuple #[.string (tx (aIu (e,bs)).1),.int .i64 (aIu (e,bs)).2]) h'):
  aT PG uK #[pT a 0] h k:=by
 have hW':=hW;obtain⟨p,v,G,ha,hp,hO,rfl,hn⟩:=hW;apply aCB.call;unfold aCB;unfold aIu at hk;simp only[fJ.f0,fJ.f1,fE,cG,reduceIte];refine aMM ha rfl ?_;by_cases h0:e=0
 ·have q:(e !=0)=false:=by simp[h0]
  rw[if_pos h0] at hk;simp only[q,cG,reduceIte];exact String_ok hW' hk
 ·have q:(e !=0)=true:=by simp[h0]
  rw[if_neg h0] at hk;simp only[q,cG,reduceIte];exact hk _ cU.refl
theorem aZT{t:TypeId}{x b:Nat}(hx:x*256+255<18446744073709551616)(hb:b<256):dA PG (binOp .or t (.int .u64 ((x*256:Nat):Int)) (.int .u64 (b:Int)))=some (.int .u64 ((x*256+b:Nat):Int)):=by
 have e:dA PG (binOp .or t (.int .u64 ((x*256:Nat):Int)) (.int .u64 (b:Int)))=some (.int .u64 (IntKind.u64.wrap ((BitVec.ofInt IntKind.u64.bits ((x*256:Nat):Int) ||| BitVec.ofInt IntKind.u64.bits (b:Int)).toNat))):=rfl;rw[e];congr 2;have h64:IntKind.u64.bits=64:=rfl;rw[h64,BitVec.toNat_or,BitVec.ofInt_natCast,BitVec.ofInt_natCast,BitVec.toNat_ofNat,BitVec.toNat_ofNat,aCk (by omega),aCk (by omega)];have:=Nat.shiftLeft_add_eq_or_of_lt (i:=8) (b:=b) (by omega) x;rw[Nat.shiftLeft_eq] at this;have e2:(x*256 ||| b)=x*256+b:=this.symm;rw[e2,gL (by omega) (by omega)]
structure rA(h:PH)(a:Nat)(e:Int)(s:List UInt8):Prop where
 here:h a=some (.cells #[.int .i64 e,.string (tx s)] gK (0,0))
theorem rA.upd{h h':PH}{a:Nat}{e:Int}{s:List UInt8}{G:List Nat}(H:rA h a e s)(u:cU G h h')(hd:a∉G):rA h' a e s:=⟨u.get H.here hd⟩
theorem rA.ext{h h':PH}{a:Nat}{e:Int}{s:List UInt8}(H:rA h a e s)(u:cZ h h'):rA h' a e s:=H.upd u (by simp)
theorem aQl{h:PH}(s:List UInt8){k:cE}(hk:∀a h',rA h' a 0 s->cZ h h'->h a=none->k (pT a 0) h'):aT PG aFE #[.string (tx s)] h k:=by
 apply aEn.call;unfold aEn;have e1:dA PG (build gK #[(1,.string (tx s))])=some (.agg #[.int .i64 0,.string (tx s)]):=by kernel_rfl
 simp only[e1,cG,reduceIte];intro r hr;exact hk r _ ⟨dL⟩ (cU.new hr) hr
def jR(st:Int×List UInt8)(n:Int):List UInt8×(Int×List UInt8):=
 if st.1=0∧0≤n∧n≤st.2.length then(st.2.take n.toNat,(0,st.2.drop n.toNat)) else([],(if st.1=0 then 6 else st.1,st.2))
theorem aP6{h:PH}{a:Nat}{e:Int}{s:List UInt8}(hR:rA h a e s)(n:Int){k:cE}(hk:∀h',rA h' a (jR (e,s) n).2.1 (jR (e,s) n).2.2->cU [a] h h'->k (.string (tx (jR (e,s) n).1)) h'):
  aT PG xK #[pT a 0,.int .i64 n] h k:=by
 have ha:=hR.here;have c1:dD h ⟨a,1,none⟩=some (.string (tx s)):=by simp[dD,ha]
 have c0:dD h ⟨a,0,none⟩=some (.int .i64 e):=by simp[dD,ha]
 apply aEL.call;unfold aEL;have tail:∀(e':Int),(e'≠0->∀h',h' a=some (.cells #[.int .i64 e',.string (tx s)] gK (0,0))->cU [a] h h'->k (.string (tx [])) h')->(e'=0->0≤n∧n≤s.length)->(e'=0->e=0)->∀h',h' a=some (.cells #[.int .i64 e',.string (tx s)] gK (0,0))->cU [a] h h'->wB k (pT a 0) (.int .i64 n) h':=by
  intro e' hbad hgood he h' ha' u';unfold wB;simp only[gK.f0,gK.f1,fE,cG,reduceIte];refine aMM ha' rfl ?_;by_cases h0:e'=0
  ·have q:(e' !=0)=false:=by simp[h0]
   obtain⟨g1,g2⟩:=hgood h0;have c1':dD h' ⟨a,1,none⟩=some (.string (tx s)):=by simp[dD,ha']
   obtain⟨m,rfl⟩:=zLn g1;have hm:m≤s.length:=by omega
   simp only[q,gK.f1,fE,bR.load,c1',aHx (lo:=none) bR.und (.inl ⟨rfl,rfl⟩) (.inr ⟨.i64,rfl⟩) (Nat.zero_le m) hm,aHx (hi:=none) bR.und (.inr ⟨.i64,rfl⟩) (.inl ⟨rfl,rfl⟩) hm (oL _),cG,reduceIte];refine iU bR.und rfl ha' (by simp) rfl bR.info bR.size ?_;have hr:jR (e,s) (m:Int)=(s.take m,(0,s.drop m)):=by
    unfold jR;rw[if_pos ⟨he h0,by omega,by simpa using hm⟩];simp
   rw[hr] at hk;rw[zLb,mW (oL _)];refine hk _ ⟨?_⟩ (u'.trans (cU.set (by simp)));rw[dL,h0];rfl
  ·have q:(e' !=0)=true:=by simp[h0]
   simp only[q,cG,reduceIte];exact hbad h0 h' ha' u'
 have hin:e=0->¬(0≤n∧n≤s.length)->jR (e,s) n=([],(6,s)):=λh0 hb=>by
  unfold jR;rw[if_neg (by rintro⟨_,h2⟩;exact hb h2),if_pos h0]
 have hne:e≠0->jR (e,s) n=([],(e,s)):=λh0=>by
  unfold jR;rw[if_neg (by rintro⟨h1,_⟩;exact h0 h1),if_neg h0]
 have fails:¬(0≤n∧n≤s.length)->aT PG lD #[pT a 0,.int .i64 6] h λv h'=>wB k (pT a 0) (.int .i64 n) h':=by
  intro hb;apply qG.call;unfold qG;by_cases h0:e=0
  ·have q:(e==0)=true:=by simp[h0]
   simp only[nN.f0,fY.load,c0,q,cG,reduceIte];refine iU fY.und rfl ha (by simp) rfl fY.info fY.size ?_;refine tail 6 (λ_ h' ha' u'=>?_) (λh=>absurd h (by decide)) (λh=>absurd h (by decide)) _ dL (cU.set (by simp));have:=hk h';rw[hin h0 hb] at this;exact this ⟨ha'⟩ u'
  ·have q:(e==0)=false:=by simp[h0]
   simp only[nN.f0,fY.load,c0,q,cG,reduceIte];refine tail e (λ_ h' ha' u'=>?_) (λh1=>absurd h1 h0) (λh1=>h1) _ ha cU.refl;have:=hk h';rw[hne h0] at this;exact this ⟨ha'⟩ u'
 by_cases h1:n<0
 ·simp only[h1,gK.f0,cG,reduceIte];exact fails (by omega)
 ·by_cases h2:(s.length:Int)<n
  ·simp only[h1,gK.f0,gK.f1,fE,bR.load,c1,bR.len,iB,h2,cG,reduceIte];exact fails (by omega)
  ·simp only[h1,gK.f1,fE,bR.load,c1,bR.len,iB,h2,cG,reduceIte];refine tail e (λh0 h' ha' u'=>?_) (λ_=>by omega) (λh1=>h1) _ ha cU.refl;have:=hk h';rw[hne h0] at this;exact this ⟨ha'⟩ u'
def gT(st:Int×List UInt8)(c:Nat):Nat×(Int×List UInt8):=(val (jR st c).1,(jR st c).2)
theorem aJE(st:Int×List UInt8)(c:Nat):(jR st c).1.length≤c:=by
 unfold jR;split
 ·simp;omega
 ·simp
theorem aQc{l:List UInt8}{i:Nat}{b:UInt8}(hb:l[i]? =some b):val (l.take (i+1))=val (l.take i)*256+b.toNat:=by
 rw[zLT,hb];exact aKp _ _
theorem aPM{l:List UInt8}{i:Nat}(hi:i<l.length)(hl:l.length≤8):val (l.take i)*256+255<18446744073709551616:=by
 have h1:=aNP (l.take i);rw[uF,aJn (by omega)] at h1;have h2:256^i≤256^7:=aKy (by decide) (by omega);have h3:(256:Nat)^7=72057594037927936:=by decide
 omega
theorem aPs{h:PH}{a:Nat}{e:Int}{s:List UInt8}(hR:rA h a e s){c:Nat}(hc:c≤8){k:cE}(hk:∀h',rA h' a (gT (e,s) c).2.1 (gT (e,s) c).2.2->cU [a] h h'->k (.int .u64 (gT (e,s) c).1) h'):
  aT PG xR #[pT a 0,.int .i64 c] h k:=by
 apply aD4.call;unfold aD4;refine aP6 hR c λh1 hR1 u1=>?_;have hlen:=aJE (e,s) c;unfold gT at hk;generalize hrr:jR (e,s) (c:Int)=rr at *;refine aVW bR.und cX.und dJ.und (by omega) λv h2 hS u2=>?_;have lv:=hS.len (t':=bT) cX.und;rw[iS] at lv;simp only[lv,cG,reduceIte];refine⟨λvs h'=>∃i:Nat,i≤rr.1.length∧vs=[.int .u64 (val (rr.1.take i)),v,.int .i64 rr.1.length,.int .i64 i]∧h'=h2,gU rr.1.length 3,⟨0,by omega,rfl,rfl⟩,?_⟩;rintro ρ h' ⟨i,hi,hvs,rfl⟩;simp only[iH,iT,kV,and_true] at hvs;obtain⟨s0,s1,s2,s3⟩:=hvs;rw[s0,s1,s2,s3];unfold aHw;by_cases hlt:i<rr.1.length
 ·have hd:((i:Int)<(rr.1.length:Int))=True:=by apply eq_true;omega
  obtain⟨b,hb⟩:∃b,rr.1[i]? =some b:=⟨_,lQ hlt⟩;obtain⟨p,p1,p2⟩:=hS.loadCell cX.und dJ.info dJ.size dJ.und rfl (k:=.i64) (j:=(i:Int)) (x:=.int .u8 b.toNat) (by omega) (by simp[vD,hb,jC]);have hsm:=aPM hlt (by omega);have ei:=pR (i:=i) (by omega);have e1:min (8:Int).toNat IntKind.u64.bits=8:=by decide
  have e2:IntKind.u64.wrap ((val (rr.1.take i):Int)*2^8)=((val (rr.1.take i)*256:Nat):Int):=by rw[gL (by omega) (by omega)];omega
  have hb8:=b.toNat_lt;have e3:IntKind.u64.wrap (b.toNat:Int)=(b.toNat:Int):=gL (by omega) (by omega);simp only[hd,p1,p2,aQf (show(0:Int)≤8 by decide),e1,e2,aRU,e3,aZT hsm hb8,ei,cG,reduceIte];exact⟨⟨i+1,by omega,by rw[aQc hb],by trivial⟩,by simp[gU,s3];omega⟩
 ·have hd:((i:Int)<(rr.1.length:Int))=False:=by apply eq_false;omega
  rw[mW (by omega)];simp only[hd,cG,reduceIte];exact hk _ (hR1.ext u2) (u1.trans u2.upd)
theorem aM5{h:PH}{a:Nat}{e:Int}{s:List UInt8}(hR:rA h a e s){k:cE}(hk:∀h',rA h' a (gT (e,s) 1).2.1 (gT (e,s) 1).2.2->cU [a] h h'->k (.int .i64 (gT (e,s) 1).1) h'):
  aT PG vZ #[pT a 0] h k:=by
 apply aC6.call;unfold aC6;refine aPs hR (c:=1) (by omega) λh1 hR1 u1=>?_;have hlt:=aNP (jR (e,s) ((1:Nat):Int)).1;have hlen:=aJE (e,s) 1;have h2:256^(jR (e,s) ((1:Nat):Int)).1.length≤256^1:=aKy (by decide) hlen;have e1:IntKind.i64.wrap ((gT (e,s) 1).1:Int)=((gT (e,s) 1).1:Int):=by unfold gT;rw[eV (by omega) (by omega)]
 simp only[aIj,e1,cG,reduceIte];exact hk _ hR1 u1
theorem aSJ{h:PH}{a:Nat}{e:Int}{s:List UInt8}(hR:rA h a e s){k:cE}(hk:∀h',rA h' a (gT (e,s) 8).2.1 (gT (e,s) 8).2.2->cU [a] h h'->k (.int .u64 (gT (e,s) 8).1) h'):
  aT PG aCc #[pT a 0] h k:=by
 apply aBe.call;unfold aBe;exact aPs hR (c:=8) (by omega) hk
def mH(st:Int×List UInt8):List UInt8×(Int×List UInt8):=jR (gT st 2).2 (gT st 2).1
theorem aHD(st:Int×List UInt8)(c:Nat):(gT st c).1<256^c:=by
 unfold gT;have hlt:=aNP (jR st (c:Int)).1;exact aKP hlt (aKy (by decide) (aJE st c))
theorem aP8{h:PH}{a:Nat}{e:Int}{s:List UInt8}(hR:rA h a e s){k:cE}(hk:∀h',rA h' a (mH (e,s)).2.1 (mH (e,s)).2.2->cU [a] h h'->k (.string (tx (mH (e,s)).1)) h'):
  aT PG aAm #[pT a 0] h k:=by
 apply aC8.call;unfold aC8;refine aPs hR (c:=2) (by omega) λh1 hR1 u1=>?_;have hlt:=aHD (e,s) 2;have e1:IntKind.i64.wrap ((gT (e,s) 2).1:Int)=((gT (e,s) 2).1:Int):=by rw[eV (by omega) (by omega)]
 simp only[aIj,e1,cG,reduceIte];exact aP6 hR1 _ λh2 hR2 u2=>hk _ hR2 (u1.trans u2)
theorem aVL{h:PH}{a:Nat}{e:Int}{s:List UInt8}(hR:rA h a e s){k:cE}(hk:k (.int .i64 (if e=0 then(s.length:Int) else 0)) h):
  aT PG aDr #[pT a 0] h k:=by
 have ha:=hR.here;have c1:dD h ⟨a,1,none⟩=some (.string (tx s)):=by simp[dD,ha]
 apply aC5.call;unfold aC5;simp only[gK.f0,cG,reduceIte];refine aMM ha rfl ?_;by_cases h0:e=0
 ·have q:(e !=0)=false:=by simp[h0]
  rw[if_pos h0] at hk;simp only[q,gK.f1,fE,bR.load,c1,bR.len,iB,cG,reduceIte];exact hk
 ·have q:(e !=0)=true:=by simp[h0]
  rw[if_neg h0] at hk;simp only[q,cG,reduceIte];exact hk
abbrev kN:=Int×List UInt8
def aIB(st:kN)(n:Nat):kN:=(st.1,st.2++be n 8)
theorem aTv(st:kN)(n:Int):(aGe st n).2.length≤st.2.length+1:=by
 unfold aGe;split<;>simp[iC]
theorem aQd(st:kN)(n:Nat):(aIB st n).2.length≤st.2.length+8:=by simp[aIB,iC]
abbrev WN(h0:PH)(h:PH)(a:Nat)(st:kN)(F:List Nat):Prop:=WS h0 [] h a st.1 st.2 F
theorem WN.upd{h0 h:PH}{a:Nat}{st:kN}{F:List Nat}(S:WN h0 h a st F):cZ h0 h:=WS.upd S
theorem WN.fresh{h0 h:PH}{a:Nat}{st:kN}{F:List Nat}(S:WN h0 h a st F):eD h0 F:=λb hb=>by
 rcases S.grow b hb with h1|h1
 ·cases h1
 ·exact h1
def aEe(h:PH)(F:List Nat)(h':PH)(F':List Nat):Prop:=∀r o,h r=some o->r∉F->h' r=some o∧r∉F'
theorem aNs{h h':PH}{F F':List Nat}(u:cU F h h')(g:∀b∈F',b∈F∨h b=none):aEe h F h' F':=λr o hr hn=>⟨u.get hr hn,λhm=>by
 rcases g r hm with h1|h1
 ·exact hn h1
 ·rw[h1] at hr;cases hr⟩
theorem aLQ{h0 h:PH}{a:Nat}{st:kN}{F:List Nat}(S:WN h0 h a st F)(hl:st.2.length≤1000000000)(n:Int){k:cE}(hk:∀h' F' x,x=aGe st n->WN h0 h' a x F'->aEe h F h' F'->k (.tuple #[]) h'):aT PG nM #[pT a 0,.int .i64 n] h k:=
 aXF S.at_ (by omega) n λh' F' hW u g=>hk h' F' _ rfl (S.step hW u g) (aNs u g)
theorem aIr{h0 h:PH}{a:Nat}{st:kN}{F:List Nat}(S:WN h0 h a st F)(hl:st.2.length≤1000000000){n:Nat}(hn:n<18446744073709551616){k:cE}(hk:∀h' F' x,x=aIB st n->WN h0 h' a x F'->aEe h F h' F'->k (.tuple #[]) h'):aT PG mJ #[pT a 0,.int .u64 n] h k:=
 aUB S.at_ (by omega) hn λh' F' hW u g=>hk h' F' (aIB st n) rfl (S.step hW u g) (aNs u g)
theorem aQb{h0 h:PH}{a:Nat}{st:kN}{F:List Nat}(S:WN h0 h a st F)(hl:st.2.length≤1000000000)(ys:List UInt8){k:cE}(hk:∀h' F' x,x=aJP st ys->WN h0 h' a x F'->aEe h F h' F'->k (.tuple #[]) h'):aT PG rJ #[pT a 0,.string (tx ys)] h k:=
 aXU S.at_ (by omega) λh' F' hW u g=>hk h' F' _ rfl (S.step hW u g) (aNs u g)
theorem WN.box{h0 h:PH}{a:Nat}{st:kN}{F:List Nat}(S:WN h0 h a st F){r:Nat}(hr:h r=none):r∉F:=λhm=>S.at_.known r hm hr
theorem WN.new{h0 h:PH}{a:Nat}{st:kN}{F:List Nat}(S:WN h0 h a st F){r:Nat}(hr:h r=none)(o:Obj):WN h0 (h.set r o) a st F:=WS.ext S (cU.new hr)
theorem zW:dP PG fJ= #[.int .i64 0,.pointer none,.slice none 0 0]:=by rw[fJ.zc];rfl
theorem WN.start{h:PH}{r:Nat}(hr:h r=none):WN h (h.set r (.cells (dP PG fJ) fJ)) r (0,[]) [r]:=by
 have hW:WAt (h.set r (.cells (dP PG fJ) fJ)) r 0 [] [r]:=by
  rw[zW];exact⟨_,_,[],dL,.inl rfl,dZ.nil,rfl,by simp⟩
 exact⟨hW,cU.new hr,λb hb=>.inr (by simp only[fV] at hb;subst hb;exact hr)⟩
theorem aWV{h0 h:PH}{a:Nat}{st:kN}{F:List Nat}(S:WN h0 h a st F)(hl:st.2.length≤1000000000){ys:List UInt8}(hy:ys.length≤1000000000){k:cE}(hk:∀h' F' x,x=(st.1,st.2++ys)->WN h0 h' a x F'->aEe h F h' F'->k (.tuple #[]) h'):aT PG tF #[pT a 0,.string (tx ys)] h k:=
 aRl S.at_ (by omega) λh' F' hW u g=>hk h' F' (st.1,st.2++ys) rfl (S.step hW u g) (aNs u g)
def Pk.tx(p:Pk):Tx:=p.d.data.toList
def wPk(st:kN)(p:Pk):kN:=if p.right then aJP (aIB (aIB (aGe st p.f) p.s.toNat) p.t.toNat) p.tx else aGe st (-1)
structure Pl where
 h:Int
 i:Int
 deriving DecidableEq
def Pl.cells(q:Pl):List Value:=[.int .u64 q.h,.int .i64 q.i]
def Pl.zero:Pl:=⟨0,0⟩
def Pk.bs(p:Pk):Tx:=be p.f.toNat 1++(be p.s.toNat 8++(be p.t.toNat 8++(be p.tx.length 2++p.tx)))
theorem aQ8(p:Pk):p.tx.length=p.d.size:=rfl
theorem Pk.right_iff{p:Pk}:p.right=true↔0≤p.f∧p.f≤1∧p.s≠0∧p.t≠0∧p.d.size≤64:=by
 unfold Pk.right;simp only[yE,decide_eq_true_eq,and_assoc]
theorem aVf{p:Pk}(h:p.right=true)(b:Tx):wPk (0,b) p=(0,b++p.bs):=by
 obtain⟨h1,h2,-,-,h5⟩:=Pk.right_iff.1 h;unfold wPk;rw[if_pos h];unfold aGe aIB aJP;rw[if_pos (show p.tx.length≤65535 by rw[aQ8];omega),if_pos (show 0≤p.f∧p.f≤255 from⟨h1,by omega⟩)];simp only[Pk.bs,mT]
theorem aTm{p:Pk}(h:p.right=false)(b:Tx):(wPk (0,b) p).1=1:=by
 unfold wPk;rw[if_neg (by simp[h])];rfl
def aWD(x:Int×Pk):Prop:=0≤x.1∧x.1≤255∧x.2.right=true
instance (x:Int×Pk):Decidable (aWD x):=by unfold aWD;infer_instance
def aYX(q:Pl):Prop:=0≤q.i∧q.i≤65535
instance (q:Pl):Decidable (aYX q):=by unfold aYX;infer_instance
def Pl.bs(q:Pl):Tx:=be q.h.toNat 8++be q.i.toNat 8
def aKg(st:kN)(e:Int):kN:=(if st.1=0 then e else st.1,st.2)
structure aHa{α:Type}(R:kN->α×kN)(bs:Tx)(v:α):Prop where
 all:∀rest,R (0,bs++rest)=(v,(0,rest))
 cut:∀n,n<bs.length->(R (0,bs.take n)).2.1=6
def aNH{α:Type}(R:kN->α×kN):Prop:=∀e s,e≠0->(R (e,s)).2.1=e
theorem aNH.keep{α:Type}{R:kN->α×kN}(h:aNH R){st:kN}{e:Int}(he:st.1=e)(h0:e≠0):(R st).2.1=e:=by
 obtain⟨a,b⟩:=st;simp only at he;subst he;exact h _ _ h0
theorem aHa.bind{α β γ:Type}{R:kN->α×kN}{S:α->kN->β×kN}{f:α->β->γ}{bs cs:Tx}{v:α}{w:β}(h1:aHa R bs v)(h2:aHa (S v) cs w)(hs:∀x,aNH (S x)):
  aHa (λst=>(f (R st).1 (S (R st).1 (R st).2).1,(S (R st).1 (R st).2).2)) (bs++cs) (f v w):=by
 refine⟨λrest=>?_,λn hn=>?_⟩
 ·simp only[mT,h1.all,h2.all]
 ·simp only;by_cases hb:n<bs.length
  ·have e:(bs++cs).take n=bs.take n:=by rw[zLG (by omega)]
   rw[e];exact(hs _).keep (h1.cut n hb) (by decide)
  ·have e:(bs++cs).take n=bs++cs.take (n-bs.length):=by
    rw[List.take_append,mW (by omega)]
   rw[e,h1.all];exact h2.cut _ (by rw[jP] at hn;omega)
theorem aIc(l:Tx):aHa (λst=>jR st (l.length:Int)) l l:=by
 refine⟨λrest=>?_,λn hn=>?_⟩
 ·unfold jR;rw[if_pos ⟨rfl,by omega,by rw[jP];omega⟩];simp
 ·unfold jR;rw[if_neg (by simp;omega)];rfl
theorem aRH(n:Int):aNH (λst=>jR st n):=λe s h=>by
 simp only[jR];rw[if_neg (by simp[h])];simp[h]
theorem xC{n c:Nat}(h:n<256^c):aHa (λst=>gT st c) (be n c) n:=by
 have:=aIc (be n c);rw[iC] at this;refine⟨λrest=>?_,λm hm=>?_⟩
 ·unfold gT;rw[this.all,aL7,aCk h]
 ·unfold gT;exact this.cut m hm
theorem aHZ{l:Tx}(h:l.length≤65535):aHa mH (be l.length 2++l) l:=
 aHa.bind (R:=λst=>gT st 2) (S:=λn st=>jR st (n:Int)) (f:=λ_ w=>w) (xC (by omega)) (aIc l) λx=>aRH _
def Pk.wf(p:Pk):Prop:=0≤p.s∧p.s<18446744073709551616∧0≤p.t∧p.t<18446744073709551616
theorem aWX(p:Pk):tx p.tx=p.d:=aIh p.d
theorem aEe.refl{h:PH}{F:List Nat}:aEe h F h F:=λr o hr hn=>⟨hr,hn⟩
theorem aEe.trans{h h1 h2:PH}{F F1 F2:List Nat}(a:aEe h F h1 F1)(b:aEe h1 F1 h2 F2):aEe h F h2 F2:=λr o hr hn=>b r o (a r o hr hn).1 (a r o hr hn).2
theorem aEe.ext{h h1:PH}{F:List Nat}(u:cZ h h1):aEe h F h1 F:=λr o hr hn=>⟨u.get hr,hn⟩
structure BK(h:PH)(F:List Nat)(r:Nat)(cs:List Value):Prop where
 bx:Bx h r cs
 out:r∉F
theorem BK.keep{h h':PH}{F F':List Nat}{r:Nat}{cs:List Value}(H:BK h F r cs)(K:aEe h F h' F'):BK h' F' r cs:=by
 obtain⟨e,h1⟩:=H.bx;exact⟨⟨e,(K r _ h1 H.out).1⟩,(K r _ h1 H.out).2⟩
theorem BK.ext{h h':PH}{F:List Nat}{r:Nat}{cs:List Value}(H:BK h F r cs)(u:cZ h h'):BK h' F r cs:=⟨H.bx.ext u,H.out⟩
theorem aYz{h0 h:PH}{a:Nat}{st:kN}{F:List Nat}(S:WN h0 h a st F)(hl:st.2.length≤900000000)(p:Pk)(w:p.wf){k:cE}(hk:∀h' F',WN h0 h' a (wPk st p) F'->aEe h F h' F'->k (.tuple #[]) h'):
  aT PG aIC #[pT a 0,.agg p.cells.toArray] h k:=by
 apply aIV.call;unfold aIV;intro r hr
 try rw[cW]
 have S1:=S.new hr (.cells (Value.cells (.agg p.cells.toArray)) aR);have u1:cZ h (h.set r (.cells (Value.cells (.agg p.cells.toArray)) aR)):=cU.new hr;have B1:BK (h.set r (.cells (Value.cells (.agg p.cells.toArray)) aR)) F r p.cells:=⟨Bx.new,S.box hr⟩;generalize h.set r (.cells (Value.cells (.agg p.cells.toArray)) aR)=h1 at *;have l1:cD PG h1 (loadAt aR (pT r 0))=some (.agg p.cells.toArray):=aR.agg B1.bx (by show 0+4≤4;decide);simp only[l1,cG,reduceIte];refine aK1 p λh2 u2=>?_;have S2:=WS.ext S1 u2;have B2:=B1.ext u2;have K2:aEe h F h2 F:=aEe.ext (u1.trans u2);unfold wPk at hk;obtain⟨w1,w2,w3,w4⟩:=w;cases hp:p.right with
 | false=>
  rw[hp] at hk;simp only[zLt,if_false,kE,show((1:Int) !=0)=true from rfl,cG,reduceIte] at hk ⊢;exact aLQ S2 (by omega) (-1) λh3 F3 x e S3 K3=>by subst e;exact hk _ _ S3 (K2.trans K3)
 | true=>
  rw[hp] at hk;have n1:((p.s.toNat:Nat):Int)=p.s:=Int.toNat_of_nonneg w1;have n2:((p.t.toNat:Nat):Int)=p.t:=Int.toNat_of_nonneg w3;have n3:p.d=tx p.tx:=(aWX p).symm;simp only[if_true,kE,show((0:Int) !=0)=false from rfl,aR.f0,bT.load,B2.bx.cell,Pk.cells,cG,reduceIte] at hk ⊢;refine aLQ S2 (by omega) p.f λh3 F3 x3 e3 S3 K3=>?_;have B3:=B2.keep K3;have b3:=aTv st p.f;rw[←e3] at b3 hk;simp only[aR.f1,cA.load,B3.bx.cell,Pk.cells,fE,cG,reduceIte];rw[←n1];refine aIr S3 (by omega) (n:=p.s.toNat) (by omega) λh4 F4 x4 e4 S4 K4=>?_;have B4:=B3.keep K4;have b4:=aQd x3 p.s.toNat;rw[←e4] at b4 hk;simp only[aR.f2,cA.load,B4.bx.cell,Pk.cells,fE,cG,reduceIte];rw[←n2];refine aIr S4 (by omega) (n:=p.t.toNat) (by omega) λh5 F5 x5 e5 S5 K5=>?_;have B5:=B4.keep K5;have b5:=aQd x4 p.t.toNat;rw[←e5] at b5 hk;simp only[aR.f3,bR.load,B5.bx.cell,Pk.cells,fE,cG,reduceIte];rw[n3];refine aQb S5 (by omega) p.tx λh6 F6 x6 e6 S6 K6=>?_;subst e6;exact hk _ _ S6 ((((K2.trans K3).trans K4).trans K5).trans K6)
theorem aIi(x:Int):dA PG (convert bT cA (.int .i64 x))=some (.int .u64 (IntKind.u64.wrap x)):=by kernel_rfl
theorem aNW{h:PH}{p:Pk}(w:p.wf)(hr:p.right=true){k:cE}(hk:∀h',cZ h h'->k (.string (tx p.bs)) h'):aT PG yI #[.agg p.cells.toArray] h k:=by
 obtain⟨r1,r2,-,-,r5⟩:=Pk.right_iff.1 hr;obtain⟨w1,w2,w3,w4⟩:=w;have ed:=aWX p;have el:=aQ8 p;obtain⟨f,s,t,d⟩:=p;obtain⟨f,rfl⟩:=zLn r1;obtain⟨s,rfl⟩:=zLn w1;obtain⟨t,rfl⟩:=zLn w3;simp only at r2 w2 w4 r5;unfold Pk.bs at hk;simp only[pQ] at hk;generalize Pk.tx ⟨(f:Int),(s:Int),(t:Int),d⟩=l at *;subst ed;simp only[iB] at el r5;apply sN.call;unfold sN;intro r hr
 try rw[cW]
 have u1:cZ h (h.set r (.cells (Value.cells (.agg (Pk.cells ⟨(f:Int),(s:Int),(t:Int),tx l⟩).toArray)) aR)):=cU.new hr;have B1:Bx (h.set r (.cells (Value.cells (.agg (Pk.cells ⟨(f:Int),(s:Int),(t:Int),tx l⟩).toArray)) aR)) r (Pk.cells ⟨(f:Int),(s:Int),(t:Int),tx l⟩):=Bx.new;generalize h.set r (.cells (Value.cells (.agg (Pk.cells ⟨(f:Int),(s:Int),(t:Int),tx l⟩).toArray)) aR)=h1 at *;have l0:∀{h':PH},cZ h1 h'->cD PG h' (loadAt bT (pT r 0))=some (.int .i64 (f:Int)):=λu=>by rw[bT.load,(B1.ext u).cell];rfl
 have l1:∀{h':PH},cZ h1 h'->cD PG h' (loadAt cA (pT r 1))=some (.int .u64 (s:Int)):=λu=>by rw[cA.load,(B1.ext u).cell];rfl
 have l2:∀{h':PH},cZ h1 h'->cD PG h' (loadAt cA (pT r 2))=some (.int .u64 (t:Int)):=λu=>by rw[cA.load,(B1.ext u).cell];rfl
 have l3:∀{h':PH},cZ h1 h'->cD PG h' (loadAt bR (pT r 3))=some (.string (tx l)):=λu=>by rw[bR.load,(B1.ext u).cell];rfl
 have c1:IntKind.u64.wrap (f:Int)=(f:Int):=gL (by omega) (by omega);have c2:IntKind.u64.wrap (l.length:Int)=(l.length:Int):=gL (by omega) (by omega);have ln:dA PG (Builtin.len_ #[bR] bT #[.string (tx l)])=some (.int .i64 (l.length:Int)):=by rw[lP bR.und,iB]
 simp only[aR.f0,aR.f1,aR.f2,aR.f3,l0 cU.refl,l1 cU.refl,l2 cU.refl,l3 cU.refl,ln,aIi,c1,c2,cG,reduceIte,cT,Nat.reduceAdd];refine tH (by omega) (by decide) λh2 u2=>?_;simp only[fE,l1 u2,l2 u2,l3 u2,eq_self,true_and];refine tH (by omega) (by decide) λh3 u3=>?_;have e3:=u2.trans u3;have a1:dA PG (binOp .add bR (.string (tx (be f 1))) (.string (tx (be s 8))))=some (.string (tx (be f 1++be s 8))):=lJ (by simp only[iC];decide);simp only[l2 e3,l3 e3,a1,eq_self,true_and,cG,reduceIte,cT,Nat.reduceAdd];refine tH (by omega) (by decide) λh4 u4=>?_;have e4:=e3.trans u4;have a2:dA PG (binOp .add bR (.string (tx (be f 1++be s 8))) (.string (tx (be t 8))))=some (.string (tx ((be f 1++be s 8)++be t 8))):=lJ (by simp only[iC,jP];decide);simp only[l3 e4,a2,eq_self,true_and,cG,reduceIte,cT,Nat.reduceAdd];refine tH (by omega) (by decide) λh5 u5=>?_;have e5:=e4.trans u5;have a3:dA PG (binOp .add bR (.string (tx ((be f 1++be s 8)++be t 8))) (.string (tx (be l.length 2))))=some (.string (tx (((be f 1++be s 8)++be t 8)++be l.length 2))):=lJ (by simp only[iC,jP];decide);have a4:dA PG (binOp .add bR (.string (tx (((be f 1++be s 8)++be t 8)++be l.length 2))) (.string (tx l)))=some (.string (tx ((((be f 1++be s 8)++be t 8)++be l.length 2)++l))):=lJ (by simp only[iC,jP];omega);simp only[l3 e5,a3,a4,eq_self,true_and,cG,reduceIte,cT,Nat.reduceAdd];rw[mT,mT,mT];exact hk _ (u1.trans e5)
def Pk.v(p:Pk):Value:=.agg p.cells.toArray
def aGC(p:Pk):Tx×Int:=if p.right then(p.bs,0) else([],1)
theorem aS1(p:Pk):aIu (wPk (0,[]) p)=aGC p:=by
 unfold aGC;cases hr:p.right with
 | true=>rw[aVf hr];rfl
 | false=>
  unfold aIu;rw[aTm hr,if_neg (by decide)];rfl
theorem aSk{h:PH}{p:Pk}(w:p.wf){k:cE}(hk:∀h',cZ h h'->k (.tuple #[.string (tx (aGC p).1),.int .i64 (aGC p).2]) h'):aT PG aGT #[p.v] h k:=by
 apply aGP.call;unfold aGP;intro r1 hr1
 try rw[cW]
 have u1:cZ h (h.set r1 (.cells (Value.cells p.v) aR)):=cU.new hr1;have B1:Bx (h.set r1 (.cells (Value.cells p.v) aR)) r1 p.cells:=Bx.new;generalize h.set r1 (.cells (Value.cells p.v) aR)=h1 at *;intro r3 hr3
 try rw[cW]
 have S0:=WN.start hr3;have u3:cZ h1 (h1.set r3 (.cells (dP PG fJ) fJ)):=cU.new hr3;generalize h1.set r3 (.cells (dP PG fJ) fJ)=h3 at *;have lp:cD PG h3 (loadAt aR (pT r1 0))=some (.agg p.cells.toArray):=(B1.ext u3).pk rfl;simp only[lp,cG,reduceIte,cT,Nat.reduceAdd];refine aYz S0 (by simp) p w λh4 F4 S4 K4=>?_;refine aM2 S4.at_ λh5 u5=>?_;simp only[cG,reduceIte,cT,Nat.reduceAdd];have:=hk h5 (u1.trans (S4.upd.fresh u5 S4.fresh));rw[←aS1] at this;exact this
theorem Pk.eqD{h:PH}{d:Nat}(m m':Pk):cD PG h (Op.equalIn (d+1+1) aR m.v m'.v)=some (decide (m=m')):=by
 have:cD PG h (Op.equalIn (d+1+1) aR m.v m'.v)=some (m.f==m'.f&&(m.s==m'.s&&(m.t==m'.t&&(m.d==m'.d&&true)))):=by
  refine(aDf aR.und (by kernel_rfl) (λf=>match f.offset with|0=>m.f==m'.f|1=>m.s==m'.s|2=>m.t==m'.t|_=>m.d==m'.d) ?_);intro f hf;simp only[gP,kL,or_false] at hf;rcases hf with rfl|rfl|rfl|rfl
  ·exact⟨by decide,_,_,iP bT.und rfl rfl,iP bT.und rfl rfl,uO bT.und⟩
  ·exact⟨by decide,_,_,iP cA.und rfl rfl,iP cA.und rfl rfl,uO cA.und⟩
  ·exact⟨by decide,_,_,iP cA.und rfl rfl,iP cA.und rfl rfl,uO cA.und⟩
  ·exact⟨by decide,_,_,iP bR.und rfl rfl,iP bR.und rfl rfl,aBq bR.und⟩
 rw[this,aCr];congr 1;rw[zLm];obtain⟨a,b,c,e⟩:=m;obtain⟨a',b',c',e'⟩:=m';simp
theorem Pk.eql{h:PH}{x y:Operand}(m m':Pk):cD PG h (jS .eql aR x y m.v m'.v)=some (.bool (decide (m=m'))):=aLJ (by kernel_rfl) (Pk.eqD (d:=9998) m m')
theorem Pk.zb:dA PG (build aR #[])=some (Pk.v default):=by kernel_rfl
def aHA(ahead:List Tx)(p:Pk):Tx:=if p.right then oP (ahead.flatten++p.bs) else []
theorem aM1{p:Pk}(h:p.right=true):p.bs.length≤83:=by
 have:=(Pk.right_iff.1 h).2.2.2.2;simp only[Pk.bs,jP,iC,aQ8];omega
theorem aSC{h00 h:PH}{p:Pk}(w:p.wf)(hK:mU h00){ahead:List Tx}{v:Value}{F:List Nat}(O:dZ h bR 1 v (ahead.map iY) F)(e0:cZ h00 h)(f0:eD h00 F)(hl:ahead.flatten.length≤1000)(hl2:ahead.length≤10){k:cE}(hk:∀h',cZ h00 h'->k (.string (tx (aHA ahead p))) h'):aT PG aDF #[p.v,v] h k:=by
 apply aFm.call;unfold aFm;intro r1 hr1
 try rw[cW]
 have u1:cZ h (h.set r1 (.cells (Value.cells p.v) aR)):=cU.new hr1;have B1:Bx (h.set r1 (.cells (Value.cells p.v) aR)) r1 p.cells:=Bx.new;generalize h.set r1 (.cells (Value.cells p.v) aR)=h1 at *;have lp:∀{h':PH},cZ h1 h'->cD PG h' (loadAt aR (pT r1 0))=some p.v:=λu=>(B1.ext u).pk rfl;simp only[lp cU.refl,cG,reduceIte,cT,Nat.reduceAdd];refine aSk w λh2 u2=>?_;have e2:=u1.trans u2;cases hr:p.right with
 | false=>
  have n1:((1:Int) !=0)=true:=by decide
  have eb:aGC p=([],1):=by unfold aGC;rw[hr];rfl
  have ed:aHA ahead p=[]:=by unfold aHA;rw[hr];rfl
  rw[ed] at hk;simp only[eb,kE,n1,cG,reduceIte,cT,Nat.reduceAdd];exact hk _ (e0.trans e2)
 | true=>
  have eb:aGC p=(p.bs,0):=by unfold aGC;rw[hr];rfl
  have ed:aHA ahead p=oP (ahead.flatten++p.bs):=by unfold aHA;rw[hr];rfl
  have ne:¬p=default:=λe=>by rw[e] at hr;exact absurd hr (by decide)
  have nd:=decide_eq_false ne;have hb:=aM1 hr;rw[ed] at hk;simp only[eb,kE,lp u2,Pk.zb,Pk.eql,nd,aMO,cG,reduceIte,cT,Nat.reduceAdd];intro r22 hr22;refine fI ?_
  try rw[cW]
  have u3:cZ h2 (h2.set r22 (.cells #[.string (tx p.bs)] bR)):=cU.new hr22;have s1:fR (h2.set r22 (.cells #[.string (tx p.bs)] bR)) 1 (.slice (some ⟨r22,0,none⟩) 1 1) ([p.bs].map iY):=(dZ.lit (iY.rows [p.bs]) dL (by simp) (by decide) (by simp[iY])).slR;generalize h2.set r22 (.cells #[.string (tx p.bs)] bR)=h3 at *;have e3:=e2.trans u3;refine jF cP.und cP.und bR.info bR.size bR.bytes bR.zero rfl (by decide) (O.ext e3) s1 (λr hr u hu=>by
   obtain⟨s,-,rfl⟩:=lO.1 hr;exact iY.isC s u hu) (by simp;omega) ?_
  intro v4 h4 F4 O4 u4 g4 _;rw[←qI] at O4;have e4:cZ h00 h4:=(e0.trans e3).fresh u4 f0;refine aNw (hK.ext e4) O4.slR (by rw[zLF,jP,show [p.bs].flatten=p.bs by simp];omega) λh5 u5=>?_;have:=hk h5 (e4.trans u5);rw[zLF,show [p.bs].flatten=p.bs by simp];exact this
def mN(p:Pk):Tx:=aHA [] p
def aBs(p:Pk):Tx:=aHA [[97,99,107]] p
theorem aFd{h:PH}{p:Pk}(w:p.wf)(hK:mU h){k:cE}(hk:∀h',cZ h h'->k (.string (tx (mN p))) h'):aT PG qR #[p.v] h k:=by
 apply aB8.call;unfold aB8;intro r1 hr1
 try rw[cW]
 have u1:cZ h (h.set r1 (.cells (Value.cells p.v) aR)):=cU.new hr1;have B1:Bx (h.set r1 (.cells (Value.cells p.v) aR)) r1 p.cells:=Bx.new;generalize h.set r1 (.cells (Value.cells p.v) aR)=h1 at *;have lp:cD PG h1 (loadAt aR (pT r1 0))=some p.v:=B1.pk rfl;simp only[lp,cG,reduceIte,cT,Nat.reduceAdd];exact aSC w hK (ahead:=[]) dZ.nil u1 (λb hb=>by cases hb) (by simp) (by simp) hk
theorem aOp{h:PH}{p:Pk}(w:p.wf)(hK:mU h){k:cE}(hk:∀h',cZ h h'->k (.string (tx (aBs p))) h'):aT PG aC0 #[p.v] h k:=by
 apply aFk.call;unfold aFk;intro r1 hr1
 try rw[cW]
 have u1:cZ h (h.set r1 (.cells (Value.cells p.v) aR)):=cU.new hr1;have B1:Bx (h.set r1 (.cells (Value.cells p.v) aR)) r1 p.cells:=Bx.new;generalize h.set r1 (.cells (Value.cells p.v) aR)=h1 at *;have lp:cD PG h1 (loadAt aR (pT r1 0))=some p.v:=B1.pk rfl;have q:({data:=#[97,99,107]}:ByteArray)=tx [97,99,107]:=rfl;simp only[lp,q,aMO,cG,reduceIte,cT,Nat.reduceAdd];intro r4 hr4;refine fI ?_
 try rw[cW]
 have u2:cZ h1 (h1.set r4 (.cells #[.string (tx [97,99,107])] bR)):=cU.new hr4;have O:dZ (h1.set r4 (.cells #[.string (tx [97,99,107])] bR)) bR 1 (.slice (some ⟨r4,0,none⟩) 1 1) ([[97,99,107]].map iY) [r4]:=dZ.lit (iY.rows [[97,99,107]]) dL (by simp) (by decide) (by simp[iY]);exact aSC w hK (ahead:=[[97,99,107]]) O (u1.trans u2) (eD.one (u1.none hr4)) (by simp) (by simp) hk
def fS(c:UInt8)(n:Nat):Tx:=c::be n 8
theorem wJ(c:UInt8)(n:Nat):(fS c n).length=9:=by simp[fS,iC]
theorem aQE{h:PH}{c:UInt8}{n:Nat}(hn:n<18446744073709551616){k:cE}(hk:∀h',cZ h h'->k (.string (tx (fS c n))) h'):aT PG aDa #[.string (tx [c]),.int .u64 (n:Int)] h k:=by
 apply aIU.call;unfold aIU;intro r1 hr1
 try rw[cW]
 have S0:=WN.start hr1;generalize h.set r1 (.cells (dP PG fJ) fJ)=h1 at *;refine aWV S0 (by simp) (by simp) λh2 F2 x2 e2 S2 K2=>?_;refine aIr S2 (by rw[e2];simp) hn λh3 F3 x3 e3 S3 K3=>?_;refine aM2 S3.at_ λh4 u4=>?_;have eb:aIu (x3.1,x3.2)=(fS c n,0):=by rw[e3,e2];rfl
 simp only[eb,cG,reduceIte,cT,Nat.reduceAdd];exact hk _ (S3.upd.fresh u4 S3.fresh)
theorem aIf{h:PH}{n:Nat}(hn:n<18446744073709551616){k:cE}(hk:∀h',cZ h h'->k (.string (tx (fS 99 n))) h'):aT PG sU #[.int .u64 (n:Int)] h k:=by
 apply aHX.call;unfold aHX;exact aQE (c:=99) hn hk
theorem aDg{h:PH}{n:Nat}(hn:n<18446744073709551616){k:cE}(hk:∀h',cZ h h'->k (.string (tx (fS 114 n))) h'):aT PG qB #[.int .u64 (n:Int)] h k:=by
 apply aD3.call;unfold aD3;exact aQE (c:=114) hn hk
theorem aJt{h:PH}{n:Nat}(hn:n<18446744073709551616){k:cE}(hk:∀h',cZ h h'->k (.string (tx (fS 97 n))) h'):aT PG xJ #[.int .u64 (n:Int)] h k:=by
 apply aEH.call;unfold aEH;exact aQE (c:=97) hn hk
theorem aAL{h:PH}{c:UInt8}{n:Nat}(hn:n<18446744073709551616){k:cE}(hk:∀h',cZ h h'->k (.string (tx (fS c n))) h'):aT PG jJ #[.string (tx [c]),.int .u64 (n:Int)] h k:=by
 apply aDN.call;unfold aDN;refine tH hn (by decide) λh2 u2=>?_;exact aR3 (lJ (by simp[iC])) (hk _ u2)
def aWO(i:Nat):List Value->PH->Nat:=λvs _=>match vs[i]? with
 | some (Value.int _ j)=>j.toNat
 | _=>0
theorem aOP{h:PH}{a:Nat}{st:kN}(R:rA h a st.1 st.2){k:cE}(hk:k (.int .i64 st.1) h):aT PG nZ #[pT a 0] h k:=
 aMM R.here rfl hk
theorem aPq{h:PH}{a:Nat}{st:kN}(R:rA h a st.1 st.2)(x:Int){k:cE}(hk:∀h',rA h' a (aKg st x).1 (aKg st x).2->cU [a] h h'->k (.tuple #[]) h'):aT PG lD #[pT a 0,.int .i64 x] h k:=by
 apply qG.call;unfold qG;have ha:=R.here;have c0:dD h ⟨a,0,none⟩=some (.int .i64 st.1):=by simp[dD,ha]
 unfold aKg at hk;by_cases h0:st.1=0
 ·have q:(st.1==0)=true:=by simp[h0]
  rw[if_pos h0] at hk;simp only[nN.f0,fY.load,c0,hQ,q,cG,reduceIte];refine iU fY.und rfl ha (by simp) rfl fY.info fY.size ?_;exact hk _ ⟨dL⟩ (cU.set (by simp))
 ·have q:(st.1==0)=false:=by simp[h0]
  rw[if_neg h0] at hk;simp only[nN.f0,fY.load,c0,hQ,q,cG,reduceIte];exact hk h ⟨ha⟩ cU.refl
def aLH(st:kN):Int:=if st.1=0∧st.2≠[] then 7 else st.1
theorem aXH{h:PH}{a:Nat}{st:kN}(R:rA h a st.1 st.2){k:cE}(hk:k (.int .i64 (aLH st)) h):aT PG aEP #[pT a 0] h k:=by
 apply aD5.call;unfold aD5;refine aVL R ?_;unfold aLH at hk;by_cases h0:st.1=0∧st.2≠[]
 ·rw[if_pos h0] at hk;have hp:=aHN.2 h0.2;have g:((0:Int)<(st.2.length:Int))=True:=eq_true (by omega);simp only[h0.1,if_true,g,cG,reduceIte];exact hk
 ·rw[if_neg h0] at hk;have g:((0:Int)<(if st.1=0 then(st.2.length:Int) else 0))=False:=by
   apply eq_false;split
   ·rename_i h1;have:st.2=[]:=Classical.byContradiction λh2=>h0 ⟨h1,h2⟩;rw[this];simp
   ·decide
  simp only[g,gK.f0,cG,reduceIte];exact aOP R hk
theorem cU.ext{F:List Nat}{h h1 h2:PH}(a:cU F h h1)(u:cZ h1 h2):cU F h h2:=a.trans u.upd
def Nt.of(x:Int×Pk):Nt:=⟨x.1,x.2⟩
theorem aVx(x:Nt):jK PG (buildSlice dQ 1 #[(0,.agg x.cells.toArray)])=some (.cells x.cells.toArray fZ (0,0),λr=>pure (.slice (some ⟨r,0,none⟩) 1 1)):=by kernel_rfl
theorem Nt.isC(l:List Nt):∀r∈l.map Nt.cells,∀u∈r,fP u=true:=λr hr u hu=>by
 obtain⟨m,_,rfl⟩:=lO.1 hr;simp only[Nt.cells,gP,kL,or_false] at hu;rcases hu with rfl|rfl|rfl|rfl|rfl<;>rfl
def It.of(x:Int×Pk):It:=⟨x.2,x.1⟩
theorem It.isC(l:List It):∀r∈l.map It.cells,∀u∈r,fP u=true:=λr hr u hu=>by
 obtain⟨m,_,rfl⟩:=lO.1 hr;simp only[It.cells,gP,kL,or_false] at hu;rcases hu with rfl|rfl|rfl|rfl|rfl<;>rfl
theorem aMy{h:PH}{l:List UInt8}(hl:l.length≤8){k:cE}(hk:k (.int .u64 (val l)) h):aT PG sP #[.string (tx l)] h k:=by
 apply aBQ.call;unfold aBQ;refine⟨λvs h'=>∃i:Nat,i≤l.length∧vs=[.string (tx l),.int .u64 (val (l.take i)),.int .i64 i]∧h'=h,gU l.length 2,⟨0,by omega,rfl,rfl⟩,?_⟩;rintro ρ h' ⟨i,hi,hvs,rfl⟩;simp only[iH,iT,kV,and_true] at hvs;obtain⟨s0,s1,s3⟩:=hvs;rw[s0,s1,s3];unfold aF5;by_cases hlt:i<l.length
 ·have hd:((i:Int)<(l.length:Int))=True:=by apply eq_true;omega
  obtain⟨b,hb⟩:∃b,l[i]? =some b:=⟨_,lQ hlt⟩;have hsm:=aPM hlt hl;have hb8:=b.toNat_lt;have ei:=pR (i:=i) (by omega);have e2:IntKind.u64.wrap ((val (l.take i):Int)*256)=((val (l.take i)*256:Nat):Int):=by rw[gL (by omega) (by omega)];omega
  have e3:IntKind.u64.wrap (b.toNat:Int)=(b.toNat:Int):=gL (by omega) (by omega);have e4:IntKind.u64.wrap (((val (l.take i)*256:Nat):Int)+(b.toNat:Int))=((val (l.take (i+1)):Nat):Int):=by rw[aQc hb,gL (by omega) (by omega)];omega
  simp only[bR.len,iB,hd,e2,zF bR.und hb,aRU,e3,e4,ei,cG,reduceIte];exact⟨⟨i+1,by omega,rfl,by trivial⟩,by simp[gU,s3];omega⟩
 ·have hd:((i:Int)<(l.length:Int))=False:=by apply eq_false;omega
  rw[mW (by omega)];simp only[bR.len,iB,hd,cG,reduceIte];exact hk
structure wO(h:PH)(a:Nat)(S:List UInt8)(e:Int)(s:List UInt8):Prop where
 here:h a=some (.cells #[.string (tx S),.int .i64 ((S.length-s.length:Nat):Int),.int .i64 e] eR (0,0))
 suf:s=S.drop (S.length-s.length)
 le:s.length≤S.length
theorem wO.upd{h h':PH}{a:Nat}{S:List UInt8}{e:Int}{s:List UInt8}{G:List Nat}(H:wO h a S e s)(u:cU G h h')(hd:a∉G):wO h' a S e s:=⟨u.get H.here hd,H.suf,H.le⟩
theorem wO.ext{h h':PH}{a:Nat}{S:List UInt8}{e:Int}{s:List UInt8}(H:wO h a S e s)(u:cZ h h'):wO h' a S e s:=H.upd u (by simp)
theorem aJy{h:PH}{a:Nat}{S:List UInt8}{e:Int}{s:List UInt8}(hR:wO h a S e s)(hS:S.length≤1000000000000)(n:Int){k:cE}
  (hk:∀h',wO h' a S (jR (e,s) n).2.1 (jR (e,s) n).2.2->cU [a] h h'->k (.tuple #[.string (tx (jR (e,s) n).1),.bool (decide (e=0∧0≤n∧n≤s.length))]) h'):
  aT PG lL #[pT a 0,.int .i64 n] h k:=by
 have ha:=hR.here;have hle:=hR.le;have c0:dD h ⟨a,0,none⟩=some (.string (tx S)):=by simp[dD,ha]
 have c1:dD h ⟨a,1,none⟩=some (.int .i64 ((S.length-s.length:Nat):Int)):=by simp[dD,ha]
 have c2:dD h ⟨a,2,none⟩=some (.int .i64 e):=by simp[dD,ha]
 apply nO.call;unfold nO;unfold jR at hk;by_cases h0:e=0
 ·have q:(e !=0)=false:=by simp[h0]
  have bad:¬(0≤n∧n≤(s.length:Int))->cY PG (dN bT (pT a 2) (.int .i64 6)) h λv54 h55=>k (.tuple #[.string {data:=#[]},.bool false]) h55:=by
   intro hb;rw[if_neg (by rintro⟨_,h2⟩;exact hb h2),if_pos h0] at hk;have hdec:decide (e=0∧0≤n∧n≤(s.length:Int))=false:=by simp only[decide_eq_false_iff_not];rintro⟨_,h2⟩;exact hb h2
   rw[hdec] at hk;refine iU bT.und rfl ha (by simp) rfl bT.info bT.size ?_;exact hk _ ⟨by rw[dL];rfl,hR.suf,hR.le⟩ (cU.set (by simp))
  have esub:IntKind.i64.wrap ((S.length:Int)-((S.length-s.length:Nat):Int))=(s.length:Int):=by rw[eV (by omega) (by omega)];omega
  by_cases h1:n<0
  ·simp only[eR.f2,fE,bT.load,c2,q,h1,cG,reduceIte];exact bad (by omega)
  ·by_cases h2:(s.length:Int)<n
   ·simp only[eR.f0,eR.f1,eR.f2,fE,bT.load,bR.load,c0,c1,c2,q,h1,bR.len,iB,esub,h2,cG,reduceIte];exact bad (by omega)
   ·obtain⟨m,rfl⟩:=zLn (a:=n) (by omega);have hm:m≤s.length:=by omega
    have eadd:IntKind.i64.wrap (((S.length-s.length:Nat):Int)+(m:Int))=((S.length-(s.length-m):Nat):Int):=by rw[eV (by omega) (by omega)];omega
    have esub2:IntKind.i64.wrap (((S.length-(s.length-m):Nat):Int)-(m:Int))=((S.length-s.length:Nat):Int):=by rw[eV (by omega) (by omega)];omega
    rw[if_pos ⟨h0,by omega,by simpa using hm⟩] at hk;have hdec:decide (e=0∧0≤(m:Int)∧(m:Int)≤(s.length:Int))=true:=by simp only[decide_eq_true_eq];exact⟨h0,by omega,by omega⟩
    rw[hdec] at hk;simp only[eR.f0,eR.f1,eR.f2,fE,bT.load,bR.load,c0,c1,c2,q,h1,bR.len,iB,esub,h2,eadd,cG,reduceIte];refine iU bT.und rfl ha (by simp) rfl bT.info bT.size ?_;have hb:(h.set a (.cells (#[Value.string (tx S),.int .i64 ((S.length-s.length:Nat):Int),.int .i64 e].setIfInBounds 1 (.int .i64 ((S.length-(s.length-m):Nat):Int))) eR (0,0))) a=some (.cells #[.string (tx S),.int .i64 ((S.length-(s.length-m):Nat):Int),.int .i64 e] eR (0,0)):=dL;have ub:cU [a] h (h.set a (.cells (#[Value.string (tx S),.int .i64 ((S.length-s.length:Nat):Int),.int .i64 e].setIfInBounds 1 (.int .i64 ((S.length-(s.length-m):Nat):Int))) eR (0,0))):=cU.set (by simp);generalize h.set a (.cells (#[Value.string (tx S),.int .i64 ((S.length-s.length:Nat):Int),.int .i64 e].setIfInBounds 1 (.int .i64 ((S.length-(s.length-m):Nat):Int))) eR (0,0))=h2 at *;have d0:dD h2 ⟨a,0,none⟩=some (.string (tx S)):=by simp[dD,hb]
    have d1:dD h2 ⟨a,1,none⟩=some (.int .i64 ((S.length-(s.length-m):Nat):Int)):=by simp[dD,hb]
    have hcut:=aHx (P:=PG) (l:=S) (i:=S.length-s.length) (j:=S.length-(s.length-m)) (lo:=some (.int .i64 ((S.length-s.length:Nat):Int))) (hi:=some (.int .i64 ((S.length-(s.length-m):Nat):Int))) bR.und (.inr ⟨.i64,rfl⟩) (.inr ⟨.i64,rfl⟩) (by omega) (by omega);have hlist:(S.take (S.length-(s.length-m))).drop (S.length-s.length)=s.take m:=by
     conv=>rhs;rw[hR.suf]
     rw[zLx];congr 1;omega
    rw[hlist] at hcut;simp only[d0,d1,esub2,hcut,cG,reduceIte];rw[pQ,h0] at hk;have hlen:(s.drop m).length=s.length-m:=xV;refine hk _ ⟨?_,?_,by rw[hlen];omega⟩ ub
    ·rw[hlen,hb,h0]
    ·rw[hlen];have h1:S.drop (S.length-(s.length-m))=(S.drop (S.length-s.length)).drop m:=by
      rw[aI5];congr 1;omega
     rw[h1,←hR.suf]
 ·have q:(e !=0)=true:=by simp[h0]
  rw[if_neg (by rintro⟨h1,_⟩;exact h0 h1),if_neg h0] at hk;have hdec:decide (e=0∧0≤n∧n≤(s.length:Int))=false:=by simp only[decide_eq_false_iff_not];rintro⟨h1,_⟩;exact h0 h1
  rw[hdec] at hk;simp only[eR.f2,fE,bT.load,c2,q,cG,reduceIte];exact hk _ hR cU.refl
end
end Go.Proofs.YtppgkeodaejgcaaGreatDoor
